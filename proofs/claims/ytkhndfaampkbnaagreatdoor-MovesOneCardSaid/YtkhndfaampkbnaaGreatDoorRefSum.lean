/- Contract: the document's sums along a direction. -/
import Derived.Test.YtkhndfaampkbnaaGreatDoorRefTurn
namespace Go.Proofs.YtkhndfaampkbnaaGreatDoor
open Go Go.Dd Go.RowKit
set_option maxRecDepth 100000

/-- Where a number is added. -/
def kap (s : List Int) (k i : Nat) : Nat := (Shapes.idx (wo s k) (wo (Shapes.place s (i : Int)) k)).toNat
theorem wo_in {s p : List Int} {k : Nat} (hs : Shapes.good s) (hk : k < s.length) (hp : Shapes.inn s p = true) : ∃ X C d : Nat,
    Shapes.inn (wo s k) (wo p k) = true ∧ Shapes.idx (wo s k) (wo p k) = ((X * (Shapes.prod (s.drop (k + 1))).toNat + C : Nat) : Int) ∧
    Shapes.idx s p = ((X * ((s.getD k default).toNat * (Shapes.prod (s.drop (k + 1))).toNat) + (d * (Shapes.prod (s.drop (k + 1))).toNat + C) : Nat) : Int) ∧ X < (Shapes.prod (s.take k)).toNat ∧ d < (s.getD k default).toNat ∧ C < (Shapes.prod (s.drop (k + 1))).toNat := by
  have lp := Shapes.inn_length hp
  have hkp : k < p.length := by omega
  have gt : Shapes.good (s.take k) := fun y hy => hs y (List.mem_of_mem_take hy)
  have gd := Shapes.good_drop hs (k + 1)
  have l1 : (p.take k).length = (s.take k).length := by rw [List.length_take, List.length_take]; omega
  have hp2 := hp
  rw [split_at hk, split_at hkp, Shapes.inn_append l1, Bool.and_eq_true] at hp2
  obtain ⟨i1, i2⟩ := hp2
  simp only [Shapes.inn, Bool.and_eq_true, decide_eq_true_eq] at i2
  obtain ⟨⟨d0, d1⟩, i2⟩ := i2
  have b1 := Shapes.idx_lt gt i1
  have b2 := Shapes.idx_lt gd i2
  have e1 : Shapes.idx (wo s k) (wo p k) = Shapes.idx (s.take k) (p.take k) * Shapes.prod (s.drop (k + 1)) + Shapes.idx (s.drop (k + 1)) (p.drop (k + 1)) := Shapes.idx_append l1
  have e2 : Shapes.idx s p = Shapes.idx (s.take k) (p.take k) * (s.getD k default * Shapes.prod (s.drop (k + 1))) + (p.getD k default * Shapes.prod (s.drop (k + 1)) + Shapes.idx (s.drop (k + 1)) (p.drop (k + 1))) := by
    have e : Shapes.idx s p = Shapes.idx (s.take k ++ s.getD k default :: s.drop (k + 1)) (p.take k ++ p.getD k default :: p.drop (k + 1)) := by rw [← split_at hk, ← split_at hkp]
    rw [e, Shapes.idx_append l1]; rfl
  have io : Shapes.inn (wo s k) (wo p k) = true := by
    unfold wo
    rw [Shapes.inn_append l1, i1, i2]; rfl
  obtain ⟨X, hX⟩ := Int.eq_ofNat_of_zero_le b1.1
  obtain ⟨C, hC⟩ := Int.eq_ofNat_of_zero_le b2.1
  obtain ⟨d, hd⟩ := Int.eq_ofNat_of_zero_le d0
  obtain ⟨a, ha⟩ := Int.eq_ofNat_of_zero_le (show 0 ≤ Shapes.prod (s.drop (k + 1)) by omega)
  obtain ⟨n, hn⟩ := Int.eq_ofNat_of_zero_le (show 0 ≤ s.getD k default by omega)
  rw [hX, ha, hC] at e1
  rw [hX, hn, ha, hC, hd] at e2
  refine ⟨X, C, d, io, ?_, ?_, by omega, by omega, by omega⟩
  · rw [e1, ha, Int.toNat_natCast]; push_cast; rfl
  · rw [e2, ha, hn, Int.toNat_natCast, Int.toNat_natCast]; push_cast; rfl
theorem nat_kap {X n a d C : Nat} (hd : d < n) (hC : C < a) : (X * (n * a) + (d * a + C)) / (n * a) = X ∧ (X * (n * a) + (d * a + C)) % a = C := by
  have h1 : d * a + C < n * a := rc_lt hd hC
  refine ⟨?_, ?_⟩
  · rw [Nat.mul_comm X, Nat.mul_add_div (by omega), Nat.div_eq_of_lt h1]; omega
  · have e : X * (n * a) + (d * a + C) = a * (X * n + d) + C := by rw [Nat.mul_add, ← Nat.mul_assoc, Nat.mul_comm a (X * n), Nat.mul_comm a d]; omega
    rw [e, Nat.mul_add_mod, Nat.mod_eq_of_lt hC]
theorem kap_eq {s : List Int} {k i : Nat} (hs : Shapes.ok s = true) (hk : k < s.length) (hi : (i : Int) < Shapes.prod s) :
    kap s k i = i / ((s.getD k default).toNat * (Shapes.prod (s.drop (k + 1))).toNat) * (Shapes.prod (s.drop (k + 1))).toNat + i % (Shapes.prod (s.drop (k + 1))).toNat ∧
    Shapes.inn (wo s k) (wo (Shapes.place s (i : Int)) k) = true := by
  have S := (Shapes.ok_iff s).1 hs
  obtain ⟨X, C, d, io, e1, e2, -, hd, hC⟩ := wo_in S.2.1 hk (Shapes.place_in (i := (i : Int)) (by omega) S.2.1)
  rw [Shapes.idx_place (by omega) S.2.1, Int.emod_eq_of_lt (by omega) hi] at e2
  have e2 : i = X * ((s.getD k default).toNat * (Shapes.prod (s.drop (k + 1))).toNat) + (d * (Shapes.prod (s.drop (k + 1))).toNat + C) := by exact_mod_cast e2
  obtain ⟨n1, n2⟩ := nat_kap (X := X) hd hC
  rw [← e2] at n1 n2
  refine ⟨?_, io⟩
  unfold kap
  rw [e1, Int.toNat_natCast, n1, n2]
/-- Sums along a direction, picked from all. -/
theorem sm_pick {P n a X C : Nat} (hX : X < P) (hC : C < a) (f : Nat → BitVec 32) :
    sm (P * (n * a)) (fun i => if i / (n * a) * a + i % a = X * a + C then f i else 0#32) = sm n fun j => f (X * (n * a) + (j * a + C)) := by
  have key : ∀ Y j D, Y < P → j < n → D < a → (if (Y * (n * a) + (j * a + D)) / (n * a) * a + (Y * (n * a) + (j * a + D)) % a = X * a + C then f (Y * (n * a) + (j * a + D)) else 0#32) = if Y = X ∧ D = C then f (Y * (n * a) + (j * a + D)) else 0#32 := fun Y j D _ hj hD => by
    obtain ⟨n1, n2⟩ := nat_kap (X := Y) hj hD
    rw [n1, n2]
    by_cases e : Y * a + D = X * a + C
    · have h1 : (Y * a + D) / a = (X * a + C) / a := by rw [e]
      have q1 : (Y * a + D) / a = Y := by rw [Nat.mul_comm, Nat.mul_add_div (by omega), Nat.div_eq_of_lt hD]; omega
      have q2 : (X * a + C) / a = X := by rw [Nat.mul_comm, Nat.mul_add_div (by omega), Nat.div_eq_of_lt hC]; omega
      rw [q1, q2] at h1
      subst h1
      rw [if_pos e, if_pos ⟨rfl, by omega⟩]
    · rw [if_neg e, if_neg (by rintro ⟨rfl, rfl⟩; exact e rfl)]
  rw [sm_block]
  have e1 : sm P (fun Y => sm (n * a) fun y => (if (Y * (n * a) + y) / (n * a) * a + (Y * (n * a) + y) % a = X * a + C then f (Y * (n * a) + y) else 0#32)) = sm P fun Y => sm n fun j => sm a fun D => if Y = X ∧ D = C then f (Y * (n * a) + (j * a + D)) else 0#32 :=
    sm_congr fun Y hY => by
      rw [sm_block]
      exact sm_congr fun j hj => sm_congr fun D hD => key Y j D hY hj hD
  rw [e1, sm_one (k := X) fun Y _ hne => sm_zero fun j _ => sm_zero fun D _ => if_neg (fun h => hne h.1), if_pos hX]
  refine sm_congr fun j _ => ?_
  rw [sm_one (k := C) fun D _ hne => if_neg (fun h => hne h.2), if_pos hC, if_pos ⟨rfl, rfl⟩]
theorem gather {s : List Int} {k : Nat} {l m : List (BitVec 32)} (hs : Shapes.ok s = true) (hk : k < s.length) (hl : l.length = (Shapes.prod s).toNat) (hm : m.length = (Shapes.prod (wo s k)).toNat)
    (h : ∀ c, c < m.length → m.getD c default = sm l.length fun j => if kap s k j = c then l.getD j default else 0#32) : m = suL s l k := by
  have S := (Shapes.ok_iff s).1 hs
  refine pl_ext (wo_good S.2.1) hm (suL_length hs hk) fun r hr => ?_
  obtain ⟨hl2, l1, i1, i2⟩ := wo_inn hk hr
  have d := dim_at S.2.1 hk
  rw [su_at hs hk hr]
  have il := Shapes.idx_lt (wo_good (k := k) S.2.1) hr
  have b1 := Shapes.idx_lt (fun y hy => S.2.1 y (List.mem_of_mem_take hy)) i1
  have b2 := Shapes.idx_lt (Shapes.good_drop S.2.1 (k + 1)) i2
  have e1 : Shapes.idx (wo s k) r = Shapes.idx (s.take k) (r.take k) * Shapes.prod (s.drop (k + 1)) + Shapes.idx (s.drop (k + 1)) (r.drop k) := by
    rw [← Shapes.idx_append l1, List.take_append_drop]; rfl
  have e2 : ∀ j : Int, Shapes.idx s (ins k j r) = Shapes.idx (s.take k) (r.take k) * (s.getD k default * Shapes.prod (s.drop (k + 1))) + (j * Shapes.prod (s.drop (k + 1)) + Shapes.idx (s.drop (k + 1)) (r.drop k)) := fun j => by
    have e : Shapes.idx s (ins k j r) = Shapes.idx (s.take k ++ s.getD k default :: s.drop (k + 1)) (r.take k ++ j :: r.drop k) := by rw [← split_at hk]; rfl
    rw [e, Shapes.idx_append l1]; rfl
  have es := prod_split hk
  obtain ⟨X, hX⟩ := Int.eq_ofNat_of_zero_le b1.1
  obtain ⟨C, hC⟩ := Int.eq_ofNat_of_zero_le b2.1
  obtain ⟨a, ha⟩ := Int.eq_ofNat_of_zero_le (show 0 ≤ Shapes.prod (s.drop (k + 1)) by omega)
  obtain ⟨n, hn⟩ := Int.eq_ofNat_of_zero_le (show 0 ≤ s.getD k default by omega)
  obtain ⟨P, hP⟩ := Int.eq_ofNat_of_zero_le (show 0 ≤ Shapes.prod (s.take k) by omega)
  have hc : (Shapes.idx (wo s k) r).toNat = X * a + C := by
    rw [e1, hX, ha, hC]
    exact (congrArg Int.toNat (show (X : Int) * a + C = ((X * a + C : Nat) : Int) by push_cast; rfl)).trans (Int.toNat_natCast _)
  have hL : l.length = P * (n * a) := by
    rw [hl, es, hP, hn, ha]
    exact (congrArg Int.toNat (show (P : Int) * (n * a) = ((P * (n * a) : Nat) : Int) by push_cast; rfl)).trans (Int.toNat_natCast _)
  have hj : ∀ j : Nat, pl s l (ins k (j : Int) r) = l.getD (X * (n * a) + (j * a + C)) default := fun j => by
    unfold pl
    rw [e2, hX, hn, ha, hC, show (X : Int) * ((n : Int) * a) + ((j : Int) * a + C) = ((X * (n * a) + (j * a + C) : Nat) : Int) by push_cast; rfl, Int.toNat_natCast]
  have hm2 : (Shapes.idx (wo s k) r).toNat < m.length := by rw [hm]; omega
  have e3 := h _ hm2
  unfold pl
  rw [e3, hc, hL]
  have e4 : sm (P * (n * a)) (fun j => if kap s k j = X * a + C then l.getD j default else 0#32) = sm (P * (n * a)) fun j => if j / (n * a) * a + j % a = X * a + C then l.getD j default else 0#32 := sm_congr fun j hj => by
    have := (kap_eq hs hk (i := j) (by omega)).1
    rw [hn, ha, Int.toNat_natCast, Int.toNat_natCast] at this
    rw [this]
  rw [e4, sm_pick (by omega) (by omega) fun i => l.getD i default, hn, Int.toNat_natCast]
  exact sm_congr fun j _ => (hj j).symm
theorem sum_set {s : List Int} {k i c : Nat} {l m : List (BitVec 32)} (hm : ∀ c, c < m.length → m.getD c default = sm i fun j => if kap s k j = c then l.getD j default else 0#32) (hk : kap s k i < m.length) (hc : c < m.length) :
    (m.set (kap s k i) (m.getD (kap s k i) default + l.getD i default)).getD c default = sm (i + 1) fun j => if kap s k j = c then l.getD j default else 0#32 := by
  show _ = (sm i fun j => if kap s k j = c then l.getD j default else 0#32) + (if kap s k i = c then l.getD i default else 0#32)
  by_cases e : kap s k i = c
  · subst e
    rw [getD_set hk, hm _ hk]; simp
  · rw [List.getD_eq_getElem?_getD, List.getElem?_set_ne e, ← List.getD_eq_getElem?_getD, hm c hc, if_neg e]; simp
theorem rmsum_c (t : T4) (al : Int) (W : World) (h_t : t.at W) :
    Fnc Tryz.prog 23 [t.v, .int .i64 al] W (fun r w' => Below W.heap.size W w' ∧ AnsK W w' r (suE t al) (without t.s al.toNat) (suL t.s t.l al.toNat)) := by
  have hB := Below.refl W.heap.size W
  refine Fnc.enter (n := 77) Tryz.func23 (by kernel_rfl) rfl rfl rfl ?_
  refine Cw.seq ?_
  refine Cw.region ?_
  refine Lw.boxV (cs := [t.x, t.y]) rfl rfl rfl ?_
  rintro A_t w eA_t b_t hn -
  replace hB := hB.bs hn
  replace h_t := h_t.bs hn
  clear hn
  have z0 := below_size hB
  have y_t := blk_lt b_t
  refine Lw.newA it_29 rfl ?_
  rintro A_r w eA_r b_r hn -
  replace hB := hB.bs hn
  replace h_t := h_t.bs hn
  replace b_t := b_t.bs hn
  clear hn
  refine Lw.val (Ex.assign rfl) rfl ?_
  refine Lw.nil ?_
  refine Pw.thenN (Cw.out ?_)
  refine Cw.seq ?_
  refine Cw.seq ?_
  refine Cw.region ?_
  refine Lw.val (Ex.ldA (ag_29 _) (sz_29 _) rfl rfl (by assumption)) rfl ?_
  have z_r := blk_lt b_r
  have h_t1 := h_t.1
  have h_t2 := h_t.2
  refine Lw.callF rfl rfl (rtcheck_c t.x t.y t.s t.l _ h_t.1 h_t.2) ?_
  rintro _ w ⟨rfl, hn⟩
  replace hB := hB.bs hn
  replace h_t := h_t.bs hn
  replace b_t := b_t.bs hn
  replace b_r := b_r.bs hn
  replace h_t1 := h_t1.bs hn
  replace h_t2 := h_t2.bs hn
  clear hn
  refine Lw.val (Ex.not rfl) rfl ?_
  refine Lw.val (Ex.move rfl) rfl ?_
  refine Lw.part 15 rfl ?_ ?_
  · intro g
    refine Lw.pass (dj := 15) rfl rfl rfl rfl ?_
    refine Lw.pass (dj := 15) rfl rfl rfl rfl ?_
    refine Lw.val (Ex.pickT rfl rfl) rfl ?_
    refine Lw.val (Ex.move rfl) rfl ?_
    refine Lw.pass (dj := 19) rfl rfl rfl rfl ?_
    refine Lw.pass (dj := 19) rfl rfl rfl rfl ?_
    refine Lw.pass (dj := 19) rfl rfl rfl rfl ?_
    refine Lw.pass (dj := 19) rfl rfl rfl rfl ?_
    refine Lw.pass (dj := 19) rfl rfl rfl rfl ?_
    refine Lw.val (Ex.pickT rfl rfl) rfl ?_
    refine Lw.nil ?_
    refine Pw.thenN (Cw.out ?_)
    refine Cw.condT rfl ?_
    refine Cw.seq ?_
    refine Cw.region ?_
    refine Lw.val (Ex.build (vs := []) (cs := [.slice none 0 0, .slice none 0 0]) rfl (by kernel_rfl)) rfl ?_
    refine Lw.unit (Xu.stA (cs := [.slice none 0 0, .slice none 0 0]) rfl rfl rfl rfl rfl b_r rfl) ?_
    rintro w3 ⟨b_r, hg, -⟩
    have hB := hB.grown hg (below_size hB) (by rintro _ ⟨⟩; omega)
    refine Lw.val (Ex.assign rfl) rfl ?_
    refine Lw.nil ?_
    refine Pw.thenN (Cw.out ?_)
    refine Cw.ret ?_
    refine Pw.thenR ?_
    refine Pw.retCT rfl rfl rfl (by assumption) (Tryz.underlying29) rfl rfl rfl ?_
    rw [show suE t al = 1 by simp_all [suE]]
    exact ⟨hB, ansK_no (by decide)⟩
  intro g1
  have k_t : tok t.s t.l = true := by simpa using g1
  have S := (Shapes.ok_iff t.s).1 (tok_ok k_t).1
  refine Lw.take (dj := 15) rfl rfl ?_
  refine Lw.val (Ex.move rfl) rfl ?_
  refine Lw.take (dj := 15) rfl rfl ?_
  refine Lw.val (Ex.lss rfl rfl) rfl ?_
  refine Lw.val (Ex.pickF rfl rfl) rfl ?_
  refine Lw.val (Ex.move rfl) rfl ?_
  refine Lw.part 19 rfl ?_ ?_
  · intro g
    have g := of_decide_eq_true g
    refine Lw.pass (dj := 19) rfl rfl rfl rfl ?_
    refine Lw.pass (dj := 19) rfl rfl rfl rfl ?_
    refine Lw.pass (dj := 19) rfl rfl rfl rfl ?_
    refine Lw.pass (dj := 19) rfl rfl rfl rfl ?_
    refine Lw.pass (dj := 19) rfl rfl rfl rfl ?_
    refine Lw.val (Ex.pickT rfl rfl) rfl ?_
    refine Lw.nil ?_
    refine Pw.thenN (Cw.out ?_)
    refine Cw.condT rfl ?_
    refine Cw.seq ?_
    refine Cw.region ?_
    refine Lw.val (Ex.build (vs := []) (cs := [.slice none 0 0, .slice none 0 0]) rfl (by kernel_rfl)) rfl ?_
    refine Lw.unit (Xu.stA (cs := [.slice none 0 0, .slice none 0 0]) rfl rfl rfl rfl rfl b_r rfl) ?_
    rintro w3 ⟨b_r, hg, -⟩
    have hB := hB.grown hg (below_size hB) (by rintro _ ⟨⟩; omega)
    refine Lw.val (Ex.assign rfl) rfl ?_
    refine Lw.nil ?_
    refine Pw.thenN (Cw.out ?_)
    refine Cw.ret ?_
    refine Pw.thenR ?_
    refine Pw.retCT rfl rfl rfl (by assumption) (Tryz.underlying29) rfl rfl rfl ?_
    rw [show suE t al = 1 by unfold suE; rw [decide_eq_false (show ¬ 0 ≤ al by omega), Bool.and_false, Bool.false_and]; rfl]
    exact ⟨hB, ansK_no (by decide)⟩
  intro g2
  have g2 := of_decide_eq_false g2
  refine Lw.take (dj := 19) rfl rfl ?_
  refine Lw.val (Ex.move rfl) rfl ?_
  refine Lw.take (dj := 19) rfl rfl ?_
  refine Lw.val (Ex.fieldAddr (q := 0) Tryz.underlying29 rfl (sz_26 _) rfl) rfl ?_
  refine Lw.take (dj := 19) rfl rfl ?_
  refine Lw.val (Ex.ldB (ag_26 _) rfl (by assumption) rfl) rfl ?_
  refine Lw.take (dj := 19) rfl rfl ?_
  refine Lw.val (Ex.lenS st_26 rfl (by assumption)) rfl ?_
  refine Lw.take (dj := 19) rfl rfl ?_
  refine Lw.val (Ex.geq rfl rfl) rfl ?_
  refine Lw.val (Ex.pickF rfl rfl) rfl ?_
  refine Lw.nil ?_
  refine Pw.thenN (Cw.out ?_)
  refine Cw.cond rfl ?_ ?_
  · intro g
    have g := of_decide_eq_true g
    refine Cw.seq ?_
    refine Cw.region ?_
    refine Lw.val (Ex.build (vs := []) (cs := [.slice none 0 0, .slice none 0 0]) rfl (by kernel_rfl)) rfl ?_
    refine Lw.unit (Xu.stA (cs := [.slice none 0 0, .slice none 0 0]) rfl rfl rfl rfl rfl b_r rfl) ?_
    rintro w3 ⟨b_r, hg, -⟩
    have hB := hB.grown hg (below_size hB) (by rintro _ ⟨⟩; omega)
    refine Lw.val (Ex.assign rfl) rfl ?_
    refine Lw.nil ?_
    refine Pw.thenN (Cw.out ?_)
    refine Cw.ret ?_
    refine Pw.thenR ?_
    refine Pw.retCT rfl rfl rfl (by assumption) (Tryz.underlying29) rfl rfl rfl ?_
    rw [show suE t al = 1 by unfold suE; rw [decide_eq_false (show ¬ al < (t.s.length : Int) by omega), Bool.and_false]; rfl]
    exact ⟨hB, ansK_no (by decide)⟩
  intro g3
  have g3 := of_decide_eq_false g3
  obtain ⟨k, rfl⟩ : ∃ k : Nat, al = (k : Int) := ⟨al.toNat, by omega⟩
  have hk : k < t.s.length := by omega
  have hs := (tok_ok k_t).1
  have okW := without_ok hs hk
  have hE : suE t (k : Int) = 0 := by unfold suE; rw [k_t, decide_eq_true (show (0 : Int) ≤ (k : Int) by omega), decide_eq_true (show (k : Int) < (t.s.length : Int) by omega)]; rfl
  rw [hE, Int.toNat_natCast]
  have lenl : t.l.length = (Shapes.prod t.s).toNat := by rw [(tok_ok k_t).2, Shapes.size_ok hs]
  clear g1 g2 g3
  refine Cw.skip ?_
  refine Pw.thenN (Cw.out ?_)
  refine Cw.seq ?_
  refine Cw.region ?_
  refine Lw.val (Ex.fieldAddr (q := 0) Tryz.underlying29 rfl (sz_26 _) rfl) rfl ?_
  refine Lw.val (Ex.ldB (ag_26 _) rfl (by assumption) rfl) rfl ?_
  refine Lw.val (Ex.move rfl) rfl ?_
  refine Lw.callF rfl rfl (rwithout_c t.x t.s k _ h_t1 hk S.1.2) ?_
  rintro u w ⟨hn, hu⟩
  have s_u := own_slT hu
  replace hB := hB.bs hn
  replace h_t := h_t.bs hn
  replace b_t := b_t.bs hn
  replace b_r := b_r.bs hn
  replace h_t1 := h_t1.bs hn
  replace h_t2 := h_t2.bs hn
  clear hn hu
  refine Lw.callF rfl rfl (rnew_c u (without t.s k) _ s_u) ?_
  rintro _ w7 ⟨hn7, ⟨hk', x, y, rfl, hm⟩ | ⟨hk', rfl⟩⟩
  · refine Lw.val (Ex.move rfl) rfl ?_
    refine Lw.val (Ex.extract (i := 0) rfl rfl) rfl ?_
    refine Lw.val (Ex.extract (i := 1) rfl rfl) rfl ?_
    refine Lw.boxed (cs := [x, y]) it_29 rfl rfl rfl rfl (fun _ => rfl) (hm.one) ?_
    rintro A_m w8 eA_m b_m hn8 zhn8
    have M := mine_new hm eA_m b_m hn8 zhn8 hn7.size
    have hw8 := bt hn7 hn8
    have zw := hw8.size
    have zB := below_size hB
    have p_t := h_t
    have q_t := blk_lt b_t
    have q_r := blk_lt b_r
    replace hB := hB.bs hw8
    replace h_t := h_t.bs hw8
    replace b_t := b_t.bs hw8
    replace b_r := b_r.bs hw8
    replace h_t1 := h_t1.bs hw8
    replace h_t2 := h_t2.bs hw8
    replace s_u := s_u.bs hw8
    clear hm b_m hn7 hn8 eA_m zhn8 hw8
    obtain ⟨zs, hzs⟩ : ∃ l, l = List.replicate (Shapes.size (without t.s k)).toNat 0#32 := ⟨_, rfl⟩
    rw [← hzs] at M
    have n2 : zs.length = (Shapes.prod (wo t.s k)).toNat := by rw [hzs, Shapes.size_ok okW, wo_prod hk]; simp
    have n3 : ∀ c, c < zs.length → zs.getD c default = sm 0 fun j => if kap t.s k j = c then t.l.getD j default else 0#32 := fun c hc => by
      rw [hzs] at hc ⊢
      simp at hc
      simp [sm, hc]
    have b_m := M.box
    have y_m := M.sly
    refine Lw.val (Ex.assign rfl) rfl ?_
    refine Lw.nil ?_
    refine Pw.thenN (Cw.out ?_)
    refine Cw.seq ?_
    refine Cw.seq ?_
    refine Cw.region ?_
    refine Lw.val (Ex.assign rfl) rfl ?_
    refine Lw.nil ?_
    refine Pw.thenN (Cw.out ?_)
    refine Cw.block ?_
    refine Cw.loop (S := (Nat × List (BitVec 32))) (fun z => [(1, .int .i64 (k : Int)), (2, .pointer (some ⟨A_t, 0, none⟩)), (4, .pointer (some ⟨A_r, 0, none⟩)), (6, .pointer (some ⟨A_m, 0, none⟩)), (8, .int .i64 (z.1 : Int))]) (fun z w' => z.1 ≤ t.l.length ∧ Below w.heap.size w8 w' ∧ MineT w' w.heap.size w8.heap.size A_m x y (without t.s k) z.2 ∧ z.2.length = (Shapes.prod (wo t.s k)).toNat ∧ (∀ c, c < z.2.length → z.2.getD c default = sm z.1 fun j => if kap t.s k j = c then t.l.getD j default else 0#32)) (fun z => t.l.length - z.1) ((0, zs)) ⟨rfl, rfl, rfl, rfl, rfl, trivial⟩ ?_ ?_
    · exact ⟨Nat.zero_le _, Below.refl _ _, M, n2, n3⟩
    clear M b_m y_m n3
    rintro ⟨i, m⟩ w11 ⟨hi, hw, M, lm, hs2⟩
    dsimp only at hi M lm hs2 ⊢
    have hB2 := hB.trans (hw.mono (by omega))
    have zw2 := hw.size
    have h_t := at_stay p_t h_t (Nat.le_refl _) hw
    have b_t := b_t.bl hw q_t
    have b_r := b_r.bl hw q_r
    have b_m := M.box
    have y_m := M.sly
    have h_t2 := h_t.2
    clear h_t1 p_t
    refine Cw.seq ?_
    refine Cw.seq ?_
    refine Cw.region ?_
    refine Lw.val (Ex.move rfl) rfl ?_
    refine Lw.val (Ex.fieldAddr (q := 0) Tryz.underlying29 rfl (sz_27 _) rfl) rfl ?_
    refine Lw.val (Ex.ldB (ag_27 _) rfl (by assumption) rfl) rfl ?_
    refine Lw.val (Ex.lenS st_27 rfl (by assumption)) rfl ?_
    refine Lw.val (Ex.lss rfl rfl) rfl ?_
    refine Lw.nil ?_
    refine Pw.thenN (Cw.out ?_)
    refine Cw.cond rfl ?_ ?_
    · intro g
      have hi' : i < t.l.length := by have := of_decide_eq_true g; omega
      have hip : (i : Int) < Shapes.prod t.s := by omega
      obtain ⟨-, tin⟩ := kap_eq hs hk hip
      have lp := Shapes.place_length t.s (i : Int)
      have slt0 := Shapes.idx_lt (wo_good (k := k) S.2.1) tin
      have hkl : kap t.s k i < m.length := by rw [lm]; unfold kap; omega
      have hke : ((kap t.s k i : Nat) : Int) = Shapes.idx (wo t.s k) (wo (Shapes.place t.s (i : Int)) k) := Int.toNat_of_nonneg slt0.1
      have lenM : (m.set (kap t.s k i) (m.getD (kap t.s k i) default + t.l.getD i default)).length = (Shapes.prod (wo t.s k)).toNat := by rw [List.length_set]; exact lm
      have hs3 : ∀ c, c < (m.set (kap t.s k i) (m.getD (kap t.s k i) default + t.l.getD i default)).length → (m.set (kap t.s k i) (m.getD (kap t.s k i) default + t.l.getD i default)).getD c default = sm (i + 1) fun j => if kap t.s k j = c then t.l.getD j default else 0#32 := fun c hc => sum_set hs2 hkl (by rwa [List.length_set] at hc)
      refine Cw.skip ?_
      refine Pw.thenN (Cw.out ?_)
      refine Cw.seq ?_
      refine Cw.block ?_
      refine Cw.seq ?_
      refine Cw.region ?_
      refine Lw.val (Ex.fieldAddr (q := 0) Tryz.underlying29 rfl (sz_26 _) rfl) rfl ?_
      refine Lw.val (Ex.ldB (ag_26 _) rfl (by assumption) rfl) rfl ?_
      refine Lw.val (Ex.move rfl) rfl ?_
      refine Lw.callF rfl rfl (rat_c t.s t.x (i : Int) w11 h_t.1) ?_
      rintro _ w12 ⟨hn, a, rfl, ha⟩
      rw [show Shapes.atl t.s (i : Int) = Shapes.place t.s (i : Int) by unfold Shapes.atl; rw [if_pos ⟨by omega, by rw [Shapes.size_ok hs]; exact hip⟩]] at ha
      have M := M.bs hn
      have h_t := h_t.bs hn
      have b_t := b_t.bs hn
      have b_r := b_r.bs hn
      have hw := hw.trans (hn.mono (by omega))
      have zw2 := hw.size
      have b_m := M.box
      have y_m := M.sly
      have x_m := M.row.slT
      have h_t2 := h_t.2
      clear hn
      refine Lw.val (Ex.move rfl) rfl ?_
      refine Lw.val (Ex.extract (i := 0) rfl rfl) rfl ?_
      refine Lw.val (Ex.extract (i := 1) rfl rfl) rfl ?_
      refine Lw.val (Ex.assign rfl) rfl ?_
      refine Lw.val (Ex.assign rfl) rfl ?_
      refine Lw.nil ?_
      refine Pw.thenN (Cw.out ?_)
      refine Cw.seq ?_
      refine Cw.region ?_
      refine Lw.val (Ex.assign rfl) rfl ?_
      refine Lw.nil ?_
      refine Pw.thenN (Cw.out ?_)
      refine Cw.seq ?_
      refine Cw.seq ?_
      refine Cw.region ?_
      refine Lw.val (Ex.move rfl) rfl ?_
      refine Lw.val (Ex.lenS st_26 rfl (by assumption)) rfl ?_
      refine Lw.val (Ex.gtr rfl rfl) rfl ?_
      refine Lw.nil ?_
      refine Pw.thenN (Cw.out ?_)
      refine Cw.cond rfl ?_ ?_
      · intro g4
        have g4 : 1 < t.s.length := by have := of_decide_eq_true g4; omega
        have v1 := without_wo (s := t.s) (k := k) (by omega)
        have v2 := without_wo (s := Shapes.place t.s (i : Int)) (k := k) (by omega)
        have tin2 : Shapes.inn (without t.s k) (without (Shapes.place t.s (i : Int)) k) = true := by rw [v1, v2]; exact tin
        have hk2 : Shapes.idx (without t.s k) (without (Shapes.place t.s (i : Int)) k) = ((kap t.s k i : Nat) : Int) := by rw [v1, v2]; exact hke.symm
        refine Cw.any mixed (fun w13 hd _ => ?_)
        have M := M.bs hd
        have h_t := h_t.bs hd
        have b_t := b_t.bs hd
        have b_r := b_r.bs hd
        have hw := hw.trans (hd.mono (by omega))
        have zw2 := hw.size
        have b_m := M.box
        have y_m := M.sly
        have x_m := M.row.slT
        have h_t2 := h_t.2
        have ha := ha.bs hd
        clear hd
        refine Aw.take (i := 0) (NoP.thn (NoP.blk (NoP.thn (NoP.thn (NoP.blk (NoP.thn NoP.ret)))))) rfl (by kernel_rfl) (by kernel_rfl) (by kernel_rfl) (fun _ => Ex.fieldAddr (q := 0) Tryz.underlying29 rfl (sz_26 _) rfl) rfl ?_
        refine Aw.take (i := 2) (NoP.thn (NoP.blk (NoP.thn (NoP.thn (NoP.blk (NoP.thn NoP.ret)))))) rfl (by kernel_rfl) (by kernel_rfl) (by kernel_rfl) (fun _ => Ex.move rfl) rfl ?_
        refine Aw.take (i := 3) (NoP.thn (NoP.blk (NoP.thn (NoP.thn (NoP.blk (NoP.thn NoP.ret)))))) rfl (by kernel_rfl) (by kernel_rfl) (by kernel_rfl) (fun _ => Ex.move rfl) rfl ?_
        refine Aw.two (i := 1) (j := 4) (by kernel_rfl) rfl rfl ?_ ?_
        · refine Lw.val (Ex.ldB (ag_26 _) rfl (by assumption) rfl) rfl ?_
          refine Aw.back ?_
          refine Aw.only (i := 4) (by kernel_rfl) rfl ?_
          refine Lw.callF rfl rfl (rwithout_c a (Shapes.place t.s (i : Int)) k _ ha (by omega) (by omega)) ?_
          rintro p w14 ⟨hn, hp⟩
          have M := M.bs hn
          have h_t := h_t.bs hn
          have b_t := b_t.bs hn
          have b_r := b_r.bs hn
          have hw := hw.trans (hn.mono (by omega))
          have zw2 := hw.size
          have b_m := M.box
          have y_m := M.sly
          have x_m := M.row.slT
          have h_t2 := h_t.2
          clear hn
          have s_p := own_slT hp
          refine Aw.back ?_
          refine Aw.only (i := 5) (by kernel_rfl) rfl ?_
          refine Lw.callF rfl rfl (rindex_c (without t.s k) (without (Shapes.place t.s (i : Int)) k) x p _ x_m s_p) ?_
          rintro _ w15 ⟨rfl, hn⟩
          rw [index_yes okW tin2]
          have M := M.bs hn
          have h_t := h_t.bs hn
          have b_t := b_t.bs hn
          have b_r := b_r.bs hn
          have hw := hw.trans (hn.mono (by omega))
          have zw2 := hw.size
          have b_m := M.box
          have y_m := M.sly
          have x_m := M.row.slT
          have h_t2 := h_t.2
          clear hn
          refine Aw.back ?_
          refine Aw.take (i := 6) (NoP.thn (NoP.blk (NoP.thn (NoP.thn (NoP.blk (NoP.thn NoP.ret)))))) rfl (by kernel_rfl) (by kernel_rfl) (by kernel_rfl) (fun _ => Ex.move rfl) rfl ?_
          refine Aw.take (i := 7) (NoP.thn (NoP.blk (NoP.thn (NoP.thn (NoP.blk (NoP.thn NoP.ret)))))) rfl (by kernel_rfl) (by kernel_rfl) (by kernel_rfl) (fun _ => Ex.extract (i := 0) rfl rfl) rfl ?_
          refine Aw.take (i := 8) (NoP.thn (NoP.blk (NoP.thn (NoP.thn (NoP.blk (NoP.thn NoP.ret)))))) rfl (by kernel_rfl) (by kernel_rfl) (by kernel_rfl) (fun _ => Ex.extract (i := 1) rfl rfl) rfl ?_
          refine Aw.take (i := 9) (NoP.thn (NoP.blk (NoP.thn (NoP.thn (NoP.blk (NoP.thn NoP.ret)))))) rfl (by kernel_rfl) (by kernel_rfl) (by kernel_rfl) (fun _ => Ex.assign rfl) rfl ?_
          refine Aw.done (by kernel_rfl) ?_
          refine Pw.thenN (Cw.out ?_)
          refine Cw.tail 15 mixed (by kernel_rfl) ?_
          refine Qw.val (fun w1 hq => Ex.fieldAddr (q := 0) Tryz.underlying29 rfl (sz_27 _) rfl) rfl ?_
          refine Qw.val (fun w1 hq => Ex.ldB (ag_27 _) rfl (Blk.bs (by assumption) hq) rfl) rfl ?_
          refine Qw.val (fun w1 hq => Ex.move rfl) rfl ?_
          refine Qw.val (fun w1 hq => Ex.fieldAddr (q := 0) Tryz.underlying29 rfl (sz_27 _) rfl) rfl ?_
          refine Qw.val (fun w1 hq => Ex.ldB (ag_27 _) rfl (Blk.bs (by assumption) hq) rfl) rfl ?_
          refine Qw.val (fun w1 hq => Ex.move rfl) rfl ?_
          refine Qw.val (fun w1 hq => Ex.idxT st_27 rfl rfl (Sl.bs y_m hq) (kap t.s k i) hk2 hkl) rfl ?_
          refine Qw.val (fun w1 hq => Ex.ldT (ag_21 _) rfl (Sl.bs y_m hq) hkl) rfl ?_
          refine Qw.val (fun w1 hq => Ex.fieldAddr (q := 0) Tryz.underlying29 rfl (sz_27 _) rfl) rfl ?_
          refine Qw.val (fun w1 hq => Ex.ldB (ag_27 _) rfl (Blk.bs (by assumption) hq) rfl) rfl ?_
          refine Qw.val (fun w1 hq => Ex.move rfl) rfl ?_
          refine Qw.val (fun w1 hq => Ex.idxT st_27 rfl rfl (Sl.bs h_t2 hq) i rfl hi') rfl ?_
          refine Qw.val (fun w1 hq => Ex.ldT (ag_21 _) rfl (Sl.bs (by assumption) hq) (by omega)) rfl ?_
          refine Qw.val (fun w1 hq => Ex.addi32 rfl rfl) rfl ?_
          refine Qw.val (fun w1 hq => Ex.idxT st_27 rfl rfl (Sl.bs y_m hq) (kap t.s k i) hk2 hkl) rfl ?_
          refine Qw.done (fun w16 hq => ?_)
          refine Lw.unit ((M.bs hq).st (sz_21 _) rfl rfl hkl) ?_
          rintro w17 ⟨M2, hg2, -⟩
          have hw2 := (M.bs hq).below (hw.trans (hq.mono (by omega))) (by omega) hg2
          refine Lw.nil ?_
          refine Pw.blkN ?_
          refine Pw.thenN (Cw.out ?_)
          refine Cw.region ?_
          refine Lw.val (Ex.move rfl) rfl ?_
          refine Lw.val (Ex.addI rfl rfl (by omega)) rfl ?_
          refine Lw.val (Ex.assign rfl) rfl ?_
          refine Lw.nil ?_
          exact Pw.thenN (Pw.next ((i + 1, m.set (kap t.s k i) (m.getD (kap t.s k i) default + t.l.getD i default))) ⟨rfl, rfl, rfl, rfl, rfl, trivial⟩ (⟨hi', hw2, M2, lenM, hs3⟩) (by simp only; omega))
        · refine Lw.callF rfl rfl (rwithout_c a (Shapes.place t.s (i : Int)) k _ ha (by omega) (by omega)) ?_
          rintro p w14 ⟨hn, hp⟩
          have M := M.bs hn
          have h_t := h_t.bs hn
          have b_t := b_t.bs hn
          have b_r := b_r.bs hn
          have hw := hw.trans (hn.mono (by omega))
          have zw2 := hw.size
          have b_m := M.box
          have y_m := M.sly
          have x_m := M.row.slT
          have h_t2 := h_t.2
          clear hn
          have s_p := own_slT hp
          refine Aw.back ?_
          refine Aw.only (i := 1) (by kernel_rfl) rfl ?_
          refine Lw.val (Ex.ldB (ag_26 _) rfl (by assumption) rfl) rfl ?_
          refine Aw.back ?_
          refine Aw.only (i := 5) (by kernel_rfl) rfl ?_
          refine Lw.callF rfl rfl (rindex_c (without t.s k) (without (Shapes.place t.s (i : Int)) k) x p _ x_m s_p) ?_
          rintro _ w15 ⟨rfl, hn⟩
          rw [index_yes okW tin2]
          have M := M.bs hn
          have h_t := h_t.bs hn
          have b_t := b_t.bs hn
          have b_r := b_r.bs hn
          have hw := hw.trans (hn.mono (by omega))
          have zw2 := hw.size
          have b_m := M.box
          have y_m := M.sly
          have x_m := M.row.slT
          have h_t2 := h_t.2
          clear hn
          refine Aw.back ?_
          refine Aw.take (i := 6) (NoP.thn (NoP.blk (NoP.thn (NoP.thn (NoP.blk (NoP.thn NoP.ret)))))) rfl (by kernel_rfl) (by kernel_rfl) (by kernel_rfl) (fun _ => Ex.move rfl) rfl ?_
          refine Aw.take (i := 7) (NoP.thn (NoP.blk (NoP.thn (NoP.thn (NoP.blk (NoP.thn NoP.ret)))))) rfl (by kernel_rfl) (by kernel_rfl) (by kernel_rfl) (fun _ => Ex.extract (i := 0) rfl rfl) rfl ?_
          refine Aw.take (i := 8) (NoP.thn (NoP.blk (NoP.thn (NoP.thn (NoP.blk (NoP.thn NoP.ret)))))) rfl (by kernel_rfl) (by kernel_rfl) (by kernel_rfl) (fun _ => Ex.extract (i := 1) rfl rfl) rfl ?_
          refine Aw.take (i := 9) (NoP.thn (NoP.blk (NoP.thn (NoP.thn (NoP.blk (NoP.thn NoP.ret)))))) rfl (by kernel_rfl) (by kernel_rfl) (by kernel_rfl) (fun _ => Ex.assign rfl) rfl ?_
          refine Aw.done (by kernel_rfl) ?_
          refine Pw.thenN (Cw.out ?_)
          refine Cw.tail 15 mixed (by kernel_rfl) ?_
          refine Qw.val (fun w1 hq => Ex.fieldAddr (q := 0) Tryz.underlying29 rfl (sz_27 _) rfl) rfl ?_
          refine Qw.val (fun w1 hq => Ex.ldB (ag_27 _) rfl (Blk.bs (by assumption) hq) rfl) rfl ?_
          refine Qw.val (fun w1 hq => Ex.move rfl) rfl ?_
          refine Qw.val (fun w1 hq => Ex.fieldAddr (q := 0) Tryz.underlying29 rfl (sz_27 _) rfl) rfl ?_
          refine Qw.val (fun w1 hq => Ex.ldB (ag_27 _) rfl (Blk.bs (by assumption) hq) rfl) rfl ?_
          refine Qw.val (fun w1 hq => Ex.move rfl) rfl ?_
          refine Qw.val (fun w1 hq => Ex.idxT st_27 rfl rfl (Sl.bs y_m hq) (kap t.s k i) hk2 hkl) rfl ?_
          refine Qw.val (fun w1 hq => Ex.ldT (ag_21 _) rfl (Sl.bs y_m hq) hkl) rfl ?_
          refine Qw.val (fun w1 hq => Ex.fieldAddr (q := 0) Tryz.underlying29 rfl (sz_27 _) rfl) rfl ?_
          refine Qw.val (fun w1 hq => Ex.ldB (ag_27 _) rfl (Blk.bs (by assumption) hq) rfl) rfl ?_
          refine Qw.val (fun w1 hq => Ex.move rfl) rfl ?_
          refine Qw.val (fun w1 hq => Ex.idxT st_27 rfl rfl (Sl.bs h_t2 hq) i rfl hi') rfl ?_
          refine Qw.val (fun w1 hq => Ex.ldT (ag_21 _) rfl (Sl.bs (by assumption) hq) (by omega)) rfl ?_
          refine Qw.val (fun w1 hq => Ex.addi32 rfl rfl) rfl ?_
          refine Qw.val (fun w1 hq => Ex.idxT st_27 rfl rfl (Sl.bs y_m hq) (kap t.s k i) hk2 hkl) rfl ?_
          refine Qw.done (fun w16 hq => ?_)
          refine Lw.unit ((M.bs hq).st (sz_21 _) rfl rfl hkl) ?_
          rintro w17 ⟨M2, hg2, -⟩
          have hw2 := (M.bs hq).below (hw.trans (hq.mono (by omega))) (by omega) hg2
          refine Lw.nil ?_
          refine Pw.blkN ?_
          refine Pw.thenN (Cw.out ?_)
          refine Cw.region ?_
          refine Lw.val (Ex.move rfl) rfl ?_
          refine Lw.val (Ex.addI rfl rfl (by omega)) rfl ?_
          refine Lw.val (Ex.assign rfl) rfl ?_
          refine Lw.nil ?_
          exact Pw.thenN (Pw.next ((i + 1, m.set (kap t.s k i) (m.getD (kap t.s k i) default + t.l.getD i default))) ⟨rfl, rfl, rfl, rfl, rfl, trivial⟩ (⟨hi', hw2, M2, lenM, hs3⟩) (by simp only; omega))
      intro g4
      have g4 : t.s.length = 1 := by have := of_decide_eq_false g4; omega
      have hk0 : (0 : Int) = ((kap t.s k i : Nat) : Int) := by
        have lw := wo_length hk
        have e : wo t.s k = [] := List.eq_nil_of_length_eq_zero (by omega)
        rw [hke, e]; simp [Shapes.idx]
      refine Cw.skip ?_
      refine Pw.thenN (Cw.out ?_)
      refine Cw.tail 15 mixed (by kernel_rfl) ?_
      refine Qw.val (fun w1 hq => Ex.fieldAddr (q := 0) Tryz.underlying29 rfl (sz_27 _) rfl) rfl ?_
      refine Qw.val (fun w1 hq => Ex.ldB (ag_27 _) rfl (Blk.bs (by assumption) hq) rfl) rfl ?_
      refine Qw.val (fun w1 hq => Ex.move rfl) rfl ?_
      refine Qw.val (fun w1 hq => Ex.fieldAddr (q := 0) Tryz.underlying29 rfl (sz_27 _) rfl) rfl ?_
      refine Qw.val (fun w1 hq => Ex.ldB (ag_27 _) rfl (Blk.bs (by assumption) hq) rfl) rfl ?_
      refine Qw.val (fun w1 hq => Ex.move rfl) rfl ?_
      refine Qw.val (fun w1 hq => Ex.idxT st_27 rfl rfl (Sl.bs y_m hq) (kap t.s k i) hk0 hkl) rfl ?_
      refine Qw.val (fun w1 hq => Ex.ldT (ag_21 _) rfl (Sl.bs y_m hq) hkl) rfl ?_
      refine Qw.val (fun w1 hq => Ex.fieldAddr (q := 0) Tryz.underlying29 rfl (sz_27 _) rfl) rfl ?_
      refine Qw.val (fun w1 hq => Ex.ldB (ag_27 _) rfl (Blk.bs (by assumption) hq) rfl) rfl ?_
      refine Qw.val (fun w1 hq => Ex.move rfl) rfl ?_
      refine Qw.val (fun w1 hq => Ex.idxT st_27 rfl rfl (Sl.bs h_t2 hq) i rfl hi') rfl ?_
      refine Qw.val (fun w1 hq => Ex.ldT (ag_21 _) rfl (Sl.bs (by assumption) hq) (by omega)) rfl ?_
      refine Qw.val (fun w1 hq => Ex.addi32 rfl rfl) rfl ?_
      refine Qw.val (fun w1 hq => Ex.idxT st_27 rfl rfl (Sl.bs y_m hq) (kap t.s k i) hk0 hkl) rfl ?_
      refine Qw.done (fun w16 hq => ?_)
      refine Lw.unit ((M.bs hq).st (sz_21 _) rfl rfl hkl) ?_
      rintro w17 ⟨M2, hg2, -⟩
      have hw2 := (M.bs hq).below (hw.trans (hq.mono (by omega))) (by omega) hg2
      refine Lw.nil ?_
      refine Pw.blkN ?_
      refine Pw.thenN (Cw.out ?_)
      refine Cw.region ?_
      refine Lw.val (Ex.move rfl) rfl ?_
      refine Lw.val (Ex.addI rfl rfl (by omega)) rfl ?_
      refine Lw.val (Ex.assign rfl) rfl ?_
      refine Lw.nil ?_
      exact Pw.thenN (Pw.next ((i + 1, m.set (kap t.s k i) (m.getD (kap t.s k i) default + t.l.getD i default))) ⟨rfl, rfl, rfl, rfl, rfl, trivial⟩ (⟨hi', hw2, M2, lenM, hs3⟩) (by simp only; omega))
    intro g
    have hi' : i = t.l.length := by have := of_decide_eq_false g; omega
    subst hi'
    have em : m = suL t.s t.l k := gather hs hk lenl lm hs2
    refine Cw.exit ?_
    refine Pw.thenE ?_
    refine Pw.thenE ?_
    refine Pw.blkHit ?_
    refine Pw.thenN (Cw.out ?_)
    refine Cw.seq ?_
    refine Cw.region ?_
    refine Lw.val (Ex.ldA (ag_29 _) (sz_29 _) rfl rfl (by assumption)) rfl ?_
    refine Lw.unit (Xu.stA (cs := [x, y]) rfl rfl rfl rfl (mine_at M).one b_r rfl) ?_
    rintro w12 ⟨b_r2, hg, -⟩
    have M2 := M.keep hg (by rintro _ ⟨⟩; exact .inl q_r)
    have hB3 := hB2.grown hg (below_size hB2) (by rintro _ ⟨⟩; omega)
    refine Lw.val (Ex.assign rfl) rfl ?_
    refine Lw.nil ?_
    refine Pw.thenN (Cw.out ?_)
    refine Cw.ret ?_
    refine Pw.retCT rfl rfl rfl (by assumption) (Tryz.underlying29) rfl rfl rfl ?_
    rw [em] at M2
    exact ⟨hB3, x, y, rfl, fun h => absurd rfl h, fun _ => ⟨M2.row.mono (by omega), .inl (own_mono M2.lst.own (by omega)), M2.yx⟩⟩
  exact absurd okW (by rw [hk']; decide)
end Go.Proofs.YtkhndfaampkbnaaGreatDoor
