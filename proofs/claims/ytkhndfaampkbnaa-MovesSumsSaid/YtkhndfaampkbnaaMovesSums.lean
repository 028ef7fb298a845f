/- Sums along a direction go with sums; all directions one by one give the sum of all; the order of two is of no account: for any two tensors alike in shape, any two directions; no condition. -/
import Derived.Test.YtkhndfaampkbnaaMovesLaw
import Derived.Test.YtkhndfaampkbnaaMathsLaw
import Derived.Test.YtkhndfaampkbnaaTensorsArg
import Derived.Test.YtkhndfaampkbnaaPl
namespace Go.Proofs.Ytkhndfaampkbnaa
open Go Go.Dd Go.RowKit Go.ChangeShapes Go.WideShapes Go.ChangeAt

theorem suE_ok {t : T4} {p : Nat} (h : tok t.s t.l = true) (hp : p < t.s.length) : suE t (p : Int) = 0 := by
  unfold suE; rw [h, decide_eq_true (show (0 : Int) ≤ (p : Int) by omega), decide_eq_true (show (p : Int) < (t.s.length : Int) by omega)]; rfl
theorem tok_sz {s : List Int} {l : List (BitVec 32)} (h : tok s l = true) : Shapes.ok s = true ∧ l.length = (Shapes.prod s).toNat := by
  obtain ⟨h1, h2⟩ := tok_ok h
  exact ⟨h1, by rw [h2, Shapes.size_ok h1]⟩
theorem tok_mk {s : List Int} {l : List (BitVec 32)} (h : Shapes.ok s = true) (hl : l.length = (Shapes.prod s).toNat) : tok s l = true := by
  have := Shapes.size_le s
  have := Shapes.size_ok h
  unfold tok
  rw [h, decide_eq_true (by omega)]; rfl
theorem su_tok {s : List Int} {l : List (BitVec 32)} {k : Nat} (h : tok s l = true) (hk : k < s.length) : tok (without s k) (suL s l k) = true := by
  obtain ⟨h1, -⟩ := tok_sz h
  exact tok_mk (without_ok h1 hk) (by rw [suL_length h1 hk, wo_prod hk])
theorem z2_getD {s : List Int} {l m : List (BitVec 32)} (hl : l.length = (Shapes.size s).toNat) (hm : m.length = (Shapes.size s).toNat) (i : Nat) : (z2 (· + ·) s l m).getD i default = l.getD i default + m.getD i default := by
  unfold z2
  rcases Nat.lt_or_ge i (Shapes.size s).toNat with h | h
  · rw [List.getD_eq_getElem?_getD, List.getElem?_map, List.getElem?_range h]; rfl
  · rw [List.getD_eq_getElem?_getD, List.getElem?_eq_none (by simpa using h), List.getD_eq_getElem?_getD, List.getElem?_eq_none (by omega), List.getD_eq_getElem?_getD, List.getElem?_eq_none (by omega)]; rfl
theorem su_add {s : List Int} {l m : List (BitVec 32)} {k : Nat} (hl : tok s l = true) (hm : tok s m = true) : suL s (z2 (· + ·) s l m) k = z2 (· + ·) (without s k) (suL s l k) (suL s m k) := by
  have h1 := (tok_ok hl).2
  have h2 := (tok_ok hm).2
  have e1 : ∀ i, i < (Shapes.size (without s k)).toNat → ∀ l : List (BitVec 32), (suL s l k).getD i default = sm (s.getD k default).toNat (suF s l k i) := fun i hi l => by
    unfold suL
    rw [List.getD_eq_getElem?_getD, List.getElem?_map, List.getElem?_range hi]; rfl
  have e2 : suL s (z2 (· + ·) s l m) k = (List.range (Shapes.size (without s k)).toNat).map fun i => sm (s.getD k default).toNat (suF s (z2 (· + ·) s l m) k i) := rfl
  have e3 : z2 (· + ·) (without s k) (suL s l k) (suL s m k) = (List.range (Shapes.size (without s k)).toNat).map fun i => (suL s l k).getD i default + (suL s m k).getD i default := rfl
  rw [e2, e3]
  refine List.map_congr_left fun i hi => ?_
  have hi := List.mem_range.1 hi
  rw [e1 i hi, e1 i hi, ← sm_add]
  refine sm_congr fun j _ => ?_
  exact z2_getD h1 h2 _
theorem e2_ok {s t : List Int} {l m : List (BitVec 32)} (h1 : tok s l = true) (h2 : tok t m = true) (h : t = s) : e2 s l t m = 0 := by
  unfold e2; rw [h1, h2, if_pos h]; rfl
theorem z2_tok {s : List Int} {l m : List (BitVec 32)} (h : tok s l = true) : tok s (z2 (· + ·) s l m) = true := by
  obtain ⟨h1, -⟩ := tok_ok h
  exact tok_mk h1 (by unfold z2; rw [List.length_map, List.length_range, Shapes.size_ok h1])
/-- What is left when k of n directions are summed. -/
def Red (n k : Nat) (T : BitVec 32) (a : T4) : Prop := tok a.s a.l = true ∧ tot a.l = T ∧ (k < n → a.s.length = n - k) ∧ (k = n → a.s = [1])
theorem red_step {n k : Nat} {T : BitVec 32} {a c : T4} (h : Red n k T a) (hk : k < n) (hs : c.s = without a.s 0) (hl : c.l = suL a.s a.l 0) : Red n (k + 1) T c := by
  obtain ⟨h1, h2, h3, -⟩ := h
  have h3 := h3 hk
  obtain ⟨k1, k2⟩ := tok_sz h1
  refine ⟨by rw [hs, hl]; exact su_tok h1 (by omega), by rw [hl, su_tot k1 k2 (by omega), h2], fun h => ?_, fun h => ?_⟩
  · rw [hs, without_wo (by omega), wo_length (by omega)]; omega
  · rw [hs]; unfold without; rw [if_pos (by omega)]
theorem red_end {n : Nat} {T : BitVec 32} {a : T4} (h : Red n n T a) : a.s = [1] ∧ a.l = [T] := by
  obtain ⟨h1, h2, -, h3⟩ := h
  have h3 := h3 rfl
  have k2 := (tok_sz h1).2
  rw [h3] at k2
  refine ⟨h3, ?_⟩
  have k2 : a.l.length = 1 := k2
  match a.l, k2, h2 with
  | [x], _, h2 => rw [← h2]; simp [tot, sm]
theorem wo_wo : ∀ {s : List Int} {p q : Nat}, p ≤ q → q + 1 < s.length → wo (wo s p) q = wo (wo s (q + 1)) p ∧ (wo s p).getD q default = s.getD (q + 1) default ∧ (wo s (q + 1)).getD p default = s.getD p default
  | [], _, _, _, h => by simp at h
  | x :: s, 0, q, _, _ => ⟨rfl, rfl, rfl⟩
  | x :: s, p + 1, 0, h, _ => by omega
  | x :: s, p + 1, q + 1, h, hq => by
    obtain ⟨h1, h2, h3⟩ := wo_wo (s := s) (p := p) (q := q) (by omega) (by simpa using hq)
    exact ⟨congrArg (x :: ·) h1, by simpa [wo] using h2, by simpa [wo] using h3⟩
theorem ins_ins : ∀ {r : List Int} {p q : Nat} {i j : Int}, p ≤ q → q ≤ r.length → ins p i (ins q j r) = ins (q + 1) j (ins p i r)
  | _, 0, _, _, _, _, _ => rfl
  | _, _ + 1, 0, _, _, h, _ => by omega
  | [], _ + 1, _ + 1, _, _, _, h => by simp at h
  | a :: r, p + 1, q + 1, i, j, h, hq => congrArg (a :: ·) (ins_ins (r := r) (p := p) (q := q) (i := i) (j := j) (by omega) (by simpa using hq))
theorem su_comm {s : List Int} {l : List (BitVec 32)} {p q : Nat} (hs : Shapes.ok s = true) (hpq : p ≤ q) (hq : q + 1 < s.length) :
    without (without s p) q = without (without s (q + 1)) p ∧ suL (without s p) (suL s l p) q = suL (without s (q + 1)) (suL s l (q + 1)) p := by
  have S := (Shapes.ok_iff s).1 hs
  obtain ⟨e1, e2, e3⟩ := wo_wo (s := s) hpq hq
  have w1 := without_wo (s := s) (k := p) (by omega)
  have w2 := without_wo (s := s) (k := q + 1) (by omega)
  have o1 := without_ok hs (k := p) (by omega)
  have o2 := without_ok hs (k := q + 1) (by omega)
  rw [w1] at o1
  rw [w2] at o2
  rw [w1, w2]
  have n1 := wo_length (s := s) (k := p) (by omega)
  have n2 := wo_length (s := s) (k := q + 1) (by omega)
  have d1 := dim_at S.2.1 (k := q + 1) (by omega)
  have d2 := dim_at S.2.1 (k := p) (by omega)
  refine ⟨?_, ?_⟩
  · by_cases h : s.length = 2
    · unfold without; rw [if_pos (by omega), if_pos (by omega)]
    · rw [without_wo (by omega), without_wo (by omega)]; exact e1
  have g := wo_good (k := q) (wo_good (k := p) S.2.1)
  refine pl_ext g (suL_length o1 (by omega)) (by rw [e1]; exact suL_length o2 (by omega)) fun r hr => ?_
  have hr2 := hr
  rw [e1] at hr2
  have lr := Shapes.inn_length hr
  rw [wo_length (by omega), n1] at lr
  rw [su_at o1 (by omega) hr, e1, su_at o2 (by omega) hr2, e2, e3]
  have a1 : ∀ j, j < (s.getD (q + 1) default).toNat → pl (wo s p) (suL s l p) (ins q (j : Int) r) = sm (s.getD p default).toNat fun i => pl s l (ins p (i : Int) (ins q (j : Int) r)) := fun j hj => su_at hs (by omega) (ins_inn (by omega) hr (by omega) (by rw [e2]; omega))
  have a2 : ∀ i, i < (s.getD p default).toNat → pl (wo s (q + 1)) (suL s l (q + 1)) (ins p (i : Int) r) = sm (s.getD (q + 1) default).toNat fun j => pl s l (ins (q + 1) (j : Int) (ins p (i : Int) r)) := fun i hi => su_at hs hq (ins_inn (by omega) hr2 (by omega) (by rw [e3]; omega))
  rw [sm_congr a1, sm_congr a2, sm_comm]
  refine sm_congr fun i _ => sm_congr fun j _ => ?_
  rw [ins_ins hpq (by omega)]
set_option maxHeartbeats 2000000 in
theorem movesSums_w (t u : T4) (d0 d1 : BitVec 8) (W : World) (h_t : t.at W) (h_u : u.at W) (f_t : few t) (f_u : few u) :
    Fnc Try.prog 5 [t.v, u.v, .agg [b8 d0, b8 d1].toArray] W (fun r w' => r = .bool true ∧ Below W.heap.size W w') := by
  have hB := Below.refl W.heap.size W
  refine Fnc.enter (n := 193) Try.func5 (by kernel_rfl) rfl rfl rfl ?_
  refine Cw.seq ?_
  refine Cw.region ?_
  refine Lw.boxV (cs := [t.x, t.y]) rfl rfl rfl ?_
  rintro A_t w eA_t b_t hn -
  replace hB := hB.bs hn
  replace h_t := h_t.bs hn
  replace h_u := h_u.bs hn
  clear hn
  refine Lw.boxV (cs := [u.x, u.y]) rfl rfl rfl ?_
  rintro A_u w eA_u b_u hn -
  replace hB := hB.bs hn
  replace h_t := h_t.bs hn
  replace h_u := h_u.bs hn
  replace b_t := b_t.bs hn
  clear hn
  refine Lw.boxV (cs := [b8 d0, b8 d1]) rfl rfl rfl ?_
  rintro A_z w eA_z b_z hn -
  replace hB := hB.bs hn
  replace h_t := h_t.bs hn
  replace h_u := h_u.bs hn
  replace b_t := b_t.bs hn
  replace b_u := b_u.bs hn
  clear hn
  refine Lw.val (Ex.assign rfl) rfl ?_
  refine Lw.nil ?_
  refine Pw.thenN (Cw.out ?_)
  refine Cw.seq ?_
  refine Cw.seq ?_
  refine Cw.region ?_
  refine Lw.callF rfl rfl (alive_c _) ?_
  rintro _ w ⟨rfl, hn⟩
  replace hB := hB.bs hn
  replace h_t := h_t.bs hn
  replace h_u := h_u.bs hn
  replace b_t := b_t.bs hn
  replace b_u := b_u.bs hn
  replace b_z := b_z.bs hn
  clear hn
  refine Lw.val (Ex.not rfl) rfl ?_
  refine Lw.val (Ex.move rfl) rfl ?_
  refine Lw.know 31 (v' := .bool false) rfl (congrArg Value.bool (rfl)) ?_
  refine Lw.take (dj := 31) rfl rfl ?_
  refine Lw.val (Ex.ldA (ag_25 _) (sz_25 _) rfl rfl (by assumption)) rfl ?_
  refine Lw.take (dj := 31) rfl rfl ?_
  refine Lw.callF rfl rfl (small_c t _ h_t f_t) ?_
  rintro _ w ⟨rfl, hn⟩
  replace hB := hB.bs hn
  replace h_t := h_t.bs hn
  replace h_u := h_u.bs hn
  replace b_t := b_t.bs hn
  replace b_u := b_u.bs hn
  replace b_z := b_z.bs hn
  clear hn
  refine Lw.take (dj := 31) rfl rfl ?_
  refine Lw.val (Ex.not rfl) rfl ?_
  refine Lw.val (Ex.pickF rfl rfl) rfl ?_
  refine Lw.val (Ex.move rfl) rfl ?_
  refine Lw.part 36 rfl ?_ ?_
  · intro _
    refine Lw.pass (dj := 36) rfl rfl rfl rfl ?_
    refine Lw.pass (dj := 36) rfl rfl rfl rfl ?_
    refine Lw.pass (dj := 36) rfl rfl rfl rfl ?_
    refine Lw.val (Ex.pickT rfl rfl) rfl ?_
    refine Lw.val (Ex.move rfl) rfl ?_
    refine Lw.pass (dj := 41) rfl rfl rfl rfl ?_
    refine Lw.pass (dj := 41) rfl rfl rfl rfl ?_
    refine Lw.pass (dj := 41) rfl rfl rfl rfl ?_
    refine Lw.pass (dj := 41) rfl rfl rfl rfl ?_
    refine Lw.pass (dj := 41) rfl rfl rfl rfl ?_
    refine Lw.pass (dj := 41) rfl rfl rfl rfl ?_
    refine Lw.val (Ex.pickT rfl rfl) rfl ?_
    refine Lw.nil ?_
    refine Pw.thenN (Cw.out ?_)
    refine Cw.condT rfl ?_
    refine Cw.seq ?_
    refine Cw.region ?_
    refine Lw.callF rfl rfl (alive_c _) ?_
    rintro _ w ⟨rfl, hn⟩
    replace hB := hB.bs hn
    replace h_t := h_t.bs hn
    replace h_u := h_u.bs hn
    replace b_t := b_t.bs hn
    replace b_u := b_u.bs hn
    replace b_z := b_z.bs hn
    clear hn
    refine Lw.val (Ex.assign rfl) rfl ?_
    refine Lw.nil ?_
    refine Pw.thenN (Cw.out ?_)
    refine Cw.ret ?_
    refine Pw.thenR ?_
    refine Pw.ret1 rfl rfl ?_
    exact ⟨rfl, hB⟩
  intro g1
  have t_t : tok t.s t.l = true := (sml_ok (by simpa using g1)).1
  have lt4 := (sml_ok (a := t) (by simpa using g1)).2.2
  clear g1
  refine Lw.take (dj := 36) rfl rfl ?_
  refine Lw.val (Ex.ldA (ag_25 _) (sz_25 _) rfl rfl (by assumption)) rfl ?_
  refine Lw.take (dj := 36) rfl rfl ?_
  refine Lw.callF rfl rfl (small_c u _ h_u f_u) ?_
  rintro _ w ⟨rfl, hn⟩
  replace hB := hB.bs hn
  replace h_t := h_t.bs hn
  replace h_u := h_u.bs hn
  replace b_t := b_t.bs hn
  replace b_u := b_u.bs hn
  replace b_z := b_z.bs hn
  clear hn
  refine Lw.take (dj := 36) rfl rfl ?_
  refine Lw.val (Ex.not rfl) rfl ?_
  refine Lw.val (Ex.pickF rfl rfl) rfl ?_
  refine Lw.val (Ex.move rfl) rfl ?_
  refine Lw.part 41 rfl ?_ ?_
  · intro _
    refine Lw.pass (dj := 41) rfl rfl rfl rfl ?_
    refine Lw.pass (dj := 41) rfl rfl rfl rfl ?_
    refine Lw.pass (dj := 41) rfl rfl rfl rfl ?_
    refine Lw.pass (dj := 41) rfl rfl rfl rfl ?_
    refine Lw.pass (dj := 41) rfl rfl rfl rfl ?_
    refine Lw.pass (dj := 41) rfl rfl rfl rfl ?_
    refine Lw.val (Ex.pickT rfl rfl) rfl ?_
    refine Lw.nil ?_
    refine Pw.thenN (Cw.out ?_)
    refine Cw.condT rfl ?_
    refine Cw.seq ?_
    refine Cw.region ?_
    refine Lw.callF rfl rfl (alive_c _) ?_
    rintro _ w ⟨rfl, hn⟩
    replace hB := hB.bs hn
    replace h_t := h_t.bs hn
    replace h_u := h_u.bs hn
    replace b_t := b_t.bs hn
    replace b_u := b_u.bs hn
    replace b_z := b_z.bs hn
    clear hn
    refine Lw.val (Ex.assign rfl) rfl ?_
    refine Lw.nil ?_
    refine Pw.thenN (Cw.out ?_)
    refine Cw.ret ?_
    refine Pw.thenR ?_
    refine Pw.ret1 rfl rfl ?_
    exact ⟨rfl, hB⟩
  intro g1
  have t_u : tok u.s u.l = true := (sml_ok (by simpa using g1)).1
  clear g1
  have h_t1 := h_t.1
  have h_t2 := h_t.2
  have h_u1 := h_u.1
  refine Lw.take (dj := 41) rfl rfl ?_
  refine Lw.val (Ex.fieldAddr (q := 0) Try.underlying25 rfl (sz_22 _) rfl) rfl ?_
  refine Lw.take (dj := 41) rfl rfl ?_
  refine Lw.val (Ex.ldB (ag_22 _) rfl (by assumption) rfl) rfl ?_
  refine Lw.take (dj := 41) rfl rfl ?_
  refine Lw.val (Ex.fieldAddr (q := 0) Try.underlying25 rfl (sz_22 _) rfl) rfl ?_
  refine Lw.take (dj := 41) rfl rfl ?_
  refine Lw.val (Ex.ldB (ag_22 _) rfl (by assumption) rfl) rfl ?_
  refine Lw.take (dj := 41) rfl rfl ?_
  refine Lw.callF rfl rfl (sameInts_c t.x u.x _ _ _ h_t1 h_u1) ?_
  rintro _ w ⟨rfl, hn⟩
  replace hB := hB.bs hn
  replace h_t := h_t.bs hn
  replace h_u := h_u.bs hn
  replace b_t := b_t.bs hn
  replace b_u := b_u.bs hn
  replace b_z := b_z.bs hn
  replace h_t1 := h_t1.bs hn
  replace h_t2 := h_t2.bs hn
  replace h_u1 := h_u1.bs hn
  clear hn
  refine Lw.take (dj := 41) rfl rfl ?_
  refine Lw.val (Ex.not rfl) rfl ?_
  refine Lw.val (Ex.pickF rfl rfl) rfl ?_
  refine Lw.nil ?_
  refine Pw.thenN (Cw.out ?_)
  refine Cw.cond rfl ?_ ?_
  · intro _
    refine Cw.seq ?_
    refine Cw.region ?_
    refine Lw.callF rfl rfl (alive_c _) ?_
    rintro _ w ⟨rfl, hn⟩
    replace hB := hB.bs hn
    replace h_t := h_t.bs hn
    replace h_u := h_u.bs hn
    replace b_t := b_t.bs hn
    replace b_u := b_u.bs hn
    replace b_z := b_z.bs hn
    replace h_t1 := h_t1.bs hn
    replace h_t2 := h_t2.bs hn
    replace h_u1 := h_u1.bs hn
    clear hn
    refine Lw.val (Ex.assign rfl) rfl ?_
    refine Lw.nil ?_
    refine Pw.thenN (Cw.out ?_)
    refine Cw.ret ?_
    refine Pw.thenR ?_
    refine Pw.ret1 rfl rfl ?_
    exact ⟨rfl, hB⟩
  intro g1
  have s_u : u.s = t.s := by have : t.s = u.s := by simpa using g1
                             exact this.symm
  clear g1
  have S := (Shapes.ok_iff t.s).1 (tok_ok t_t).1
  have hn0 : 1 ≤ t.s.length := by omega
  obtain ⟨p, hp⟩ : ∃ p, p = d0.toNat % t.s.length := ⟨_, rfl⟩
  have hpl : p < t.s.length := by rw [hp]; exact Nat.mod_lt _ hn0
  have hpu : p < u.s.length := by rw [s_u]; exact hpl
  refine Cw.skip ?_
  refine Pw.thenN (Cw.out ?_)
  refine Cw.seq ?_
  refine Cw.region ?_
  refine Lw.val (Ex.fieldAddr (q := 0) Try.underlying25 rfl (sz_22 _) rfl) rfl ?_
  refine Lw.val (Ex.ldB (ag_22 _) rfl (by assumption) rfl) rfl ?_
  refine Lw.val (Ex.lenS st_22 rfl (by assumption)) rfl ?_
  refine Lw.val (Ex.assign rfl) rfl ?_
  refine Lw.nil ?_
  refine Pw.thenN (Cw.out ?_)
  refine Cw.seq ?_
  refine Cw.region ?_
  refine Lw.val (Ex.idxB un_38 sz_5 rfl rfl 0 rfl (by decide)) rfl ?_
  refine Lw.val (Ex.ldB (ag_5 _) rfl (by assumption) rfl) rfl ?_
  refine Lw.val (Ex.conv8_I us_5 un_3 rfl) rfl ?_
  refine Lw.val (Ex.move rfl) rfl ?_
  refine Lw.val ((Ex.remN rfl rfl hn0).as (congrArg (fun x : Nat => Value.int .i64 (x : Int)) hp.symm)) rfl ?_
  refine Lw.val (Ex.assign rfl) rfl ?_
  refine Lw.nil ?_
  refine Pw.thenN (Cw.out ?_)
  refine Cw.seq ?_
  refine Cw.region ?_
  refine Lw.val (Ex.ldA (ag_25 _) (sz_25 _) rfl rfl (by assumption)) rfl ?_
  refine Lw.val (Ex.move rfl) rfl ?_
  have e_x := suE_ok t_t hpl
  refine Lw.callF rfl rfl (msum_g t (p : Int) _ h_t) ?_
  rintro r w ⟨hn, x, rfl, h_x, -, hz⟩
  rw [e_x]
  obtain ⟨s_x, l_x⟩ := hz e_x
  rw [Int.toNat_natCast] at s_x l_x
  have t_x : tok x.s x.l = true := by rw [s_x, l_x]; exact su_tok t_t hpl
  clear hz e_x
  replace hB := hB.bs hn
  replace h_t := h_t.bs hn
  replace h_u := h_u.bs hn
  replace b_t := b_t.bs hn
  replace b_u := b_u.bs hn
  replace b_z := b_z.bs hn
  replace h_t1 := h_t1.bs hn
  replace h_t2 := h_t2.bs hn
  replace h_u1 := h_u1.bs hn
  clear hn
  refine Lw.val (Ex.move rfl) rfl ?_
  refine Lw.val (Ex.extract (i := 0) rfl rfl) rfl ?_
  refine Lw.val (Ex.extract (i := 1) rfl rfl) rfl ?_
  refine Lw.boxed (cs := [x.x, x.y]) it_25 rfl rfl rfl rfl (fun _ => rfl) (h_x.one) ?_
  rintro A_x w eA_x b_x hn -
  replace hB := hB.bs hn
  replace h_t := h_t.bs hn
  replace h_u := h_u.bs hn
  replace b_t := b_t.bs hn
  replace b_u := b_u.bs hn
  replace b_z := b_z.bs hn
  replace h_t1 := h_t1.bs hn
  replace h_t2 := h_t2.bs hn
  replace h_u1 := h_u1.bs hn
  replace h_x := h_x.bs hn
  clear hn
  refine Lw.val (Ex.assign rfl) rfl ?_
  refine Lw.nil ?_
  refine Pw.thenN (Cw.out ?_)
  refine Cw.seq ?_
  refine Cw.region ?_
  refine Lw.val (Ex.ldA (ag_25 _) (sz_25 _) rfl rfl (by assumption)) rfl ?_
  refine Lw.val (Ex.move rfl) rfl ?_
  have e_y := suE_ok t_u hpu
  refine Lw.callF rfl rfl (msum_g u (p : Int) _ h_u) ?_
  rintro r w ⟨hn, y, rfl, h_y, -, hz⟩
  rw [e_y]
  obtain ⟨s_y, l_y⟩ := hz e_y
  rw [Int.toNat_natCast] at s_y l_y
  have t_y : tok y.s y.l = true := by rw [s_y, l_y]; exact su_tok t_u hpu
  clear hz e_y
  replace hB := hB.bs hn
  replace h_t := h_t.bs hn
  replace h_u := h_u.bs hn
  replace b_t := b_t.bs hn
  replace b_u := b_u.bs hn
  replace b_z := b_z.bs hn
  replace h_t1 := h_t1.bs hn
  replace h_t2 := h_t2.bs hn
  replace h_u1 := h_u1.bs hn
  replace h_x := h_x.bs hn
  replace b_x := b_x.bs hn
  clear hn
  refine Lw.val (Ex.move rfl) rfl ?_
  refine Lw.val (Ex.extract (i := 0) rfl rfl) rfl ?_
  refine Lw.val (Ex.extract (i := 1) rfl rfl) rfl ?_
  refine Lw.boxed (cs := [y.x, y.y]) it_25 rfl rfl rfl rfl (fun _ => rfl) (h_y.one) ?_
  rintro A_y w eA_y b_y hn -
  replace hB := hB.bs hn
  replace h_t := h_t.bs hn
  replace h_u := h_u.bs hn
  replace b_t := b_t.bs hn
  replace b_u := b_u.bs hn
  replace b_z := b_z.bs hn
  replace h_t1 := h_t1.bs hn
  replace h_t2 := h_t2.bs hn
  replace h_u1 := h_u1.bs hn
  replace h_x := h_x.bs hn
  replace b_x := b_x.bs hn
  replace h_y := h_y.bs hn
  clear hn
  refine Lw.val (Ex.assign rfl) rfl ?_
  refine Lw.nil ?_
  refine Pw.thenN (Cw.out ?_)
  refine Cw.seq ?_
  refine Cw.region ?_
  refine Lw.val (Ex.ldA (ag_25 _) (sz_25 _) rfl rfl (by assumption)) rfl ?_
  refine Lw.val (Ex.ldA (ag_25 _) (sz_25 _) rfl rfl (by assumption)) rfl ?_
  have e_xy := e2_ok t_x t_y (by rw [s_x, s_y, s_u])
  refine Lw.callF rfl rfl (add_p x y _ h_x h_y) ?_
  rintro r w ⟨hn, xy, rfl, h_xy, -, hz⟩
  rw [e_xy]
  obtain ⟨s_xy, l_xy, -⟩ := hz e_xy
  have t_xy : tok xy.s xy.l = true := by rw [s_xy, l_xy]; exact z2_tok t_x
  clear hz e_xy
  replace hB := hB.bs hn
  replace h_t := h_t.bs hn
  replace h_u := h_u.bs hn
  replace b_t := b_t.bs hn
  replace b_u := b_u.bs hn
  replace b_z := b_z.bs hn
  replace h_t1 := h_t1.bs hn
  replace h_t2 := h_t2.bs hn
  replace h_u1 := h_u1.bs hn
  replace h_x := h_x.bs hn
  replace b_x := b_x.bs hn
  replace h_y := h_y.bs hn
  replace b_y := b_y.bs hn
  clear hn
  refine Lw.val (Ex.move rfl) rfl ?_
  refine Lw.val (Ex.extract (i := 0) rfl rfl) rfl ?_
  refine Lw.val (Ex.extract (i := 1) rfl rfl) rfl ?_
  refine Lw.boxed (cs := [xy.x, xy.y]) it_25 rfl rfl rfl rfl (fun _ => rfl) (h_xy.one) ?_
  rintro A_xy w eA_xy b_xy hn -
  replace hB := hB.bs hn
  replace h_t := h_t.bs hn
  replace h_u := h_u.bs hn
  replace b_t := b_t.bs hn
  replace b_u := b_u.bs hn
  replace b_z := b_z.bs hn
  replace h_t1 := h_t1.bs hn
  replace h_t2 := h_t2.bs hn
  replace h_u1 := h_u1.bs hn
  replace h_x := h_x.bs hn
  replace b_x := b_x.bs hn
  replace h_y := h_y.bs hn
  replace b_y := b_y.bs hn
  replace h_xy := h_xy.bs hn
  clear hn
  refine Lw.val (Ex.assign rfl) rfl ?_
  refine Lw.nil ?_
  refine Pw.thenN (Cw.out ?_)
  refine Cw.seq ?_
  refine Cw.region ?_
  refine Lw.val (Ex.ldA (ag_25 _) (sz_25 _) rfl rfl (by assumption)) rfl ?_
  refine Lw.val (Ex.ldA (ag_25 _) (sz_25 _) rfl rfl (by assumption)) rfl ?_
  have e_tu := e2_ok t_t t_u s_u
  refine Lw.callF rfl rfl (add_p t u _ h_t h_u) ?_
  rintro r w ⟨hn, tu, rfl, h_tu, -, hz⟩
  rw [e_tu]
  obtain ⟨s_tu, l_tu, -⟩ := hz e_tu
  have t_tu : tok tu.s tu.l = true := by rw [s_tu, l_tu]; exact z2_tok t_t
  clear hz e_tu
  replace hB := hB.bs hn
  replace h_t := h_t.bs hn
  replace h_u := h_u.bs hn
  replace b_t := b_t.bs hn
  replace b_u := b_u.bs hn
  replace b_z := b_z.bs hn
  replace h_t1 := h_t1.bs hn
  replace h_t2 := h_t2.bs hn
  replace h_u1 := h_u1.bs hn
  replace h_x := h_x.bs hn
  replace b_x := b_x.bs hn
  replace h_y := h_y.bs hn
  replace b_y := b_y.bs hn
  replace h_xy := h_xy.bs hn
  replace b_xy := b_xy.bs hn
  clear hn
  refine Lw.val (Ex.move rfl) rfl ?_
  refine Lw.val (Ex.extract (i := 0) rfl rfl) rfl ?_
  refine Lw.val (Ex.extract (i := 1) rfl rfl) rfl ?_
  refine Lw.boxed (cs := [tu.x, tu.y]) it_25 rfl rfl rfl rfl (fun _ => rfl) (h_tu.one) ?_
  rintro A_tu w eA_tu b_tu hn -
  replace hB := hB.bs hn
  replace h_t := h_t.bs hn
  replace h_u := h_u.bs hn
  replace b_t := b_t.bs hn
  replace b_u := b_u.bs hn
  replace b_z := b_z.bs hn
  replace h_t1 := h_t1.bs hn
  replace h_t2 := h_t2.bs hn
  replace h_u1 := h_u1.bs hn
  replace h_x := h_x.bs hn
  replace b_x := b_x.bs hn
  replace h_y := h_y.bs hn
  replace b_y := b_y.bs hn
  replace h_xy := h_xy.bs hn
  replace b_xy := b_xy.bs hn
  replace h_tu := h_tu.bs hn
  clear hn
  refine Lw.val (Ex.assign rfl) rfl ?_
  refine Lw.nil ?_
  refine Pw.thenN (Cw.out ?_)
  refine Cw.seq ?_
  refine Cw.region ?_
  refine Lw.val (Ex.ldA (ag_25 _) (sz_25 _) rfl rfl (by assumption)) rfl ?_
  refine Lw.val (Ex.move rfl) rfl ?_
  have hptu : p < tu.s.length := by rw [s_tu]; exact hpl
  have e_both := suE_ok t_tu hptu
  refine Lw.callF rfl rfl (msum_g tu (p : Int) _ h_tu) ?_
  rintro r w ⟨hn, both, rfl, h_both, -, hz⟩
  rw [e_both]
  obtain ⟨s_both, l_both⟩ := hz e_both
  rw [Int.toNat_natCast] at s_both l_both
  have t_both : tok both.s both.l = true := by rw [s_both, l_both]; exact su_tok t_tu hptu
  clear hz e_both
  replace hB := hB.bs hn
  replace h_t := h_t.bs hn
  replace h_u := h_u.bs hn
  replace b_t := b_t.bs hn
  replace b_u := b_u.bs hn
  replace b_z := b_z.bs hn
  replace h_t1 := h_t1.bs hn
  replace h_t2 := h_t2.bs hn
  replace h_u1 := h_u1.bs hn
  replace h_x := h_x.bs hn
  replace b_x := b_x.bs hn
  replace h_y := h_y.bs hn
  replace b_y := b_y.bs hn
  replace h_xy := h_xy.bs hn
  replace b_xy := b_xy.bs hn
  replace h_tu := h_tu.bs hn
  replace b_tu := b_tu.bs hn
  clear hn
  refine Lw.val (Ex.move rfl) rfl ?_
  refine Lw.val (Ex.extract (i := 0) rfl rfl) rfl ?_
  refine Lw.val (Ex.extract (i := 1) rfl rfl) rfl ?_
  refine Lw.boxed (cs := [both.x, both.y]) it_25 rfl rfl rfl rfl (fun _ => rfl) (h_both.one) ?_
  rintro A_both w eA_both b_both hn -
  replace hB := hB.bs hn
  replace h_t := h_t.bs hn
  replace h_u := h_u.bs hn
  replace b_t := b_t.bs hn
  replace b_u := b_u.bs hn
  replace b_z := b_z.bs hn
  replace h_t1 := h_t1.bs hn
  replace h_t2 := h_t2.bs hn
  replace h_u1 := h_u1.bs hn
  replace h_x := h_x.bs hn
  replace b_x := b_x.bs hn
  replace h_y := h_y.bs hn
  replace b_y := b_y.bs hn
  replace h_xy := h_xy.bs hn
  replace b_xy := b_xy.bs hn
  replace h_tu := h_tu.bs hn
  replace b_tu := b_tu.bs hn
  replace h_both := h_both.bs hn
  clear hn
  refine Lw.val (Ex.assign rfl) rfl ?_
  refine Lw.nil ?_
  refine Pw.thenN (Cw.out ?_)
  refine Cw.seq ?_
  refine Cw.seq ?_
  refine Cw.region ?_
  refine Lw.val (Ex.move rfl) rfl ?_
  refine Lw.val (Ex.neq rfl rfl) rfl ?_
  refine Lw.val (Ex.move rfl) rfl ?_
  refine Lw.know 90 (v' := .bool false) rfl (congrArg Value.bool (rfl)) ?_
  refine Lw.take (dj := 90) rfl rfl ?_
  refine Lw.val (Ex.move rfl) rfl ?_
  refine Lw.take (dj := 90) rfl rfl ?_
  refine Lw.val (Ex.neq rfl rfl) rfl ?_
  refine Lw.val (Ex.pickF rfl rfl) rfl ?_
  refine Lw.val (Ex.move rfl) rfl ?_
  refine Lw.know 94 (v' := .bool false) rfl (congrArg Value.bool (rfl)) ?_
  refine Lw.take (dj := 94) rfl rfl ?_
  refine Lw.val (Ex.move rfl) rfl ?_
  refine Lw.take (dj := 94) rfl rfl ?_
  refine Lw.val (Ex.neq rfl rfl) rfl ?_
  refine Lw.val (Ex.pickF rfl rfl) rfl ?_
  refine Lw.val (Ex.move rfl) rfl ?_
  refine Lw.know 98 (v' := .bool false) rfl (congrArg Value.bool (rfl)) ?_
  refine Lw.take (dj := 98) rfl rfl ?_
  refine Lw.val (Ex.move rfl) rfl ?_
  refine Lw.take (dj := 98) rfl rfl ?_
  refine Lw.val (Ex.neq rfl rfl) rfl ?_
  refine Lw.val (Ex.pickF rfl rfl) rfl ?_
  refine Lw.val (Ex.move rfl) rfl ?_
  refine Lw.know 102 (v' := .bool false) rfl (congrArg Value.bool (rfl)) ?_
  refine Lw.take (dj := 102) rfl rfl ?_
  refine Lw.val (Ex.ldA (ag_25 _) (sz_25 _) rfl rfl (by assumption)) rfl ?_
  refine Lw.take (dj := 102) rfl rfl ?_
  refine Lw.val (Ex.move rfl) rfl ?_
  refine Lw.take (dj := 102) rfl rfl ?_
  refine Lw.val (Ex.ldA (ag_25 _) (sz_25 _) rfl rfl (by assumption)) rfl ?_
  refine Lw.take (dj := 102) rfl rfl ?_
  refine Lw.callF rfl rfl (is9_c both 0 xy _ h_both h_xy) ?_
  rintro _ w ⟨rfl, hn⟩
  replace hB := hB.bs hn
  replace h_t := h_t.bs hn
  replace h_u := h_u.bs hn
  replace b_t := b_t.bs hn
  replace b_u := b_u.bs hn
  replace b_z := b_z.bs hn
  replace h_t1 := h_t1.bs hn
  replace h_t2 := h_t2.bs hn
  replace h_u1 := h_u1.bs hn
  replace h_x := h_x.bs hn
  replace b_x := b_x.bs hn
  replace h_y := h_y.bs hn
  replace b_y := b_y.bs hn
  replace h_xy := h_xy.bs hn
  replace b_xy := b_xy.bs hn
  replace h_tu := h_tu.bs hn
  replace b_tu := b_tu.bs hn
  replace h_both := h_both.bs hn
  replace b_both := b_both.bs hn
  clear hn
  refine Lw.take (dj := 102) rfl rfl ?_
  refine Lw.val (Ex.not rfl) rfl ?_
  refine Lw.val (Ex.pickF rfl rfl) rfl ?_
  refine Lw.nil ?_
  refine Pw.thenN (Cw.out ?_)
  refine Cw.condB rfl false ((by rw [s_both, l_both, s_xy, l_xy, s_tu, l_tu, s_x, l_x, l_y, s_u, su_add t_t (by rw [← s_u]; exact t_u)]; simp)) ?_
  refine Cw.skip ?_
  refine Pw.thenN (Cw.out ?_)
  refine Cw.seq ?_
  refine Cw.region ?_
  refine Lw.val (Ex.ldA (ag_25 _) (sz_25 _) rfl rfl (by assumption)) rfl ?_
  refine Lw.boxed (cs := [t.x, t.y]) it_25 rfl rfl rfl rfl (fun _ => rfl) (h_t.one) ?_
  rintro A_m w8 eA_m b_m hn8 zhn8
  have zw8 := hn8.size
  refine Lw.nil ?_
  refine Pw.thenN (Cw.out ?_)
  refine Cw.seq ?_
  refine Cw.seq ?_
  refine Cw.region ?_
  refine Lw.val (Ex.assign rfl) rfl ?_
  refine Lw.nil ?_
  refine Pw.thenN (Cw.out ?_)
  refine Cw.block ?_
  refine Cw.loop (S := (Nat × T4)) (fun z => [(3, .pointer (some ⟨A_t, 0, none⟩)), (5, .pointer (some ⟨A_z, 0, none⟩)), (7, .int .i64 (t.s.length : Int)), (8, .int .i64 (p : Int)), (9, .pointer (some ⟨A_x, 0, none⟩)), (19, .pointer (some ⟨A_m, 0, none⟩)), (20, .int .i64 (z.1 : Int))]) (fun z w' => z.1 ≤ t.s.length ∧ Below w.heap.size w w' ∧ z.2.at w' ∧ Blk w' A_m 25 [z.2.x, z.2.y] ∧ Red t.s.length z.1 (tot t.l) z.2) (fun z => t.s.length - z.1) ((0, t)) ⟨rfl, rfl, rfl, rfl, rfl, rfl, rfl, trivial⟩ ?_ ?_
  · exact ⟨Nat.zero_le _, hn8, h_t.bs hn8, b_m, t_t, rfl, fun _ => rfl, fun h => by simp only at h; omega⟩
  clear b_m hn8 zw8
  rintro ⟨i, a⟩ w9 ⟨hi, hw, h_a, b_m, hr⟩
  dsimp only at hi h_a b_m hr ⊢
  have zw := hw.size
  have q_m : A_m < w9.heap.size := blk_lt b_m
  refine Cw.seq ?_
  refine Cw.seq ?_
  refine Cw.region ?_
  refine Lw.val (Ex.move rfl) rfl ?_
  refine Lw.val (Ex.move rfl) rfl ?_
  refine Lw.val (Ex.lss rfl rfl) rfl ?_
  refine Lw.nil ?_
  refine Pw.thenN (Cw.out ?_)
  refine Cw.cond rfl ?_ ?_
  · intro h
    have hi' : i < t.s.length := by have := of_decide_eq_true h; omega
    have t_a : tok a.s a.l = true := hr.1
    have la := hr.2.2.1 hi'
    have e_a := suE_ok (p := 0) t_a (by omega)
    refine Cw.skip ?_
    refine Pw.thenN (Cw.out ?_)
    refine Cw.seq ?_
    refine Cw.block ?_
    refine Cw.seq ?_
    refine Cw.region ?_
    refine Lw.val (Ex.ldA (ag_25 _) (sz_25 _) rfl rfl (by assumption)) rfl ?_
    refine Lw.callF rfl rfl (msum_c a 0 w9 h_a) ?_
    rintro r w10 ⟨hn, cx, cy, rfl, -, hz⟩
    have e_a : suE a 0 = 0 := e_a
    have M := hz e_a
    have b_m := b_m.bs hn
    rw [e_a]
    refine Lw.val (Ex.move rfl) rfl ?_
    refine Lw.val (Ex.extract (i := 0) rfl rfl) rfl ?_
    refine Lw.val (Ex.extract (i := 1) rfl rfl) rfl ?_
    refine Lw.unit (Xu.stA (cs := [cx, cy]) rfl rfl rfl rfl M.at.one b_m rfl) ?_
    rintro w11 ⟨b_m2, hg, -⟩
    have M2 : MadeK w9 w11 cx cy _ _ := ⟨bl_krow M.row hg q_m, bl_krow M.col hg q_m, M.apart⟩
    have hw2 := (bt hw hn).grown hg (by have := hn.size; omega) (by rintro _ ⟨⟩; omega)
    refine Lw.val (Ex.assign rfl) rfl ?_
    refine Lw.nil ?_
    refine Pw.thenN (Cw.out ?_)
    refine Cw.seq ?_
    refine Cw.region ?_
    refine Lw.val (Ex.move rfl) rfl ?_
    refine Lw.val (Ex.neq rfl rfl) rfl ?_
    refine Lw.nil ?_
    refine Pw.thenN (Cw.out ?_)
    refine Cw.condB rfl false (rfl) ?_
    refine Cw.skip ?_
    refine Pw.blkN ?_
    refine Pw.thenN (Cw.out ?_)
    refine Cw.region ?_
    refine Lw.val (Ex.move rfl) rfl ?_
    refine Lw.val (Ex.addI rfl rfl (by omega)) rfl ?_
    refine Lw.val (Ex.assign rfl) rfl ?_
    refine Lw.nil ?_
    exact Pw.thenN (Pw.next ((i + 1, T4.mk cx cy (without a.s 0) (suL a.s a.l 0))) ⟨rfl, rfl, rfl, rfl, rfl, rfl, rfl, trivial⟩ (⟨hi', hw2, M2.at, b_m2, red_step hr hi' rfl rfl⟩) (by simp only; omega))
  intro h
  have hi' : i = t.s.length := by have := of_decide_eq_false h; omega
  subst hi'
  obtain ⟨s_a, l_a⟩ := red_end hr
  clear hr hi h
  replace hB := hB.bs hw
  replace h_t := h_t.bs hw
  replace b_t := b_t.bs hw
  replace b_z := b_z.bs hw
  replace h_t1 := h_t1.bs hw
  replace h_t2 := h_t2.bs hw
  replace h_x := h_x.bs hw
  replace b_x := b_x.bs hw
  clear hw
  refine Cw.exit ?_
  refine Pw.thenE ?_
  refine Pw.thenE ?_
  refine Pw.blkHit ?_
  refine Pw.thenN (Cw.out ?_)
  refine Cw.seq ?_
  refine Cw.region ?_
  refine Lw.val (Ex.assign (show _ = some (i32 (0#32)) from rfl)) rfl ?_
  refine Lw.nil ?_
  refine Pw.thenN (Cw.out ?_)
  refine Cw.seq ?_
  refine Cw.seq ?_
  refine Cw.region ?_
  refine Lw.val (Ex.assign rfl) rfl ?_
  refine Lw.nil ?_
  refine Pw.thenN (Cw.out ?_)
  refine Cw.block ?_
  refine Cw.loop (S := Nat) (fun i => [(3, .pointer (some ⟨A_t, 0, none⟩)), (5, .pointer (some ⟨A_z, 0, none⟩)), (7, .int .i64 (t.s.length : Int)), (8, .int .i64 (p : Int)), (9, .pointer (some ⟨A_x, 0, none⟩)), (19, .pointer (some ⟨A_m, 0, none⟩)), (21, i32 (sm i fun j => t.l.getD j default)), (22, .int .i64 (i : Int))]) (fun i w' => i ≤ t.l.length ∧ w' = w9) (fun i => t.l.length - i) (0) ⟨rfl, rfl, rfl, rfl, rfl, rfl, rfl, rfl, trivial⟩ ?_ ?_
  · exact ⟨Nat.zero_le _, rfl⟩
  rintro i w10 ⟨hi, rfl⟩
  refine Cw.seq ?_
  refine Cw.seq ?_
  refine Cw.region ?_
  refine Lw.val (Ex.move rfl) rfl ?_
  refine Lw.val (Ex.fieldAddr (q := 0) Try.underlying25 rfl (sz_23 _) rfl) rfl ?_
  refine Lw.val (Ex.ldB (ag_23 _) rfl (by assumption) rfl) rfl ?_
  refine Lw.val (Ex.lenS st_23 rfl (by assumption)) rfl ?_
  refine Lw.val (Ex.lss rfl rfl) rfl ?_
  refine Lw.nil ?_
  refine Pw.thenN (Cw.out ?_)
  refine Cw.cond rfl ?_ ?_
  · intro h
    have hi' : i < t.l.length := by have := of_decide_eq_true h; omega
    refine Cw.skip ?_
    refine Pw.thenN (Cw.out ?_)
    refine Cw.seq ?_
    refine Cw.block ?_
    refine Cw.region ?_
    refine Lw.val (Ex.move rfl) rfl ?_
    refine Lw.val (Ex.fieldAddr (q := 0) Try.underlying25 rfl (sz_23 _) rfl) rfl ?_
    refine Lw.val (Ex.ldB (ag_23 _) rfl (by assumption) rfl) rfl ?_
    refine Lw.val (Ex.move rfl) rfl ?_
    refine Lw.val (Ex.idxT st_23 rfl rfl (by assumption) _ rfl (by omega)) rfl ?_
    refine Lw.val (Ex.ldT (ag_21 _) rfl (by assumption) (by omega)) rfl ?_
    refine Lw.val (Ex.addi32 rfl rfl) rfl ?_
    refine Lw.val (Ex.assign rfl) rfl ?_
    refine Lw.nil ?_
    refine Pw.blkN ?_
    refine Pw.thenN (Cw.out ?_)
    refine Cw.region ?_
    refine Lw.val (Ex.move rfl) rfl ?_
    refine Lw.val (Ex.addI rfl rfl (by omega)) rfl ?_
    refine Lw.val (Ex.assign rfl) rfl ?_
    refine Lw.nil ?_
    exact Pw.thenN (Pw.next (i + 1) ⟨rfl, rfl, rfl, rfl, rfl, rfl, rfl, rfl, trivial⟩ (⟨hi', rfl⟩) (by omega))
  intro h
  have hi' : i = t.l.length := by have := of_decide_eq_false h; omega
  subst hi'
  rw [show (sm t.l.length fun j => t.l.getD j default) = tot t.l from rfl]
  obtain ⟨T, hT⟩ : ∃ T, T = tot t.l := ⟨_, rfl⟩
  rw [← hT] at l_a ⊢
  refine Cw.exit ?_
  refine Pw.thenE ?_
  refine Pw.thenE ?_
  refine Pw.blkHit ?_
  refine Pw.thenN (Cw.out ?_)
  refine Cw.seq ?_
  refine Cw.seq ?_
  refine Cw.any mixed (fun w hd _ => ?_)
  replace hB := hB.bs hd
  replace h_t := h_t.bs hd
  replace b_t := b_t.bs hd
  replace b_z := b_z.bs hd
  replace h_t1 := h_t1.bs hd
  replace h_t2 := h_t2.bs hd
  replace h_x := h_x.bs hd
  replace b_x := b_x.bs hd
  replace b_m := b_m.bs hd
  replace h_a := h_a.bs hd
  clear hd
  refine Aw.take (i := 2) (NoP.thn (NoP.thn NoP.ret)) rfl (by kernel_rfl) (by kernel_rfl) (by kernel_rfl) (fun _ => Ex.move rfl) rfl ?_
  refine Aw.seg (St := Unit) (g := 1) [0, 1, 3, 4, 5] 6 (fun s => [(3, .pointer (some ⟨A_t, 0, none⟩)), (5, .pointer (some ⟨A_z, 0, none⟩)), (7, .int .i64 (t.s.length : Int)), (8, .int .i64 (p : Int)), (9, .pointer (some ⟨A_x, 0, none⟩)), (141, .bool true)]) (fun s w' => Below w.heap.size w w') (by kernel_rfl) rfl ?_ ?_
  · refine Aw.cls (fun w' => Below w.heap.size w w') (fun hC => ?_) (Below.refl _ _)
    refine AwC.take (i := 0) (NoP.thn (NoP.thn (NoP.thn NoP.ret))) rfl (by kernel_rfl) (by kernel_rfl) (by kernel_rfl) (fun w1 hc => Ex.ldA (ag_25 _) (sz_25 _) rfl rfl (Blk.bs (by assumption) hc)) rfl ?_
    refine AwC.two (by first | assumption | exact Below.refl _ _) (i := 1) (j := 3) (by kernel_rfl) rfl rfl ?_ ?_
    · refine Lw.valW (Xw.lit (vs := ([1] : List Int).map (Value.int .i64)) st_22 it_3 rfl (by kernel_rfl) rfl rfl rfl) rfl ?_
      rintro y1 w2 ⟨hoy1, -, hn2, -⟩
      refine AwC.back ?_
      refine AwC.only (by first | assumption | exact Below.refl _ _) (i := 3) (by kernel_rfl) rfl ?_
      refine Lw.valW (Xw.lit (vs := ([T] : List (BitVec 32)).map i32) st_23 it_21 rfl (by kernel_rfl) rfl rfl rfl) rfl ?_
      rintro z1 w3 ⟨hoz1, -, hn3, -⟩
      have hn23 := bt hn2 hn3
      refine AwC.back ?_
      refine AwC.only (by first | assumption | exact Below.refl _ _) (i := 4) (by kernel_rfl) rfl ?_
      refine Lw.callF rfl rfl (of9_c y1 z1 [1] [T] w3 ((own_slT hoy1).bs hn3) (own_slT hoz1)) ?_
      rintro _ w4 ⟨qq, rfl, s_qq, l_qq, h_qq, hn⟩
      have hn4 := bt hn23 hn
      refine AwC.back ?_
      refine AwC.only (by first | assumption | exact Below.refl _ _) (i := 5) (by kernel_rfl) rfl ?_
      refine Lw.callF rfl rfl (is9_c a 0 qq w4 (h_a.bs hn4) h_qq) ?_
      rintro _ w5 ⟨rfl, hn⟩
      have hn5 := bt hn4 hn
      refine AwC.back ?_
      refine AwC.done (by first | assumption | exact Below.refl _ _) (by kernel_rfl) ?_
      exact Pw.thenN (Pw.seg (()) ⟨rfl, rfl, rfl, rfl, rfl, congrArg (fun b => some (Value.bool b)) (by rw [s_a, s_qq, l_a, l_qq]; simp), trivial⟩ (hn5))
    · refine Lw.valW (Xw.lit (vs := ([T] : List (BitVec 32)).map i32) st_23 it_21 rfl (by kernel_rfl) rfl rfl rfl) rfl ?_
      rintro z1 w2 ⟨hoz1, -, hn2, -⟩
      refine AwC.back ?_
      refine AwC.only (by first | assumption | exact Below.refl _ _) (i := 1) (by kernel_rfl) rfl ?_
      refine Lw.valW (Xw.lit (vs := ([1] : List Int).map (Value.int .i64)) st_22 it_3 rfl (by kernel_rfl) rfl rfl rfl) rfl ?_
      rintro y1 w3 ⟨hoy1, -, hn3, -⟩
      have hn23 := bt hn2 hn3
      refine AwC.back ?_
      refine AwC.only (by first | assumption | exact Below.refl _ _) (i := 4) (by kernel_rfl) rfl ?_
      refine Lw.callF rfl rfl (of9_c y1 z1 [1] [T] w3 (own_slT hoy1) ((own_slT hoz1).bs hn3)) ?_
      rintro _ w4 ⟨qq, rfl, s_qq, l_qq, h_qq, hn⟩
      have hn4 := bt hn23 hn
      refine AwC.back ?_
      refine AwC.only (by first | assumption | exact Below.refl _ _) (i := 5) (by kernel_rfl) rfl ?_
      refine Lw.callF rfl rfl (is9_c a 0 qq w4 (h_a.bs hn4) h_qq) ?_
      rintro _ w5 ⟨rfl, hn⟩
      have hn5 := bt hn4 hn
      refine AwC.back ?_
      refine AwC.done (by first | assumption | exact Below.refl _ _) (by kernel_rfl) ?_
      exact Pw.thenN (Pw.seg (()) ⟨rfl, rfl, rfl, rfl, rfl, congrArg (fun b => some (Value.bool b)) (by rw [s_a, s_qq, l_a, l_qq]; simp), trivial⟩ (hn5))
  rintro _ w2 hn
  replace hB := hB.bs hn
  replace h_t := h_t.bs hn
  replace b_t := b_t.bs hn
  replace b_z := b_z.bs hn
  replace h_t1 := h_t1.bs hn
  replace h_t2 := h_t2.bs hn
  replace h_x := h_x.bs hn
  replace b_x := b_x.bs hn
  replace b_m := b_m.bs hn
  replace h_a := h_a.bs hn
  clear hn
  refine Aw.take (i := 6) (NoP.thn (NoP.thn NoP.ret)) rfl (by kernel_rfl) (by kernel_rfl) (by kernel_rfl) (fun _ => Ex.not rfl) rfl ?_
  refine Aw.done (by kernel_rfl) ?_
  refine Pw.thenN (Cw.out ?_)
  refine Cw.condF rfl ?_
  refine Cw.skip ?_
  refine Pw.thenN (Cw.out ?_)
  refine Cw.seq ?_
  refine Cw.seq ?_
  refine Cw.region ?_
  refine Lw.val (Ex.move rfl) rfl ?_
  refine Lw.val (Ex.lss rfl rfl) rfl ?_
  refine Lw.nil ?_
  refine Pw.thenN (Cw.out ?_)
  rename World => w
  refine Cw.cond rfl ?_ ?_
  · intro _
    refine Cw.seq ?_
    refine Cw.region ?_
    refine Lw.val (Ex.assign rfl) rfl ?_
    refine Lw.nil ?_
    refine Pw.thenN (Cw.out ?_)
    refine Cw.ret ?_
    refine Pw.thenR ?_
    refine Pw.ret1 rfl rfl ?_
    exact ⟨rfl, hB⟩
  intro g2
  have g2 : ¬ t.s.length < 2 := by have := of_decide_eq_false g2; omega
  obtain ⟨q, hq⟩ : ∃ q, q = d1.toNat % (t.s.length - 1) := ⟨_, rfl⟩
  have hql : q + 1 < t.s.length := by
    have := Nat.mod_lt d1.toNat (show t.s.length - 1 > 0 by omega)
    omega
  have o_t := (tok_ok t_t).1
  have lx : x.s.length = t.s.length - 1 := by rw [s_x, without_wo (by omega), wo_length hpl]
  refine Cw.skip ?_
  refine Pw.thenN (Cw.out ?_)
  refine Cw.seq ?_
  refine Cw.region ?_
  refine Lw.val (Ex.idxB un_38 sz_5 rfl rfl 1 rfl (by decide)) rfl ?_
  refine Lw.val (Ex.ldB (ag_5 _) rfl (by assumption) rfl) rfl ?_
  refine Lw.val (Ex.conv8_I us_5 un_3 rfl) rfl ?_
  refine Lw.val (Ex.move rfl) rfl ?_
  refine Lw.val ((Ex.subI rfl rfl (by omega)).as (congrArg (Value.int .i64) (show (t.s.length : Int) - 1 = ((t.s.length - 1 : Nat) : Int) by omega))) rfl ?_
  refine Lw.val ((Ex.remN (j := t.s.length - 1) rfl rfl (by omega)).as (congrArg (fun x : Nat => Value.int .i64 (x : Int)) hq.symm)) rfl ?_
  refine Lw.val (Ex.assign rfl) rfl ?_
  refine Lw.nil ?_
  refine Pw.thenN (Cw.out ?_)
  refine Cw.seq ?_
  refine Cw.region ?_
  refine Lw.val (Ex.ldA (ag_25 _) (sz_25 _) rfl rfl (by assumption)) rfl ?_
  refine Lw.val (Ex.move rfl) rfl ?_
  have hqx : q < x.s.length := by omega
  have e_y1 := suE_ok t_x hqx
  refine Lw.callF rfl rfl (msum_g x (q : Int) _ h_x) ?_
  rintro r w ⟨hn, y1, rfl, h_y1, -, hz⟩
  rw [e_y1]
  obtain ⟨s_y1, l_y1⟩ := hz e_y1
  rw [Int.toNat_natCast] at s_y1 l_y1
  have t_y1 : tok y1.s y1.l = true := by rw [s_y1, l_y1]; exact su_tok t_x hqx
  clear hz e_y1
  replace hB := hB.bs hn
  replace h_t := h_t.bs hn
  replace b_t := b_t.bs hn
  replace b_z := b_z.bs hn
  replace h_t1 := h_t1.bs hn
  replace h_t2 := h_t2.bs hn
  replace h_x := h_x.bs hn
  replace b_x := b_x.bs hn
  replace b_m := b_m.bs hn
  replace h_a := h_a.bs hn
  clear hn
  refine Lw.val (Ex.move rfl) rfl ?_
  refine Lw.val (Ex.extract (i := 0) rfl rfl) rfl ?_
  refine Lw.val (Ex.extract (i := 1) rfl rfl) rfl ?_
  refine Lw.boxed (cs := [y1.x, y1.y]) it_25 rfl rfl rfl rfl (fun _ => rfl) (h_y1.one) ?_
  rintro A_y1 w eA_y1 b_y1 hn -
  replace hB := hB.bs hn
  replace h_t := h_t.bs hn
  replace b_t := b_t.bs hn
  replace b_z := b_z.bs hn
  replace h_t1 := h_t1.bs hn
  replace h_t2 := h_t2.bs hn
  replace h_x := h_x.bs hn
  replace b_x := b_x.bs hn
  replace b_m := b_m.bs hn
  replace h_a := h_a.bs hn
  replace h_y1 := h_y1.bs hn
  clear hn
  refine Lw.val (Ex.assign rfl) rfl ?_
  refine Lw.nil ?_
  refine Pw.thenN (Cw.out ?_)
  refine Cw.seq ?_
  refine Cw.region ?_
  refine Lw.val (Ex.move rfl) rfl ?_
  refine Lw.val (Ex.assign rfl) rfl ?_
  refine Lw.nil ?_
  refine Pw.thenN (Cw.out ?_)
  refine Cw.seq ?_
  refine Cw.seq ?_
  refine Cw.region ?_
  refine Lw.val (Ex.move rfl) rfl ?_
  refine Lw.val (Ex.move rfl) rfl ?_
  refine Lw.val (Ex.geq rfl rfl) rfl ?_
  refine Lw.nil ?_
  refine Pw.thenN (Cw.out ?_)
  refine Cw.cond rfl ?_ ?_
  · intro g3
    have g3 : p ≤ q := by have := of_decide_eq_true g3; omega
    obtain ⟨c1, c2⟩ := su_comm (l := t.l) o_t g3 hql
    refine Cw.region ?_
    refine Lw.val (Ex.move rfl) rfl ?_
    refine Lw.val ((Ex.addI rfl rfl (by omega)).as (congrArg (Value.int .i64) (show (q : Int) + 1 = ((q + 1 : Nat) : Int) by omega))) rfl ?_
    refine Lw.val (Ex.assign rfl) rfl ?_
    refine Lw.nil ?_
    refine Pw.thenN (Cw.out ?_)
    refine Cw.seq ?_
    refine Cw.region ?_
    refine Lw.val (Ex.ldA (ag_25 _) (sz_25 _) rfl rfl (by assumption)) rfl ?_
    refine Lw.val (Ex.move rfl) rfl ?_
    have e_v := suE_ok t_t hql
    refine Lw.callF rfl rfl (msum_g t ((q + 1 : Nat) : Int) _ h_t) ?_
    rintro r w ⟨hn, v, rfl, h_v, -, hz⟩
    rw [e_v]
    obtain ⟨s_v, l_v⟩ := hz e_v
    rw [Int.toNat_natCast] at s_v l_v
    have t_v : tok v.s v.l = true := by rw [s_v, l_v]; exact su_tok t_t hql
    clear hz e_v
    replace hB := hB.bs hn
    replace h_t := h_t.bs hn
    replace b_t := b_t.bs hn
    replace b_z := b_z.bs hn
    replace h_t1 := h_t1.bs hn
    replace h_t2 := h_t2.bs hn
    replace h_x := h_x.bs hn
    replace b_x := b_x.bs hn
    replace b_m := b_m.bs hn
    replace h_a := h_a.bs hn
    replace h_y1 := h_y1.bs hn
    replace b_y1 := b_y1.bs hn
    clear hn
    refine Lw.val (Ex.move rfl) rfl ?_
    refine Lw.val (Ex.extract (i := 0) rfl rfl) rfl ?_
    refine Lw.val (Ex.extract (i := 1) rfl rfl) rfl ?_
    refine Lw.boxed (cs := [v.x, v.y]) it_25 rfl rfl rfl rfl (fun _ => rfl) (h_v.one) ?_
    rintro A_v w eA_v b_v hn -
    replace hB := hB.bs hn
    replace h_t := h_t.bs hn
    replace b_t := b_t.bs hn
    replace b_z := b_z.bs hn
    replace h_t1 := h_t1.bs hn
    replace h_t2 := h_t2.bs hn
    replace h_x := h_x.bs hn
    replace b_x := b_x.bs hn
    replace b_m := b_m.bs hn
    replace h_a := h_a.bs hn
    replace h_y1 := h_y1.bs hn
    replace b_y1 := b_y1.bs hn
    replace h_v := h_v.bs hn
    clear hn
    refine Lw.val (Ex.assign rfl) rfl ?_
    refine Lw.nil ?_
    refine Pw.thenN (Cw.out ?_)
    refine Cw.seq ?_
    refine Cw.region ?_
    refine Lw.val (Ex.move rfl) rfl ?_
    refine Lw.val (Ex.assign rfl) rfl ?_
    refine Lw.nil ?_
    refine Pw.thenN (Cw.out ?_)
    refine Cw.seq ?_
    refine Cw.seq ?_
    refine Cw.region ?_
    refine Lw.val (Ex.move rfl) rfl ?_
    refine Lw.val (Ex.move rfl) rfl ?_
    refine Lw.val (Ex.lss rfl rfl) rfl ?_
    refine Lw.nil ?_
    refine Pw.thenN (Cw.out ?_)
    have lv : v.s.length = t.s.length - 1 := by rw [s_v, without_wo (by omega), wo_length hql]
    have hpv : p < v.s.length := by omega
    refine Cw.condB rfl false ((decide_eq_false (by omega))) ?_
    refine Cw.skip ?_
    refine Pw.thenN (Cw.out ?_)
    refine Cw.seq ?_
    refine Cw.region ?_
    refine Lw.val (Ex.ldA (ag_25 _) (sz_25 _) rfl rfl (by assumption)) rfl ?_
    refine Lw.val (Ex.move rfl) rfl ?_
    have e_y2 := suE_ok t_v hpv
    refine Lw.callF rfl rfl (msum_g v (p : Int) _ h_v) ?_
    rintro r w ⟨hn, y2, rfl, h_y2, -, hz⟩
    rw [e_y2]
    obtain ⟨s_y2, l_y2⟩ := hz e_y2
    rw [Int.toNat_natCast] at s_y2 l_y2
    have t_y2 : tok y2.s y2.l = true := by rw [s_y2, l_y2]; exact su_tok t_v hpv
    clear hz e_y2
    replace hB := hB.bs hn
    replace h_t := h_t.bs hn
    replace b_t := b_t.bs hn
    replace b_z := b_z.bs hn
    replace h_t1 := h_t1.bs hn
    replace h_t2 := h_t2.bs hn
    replace h_x := h_x.bs hn
    replace b_x := b_x.bs hn
    replace b_m := b_m.bs hn
    replace h_a := h_a.bs hn
    replace h_y1 := h_y1.bs hn
    replace b_y1 := b_y1.bs hn
    replace h_v := h_v.bs hn
    replace b_v := b_v.bs hn
    clear hn
    refine Lw.val (Ex.move rfl) rfl ?_
    refine Lw.val (Ex.extract (i := 0) rfl rfl) rfl ?_
    refine Lw.val (Ex.extract (i := 1) rfl rfl) rfl ?_
    refine Lw.boxed (cs := [y2.x, y2.y]) it_25 rfl rfl rfl rfl (fun _ => rfl) (h_y2.one) ?_
    rintro A_y2 w eA_y2 b_y2 hn -
    replace hB := hB.bs hn
    replace h_t := h_t.bs hn
    replace b_t := b_t.bs hn
    replace b_z := b_z.bs hn
    replace h_t1 := h_t1.bs hn
    replace h_t2 := h_t2.bs hn
    replace h_x := h_x.bs hn
    replace b_x := b_x.bs hn
    replace b_m := b_m.bs hn
    replace h_a := h_a.bs hn
    replace h_y1 := h_y1.bs hn
    replace b_y1 := b_y1.bs hn
    replace h_v := h_v.bs hn
    replace b_v := b_v.bs hn
    replace h_y2 := h_y2.bs hn
    clear hn
    refine Lw.val (Ex.assign rfl) rfl ?_
    refine Lw.nil ?_
    refine Pw.thenN (Cw.out ?_)
    refine Cw.seq ?_
    refine Cw.region ?_
    refine Lw.val (Ex.move rfl) rfl ?_
    refine Lw.val (Ex.eql rfl rfl) rfl ?_
    refine Lw.val (Ex.move rfl) rfl ?_
    refine Lw.know 183 (v' := .bool true) rfl (congrArg Value.bool (rfl)) ?_
    refine Lw.take (dj := 183) rfl rfl ?_
    refine Lw.val (Ex.move rfl) rfl ?_
    refine Lw.take (dj := 183) rfl rfl ?_
    refine Lw.val (Ex.eql rfl rfl) rfl ?_
    refine Lw.val (Ex.pickT rfl rfl) rfl ?_
    refine Lw.val (Ex.move rfl) rfl ?_
    refine Lw.know 187 (v' := .bool true) rfl (congrArg Value.bool (rfl)) ?_
    refine Lw.take (dj := 187) rfl rfl ?_
    refine Lw.val (Ex.ldA (ag_25 _) (sz_25 _) rfl rfl (by assumption)) rfl ?_
    refine Lw.take (dj := 187) rfl rfl ?_
    refine Lw.val (Ex.move rfl) rfl ?_
    refine Lw.take (dj := 187) rfl rfl ?_
    refine Lw.val (Ex.ldA (ag_25 _) (sz_25 _) rfl rfl (by assumption)) rfl ?_
    refine Lw.take (dj := 187) rfl rfl ?_
    refine Lw.callF rfl rfl (is9_c y2 0 y1 _ h_y2 h_y1) ?_
    rintro _ w ⟨rfl, hn⟩
    replace hB := hB.bs hn
    replace h_t := h_t.bs hn
    replace b_t := b_t.bs hn
    replace b_z := b_z.bs hn
    replace h_t1 := h_t1.bs hn
    replace h_t2 := h_t2.bs hn
    replace h_x := h_x.bs hn
    replace b_x := b_x.bs hn
    replace b_m := b_m.bs hn
    replace h_a := h_a.bs hn
    replace h_y1 := h_y1.bs hn
    replace b_y1 := b_y1.bs hn
    replace h_v := h_v.bs hn
    replace b_v := b_v.bs hn
    replace h_y2 := h_y2.bs hn
    replace b_y2 := b_y2.bs hn
    clear hn
    refine Lw.val (Ex.pickT rfl rfl) rfl ?_
    refine Lw.val (Ex.assign rfl) rfl ?_
    refine Lw.nil ?_
    refine Pw.thenN (Cw.out ?_)
    refine Cw.ret ?_
    refine Pw.ret1 rfl rfl ?_
    exact ⟨by rw [s_y2, l_y2, s_y1, l_y1, s_v, l_v, s_x, l_x, c1, c2]; simp, hB⟩
  intro g3
  have g3 : ¬ p ≤ q := by have := of_decide_eq_false g3; omega
  obtain ⟨b, hb⟩ : ∃ b, p = b + 1 := ⟨p - 1, by omega⟩
  obtain ⟨c1, c2⟩ := su_comm (l := t.l) (p := q) (q := b) o_t (by omega) (by omega)
  rw [← hb] at c1 c2
  refine Cw.skip ?_
  refine Pw.thenN (Cw.out ?_)
  refine Cw.seq ?_
  refine Cw.region ?_
  refine Lw.val (Ex.ldA (ag_25 _) (sz_25 _) rfl rfl (by assumption)) rfl ?_
  refine Lw.val (Ex.move rfl) rfl ?_
  have hqt : q < t.s.length := by omega
  have e_v := suE_ok t_t hqt
  refine Lw.callF rfl rfl (msum_g t (q : Int) _ h_t) ?_
  rintro r w ⟨hn, v, rfl, h_v, -, hz⟩
  rw [e_v]
  obtain ⟨s_v, l_v⟩ := hz e_v
  rw [Int.toNat_natCast] at s_v l_v
  have t_v : tok v.s v.l = true := by rw [s_v, l_v]; exact su_tok t_t hqt
  clear hz e_v
  replace hB := hB.bs hn
  replace h_t := h_t.bs hn
  replace b_t := b_t.bs hn
  replace b_z := b_z.bs hn
  replace h_t1 := h_t1.bs hn
  replace h_t2 := h_t2.bs hn
  replace h_x := h_x.bs hn
  replace b_x := b_x.bs hn
  replace b_m := b_m.bs hn
  replace h_a := h_a.bs hn
  replace h_y1 := h_y1.bs hn
  replace b_y1 := b_y1.bs hn
  clear hn
  refine Lw.val (Ex.move rfl) rfl ?_
  refine Lw.val (Ex.extract (i := 0) rfl rfl) rfl ?_
  refine Lw.val (Ex.extract (i := 1) rfl rfl) rfl ?_
  refine Lw.boxed (cs := [v.x, v.y]) it_25 rfl rfl rfl rfl (fun _ => rfl) (h_v.one) ?_
  rintro A_v w eA_v b_v hn -
  replace hB := hB.bs hn
  replace h_t := h_t.bs hn
  replace b_t := b_t.bs hn
  replace b_z := b_z.bs hn
  replace h_t1 := h_t1.bs hn
  replace h_t2 := h_t2.bs hn
  replace h_x := h_x.bs hn
  replace b_x := b_x.bs hn
  replace b_m := b_m.bs hn
  replace h_a := h_a.bs hn
  replace h_y1 := h_y1.bs hn
  replace b_y1 := b_y1.bs hn
  replace h_v := h_v.bs hn
  clear hn
  refine Lw.val (Ex.assign rfl) rfl ?_
  refine Lw.nil ?_
  refine Pw.thenN (Cw.out ?_)
  refine Cw.seq ?_
  refine Cw.region ?_
  refine Lw.val (Ex.move rfl) rfl ?_
  refine Lw.val (Ex.assign rfl) rfl ?_
  refine Lw.nil ?_
  refine Pw.thenN (Cw.out ?_)
  refine Cw.seq ?_
  refine Cw.seq ?_
  refine Cw.region ?_
  refine Lw.val (Ex.move rfl) rfl ?_
  refine Lw.val (Ex.move rfl) rfl ?_
  refine Lw.val (Ex.lss rfl rfl) rfl ?_
  refine Lw.nil ?_
  refine Pw.thenN (Cw.out ?_)
  have lv : v.s.length = t.s.length - 1 := by rw [s_v, without_wo (by omega), wo_length hqt]
  have hpv : b < v.s.length := by omega
  refine Cw.condB rfl true ((decide_eq_true (by omega))) ?_
  refine Cw.region ?_
  refine Lw.val (Ex.move rfl) rfl ?_
  refine Lw.val ((Ex.subI rfl rfl (by omega)).as (congrArg (Value.int .i64) (show (p : Int) - 1 = (b : Int) by omega))) rfl ?_
  refine Lw.val (Ex.assign rfl) rfl ?_
  refine Lw.nil ?_
  refine Pw.thenN (Cw.out ?_)
  refine Cw.seq ?_
  refine Cw.region ?_
  refine Lw.val (Ex.ldA (ag_25 _) (sz_25 _) rfl rfl (by assumption)) rfl ?_
  refine Lw.val (Ex.move rfl) rfl ?_
  have e_y2 := suE_ok t_v hpv
  refine Lw.callF rfl rfl (msum_g v (b : Int) _ h_v) ?_
  rintro r w ⟨hn, y2, rfl, h_y2, -, hz⟩
  rw [e_y2]
  obtain ⟨s_y2, l_y2⟩ := hz e_y2
  rw [Int.toNat_natCast] at s_y2 l_y2
  have t_y2 : tok y2.s y2.l = true := by rw [s_y2, l_y2]; exact su_tok t_v hpv
  clear hz e_y2
  replace hB := hB.bs hn
  replace h_t := h_t.bs hn
  replace b_t := b_t.bs hn
  replace b_z := b_z.bs hn
  replace h_t1 := h_t1.bs hn
  replace h_t2 := h_t2.bs hn
  replace h_x := h_x.bs hn
  replace b_x := b_x.bs hn
  replace b_m := b_m.bs hn
  replace h_a := h_a.bs hn
  replace h_y1 := h_y1.bs hn
  replace b_y1 := b_y1.bs hn
  replace h_v := h_v.bs hn
  replace b_v := b_v.bs hn
  clear hn
  refine Lw.val (Ex.move rfl) rfl ?_
  refine Lw.val (Ex.extract (i := 0) rfl rfl) rfl ?_
  refine Lw.val (Ex.extract (i := 1) rfl rfl) rfl ?_
  refine Lw.boxed (cs := [y2.x, y2.y]) it_25 rfl rfl rfl rfl (fun _ => rfl) (h_y2.one) ?_
  rintro A_y2 w eA_y2 b_y2 hn -
  replace hB := hB.bs hn
  replace h_t := h_t.bs hn
  replace b_t := b_t.bs hn
  replace b_z := b_z.bs hn
  replace h_t1 := h_t1.bs hn
  replace h_t2 := h_t2.bs hn
  replace h_x := h_x.bs hn
  replace b_x := b_x.bs hn
  replace b_m := b_m.bs hn
  replace h_a := h_a.bs hn
  replace h_y1 := h_y1.bs hn
  replace b_y1 := b_y1.bs hn
  replace h_v := h_v.bs hn
  replace b_v := b_v.bs hn
  replace h_y2 := h_y2.bs hn
  clear hn
  refine Lw.val (Ex.assign rfl) rfl ?_
  refine Lw.nil ?_
  refine Pw.thenN (Cw.out ?_)
  refine Cw.seq ?_
  refine Cw.region ?_
  refine Lw.val (Ex.move rfl) rfl ?_
  refine Lw.val (Ex.eql rfl rfl) rfl ?_
  refine Lw.val (Ex.move rfl) rfl ?_
  refine Lw.know 183 (v' := .bool true) rfl (congrArg Value.bool (rfl)) ?_
  refine Lw.take (dj := 183) rfl rfl ?_
  refine Lw.val (Ex.move rfl) rfl ?_
  refine Lw.take (dj := 183) rfl rfl ?_
  refine Lw.val (Ex.eql rfl rfl) rfl ?_
  refine Lw.val (Ex.pickT rfl rfl) rfl ?_
  refine Lw.val (Ex.move rfl) rfl ?_
  refine Lw.know 187 (v' := .bool true) rfl (congrArg Value.bool (rfl)) ?_
  refine Lw.take (dj := 187) rfl rfl ?_
  refine Lw.val (Ex.ldA (ag_25 _) (sz_25 _) rfl rfl (by assumption)) rfl ?_
  refine Lw.take (dj := 187) rfl rfl ?_
  refine Lw.val (Ex.move rfl) rfl ?_
  refine Lw.take (dj := 187) rfl rfl ?_
  refine Lw.val (Ex.ldA (ag_25 _) (sz_25 _) rfl rfl (by assumption)) rfl ?_
  refine Lw.take (dj := 187) rfl rfl ?_
  refine Lw.callF rfl rfl (is9_c y2 0 y1 _ h_y2 h_y1) ?_
  rintro _ w ⟨rfl, hn⟩
  replace hB := hB.bs hn
  replace h_t := h_t.bs hn
  replace b_t := b_t.bs hn
  replace b_z := b_z.bs hn
  replace h_t1 := h_t1.bs hn
  replace h_t2 := h_t2.bs hn
  replace h_x := h_x.bs hn
  replace b_x := b_x.bs hn
  replace b_m := b_m.bs hn
  replace h_a := h_a.bs hn
  replace h_y1 := h_y1.bs hn
  replace b_y1 := b_y1.bs hn
  replace h_v := h_v.bs hn
  replace b_v := b_v.bs hn
  replace h_y2 := h_y2.bs hn
  replace b_y2 := b_y2.bs hn
  clear hn
  refine Lw.val (Ex.pickT rfl rfl) rfl ?_
  refine Lw.val (Ex.assign rfl) rfl ?_
  refine Lw.nil ?_
  refine Pw.thenN (Cw.out ?_)
  refine Cw.ret ?_
  refine Pw.ret1 rfl rfl ?_
  exact ⟨by rw [s_y2, l_y2, s_y1, l_y1, s_v, l_v, s_x, l_x, c1, c2]; simp, hB⟩
set_option maxRecDepth 100000 in
set_option maxHeartbeats 2000000 in
theorem movesSums_lifted (os : Os) (started : os.Started) (H : Type) (enc : TypeId × Value → H) :
    ReturnsInHanded {} Try.checked os 5 .any (Rows.movesSumsSpec.pre6 enc Try.prog Try.f5 Rows.movesSumsRow.domain false) (Rows.movesSumsSpec.post enc Try.prog Try.f5 false true false false) := by
  refine returnsInHanded_of_change_sized (C := Try.checked) own started (by kernel_rfl) Try.func5
    (ChangeSpec.witness6 (enc := enc) (C := Try.checked) false ⟨#[], #[.agg #[.slice none 0 0, .slice none 0 0], .agg #[.slice none 0 0, .slice none 0 0], .agg #[.int .u8 0, .int .u8 0]], []⟩ 8 (by kernel_rfl) (by kernel_rfl) (by kernel_rfl) (by kernel_rfl)) ?_
  intro W base args ds gs before hval0 hW hcnd hsz0 _
  have hval : ∀ (j : Nat) t v, Try.f5.params[j]? = some t → args[j]? = some v → Value.okWide Try.prog W .any base t v := hval0
  have hW' := hW
  obtain ⟨p, q, hA0, hV, rfl, hfz, hnd⟩ := hW
  have hA : DataW.TrodAll enc Try.prog W 0 (fun _ => true) true Try.f5.params.toList args.toList ds p := hA0
  have hsz : (DataW.weightsEach Try.prog (Try.f5.params.toList ++ Rows.movesSumsSpec.plain.varTypes Try.prog) (ds ++ gs)).all (· ≤ reachBytes) = true := hsz0
  rw [Try.params5] at hA hval hsz
  obtain ⟨v0, vs0, d0, ds0, p0, q0, hargs, rfl, rfl, h0, r0⟩ := trodAll_cons hA
  obtain ⟨v1, vs1, d1, ds1, p1, q1, rfl, rfl, rfl, h1, r1⟩ := trodAll_cons r0
  obtain ⟨v2, vs2, d2, ds2, p2, q2, rfl, rfl, rfl, h2, r2⟩ := trodAll_cons r1
  obtain ⟨rfl, rfl, rfl⟩ := trodAll_nil r2
  obtain rfl : args = #[v0, v1, v2] := by cases args; simp_all
  obtain ⟨rfl, rfl⟩ := trodVars_none hV
  have k0 := h0
  have lt0 : ∀ x ∈ p0, x.block < W.heap.size := by obtain ⟨m, hm⟩ := k0; exact DataW.trod_lt m _ _ _ hm
  have i0 := in_of (j := 0) (t := 25) hsz rfl rfl h0
  have o0 := hval 0 25 v0 rfl rfl
  have k1 := h1
  have lt1 : ∀ x ∈ p1, x.block < W.heap.size := by obtain ⟨m, hm⟩ := k1; exact DataW.trod_lt m _ _ _ hm
  have i1 := in_of (j := 1) (t := 25) hsz rfl rfl h1
  have o1 := hval 1 25 v1 rfl rfl
  have k2 := h2
  have lt2 : ∀ x ∈ p2, x.block < W.heap.size := by obtain ⟨m, hm⟩ := k2; exact DataW.trod_lt m _ _ _ hm
  have i2 := in_of (j := 2) (t := 38) hsz rfl rfl h2
  have o2 := hval 2 38 v2 rfl rfl
  clear hA0 hval0 hsz0 hsz
  obtain ⟨t, rfl, ht, b1, b2⟩ := arg_ten o0 i0
  obtain ⟨u, rfl, hu, b3, b4⟩ := arg_ten o1 i1
  obtain ⟨ds, rfl, hid⟩ := arg_array un_38 o2 i2
  obtain ⟨hl4, hed⟩ := hid.array un_38
  have c4 : Try.prog.cellsOf 38 = 2 := by kernel_rfl
  have c8 : Try.prog.cellsOf 5 = 1 := by kernel_rfl
  rw [c4] at hl4
  rw [c8] at hed
  obtain ⟨y0, y1, rfl⟩ := two_of hl4
  obtain ⟨d0, e⟩ := In.num (BitVec.ofInt 8) b8 (fun _ h => wf_u8 h) un_5 (hed 0 (by decide))
  simp at e
  subst e
  obtain ⟨d1, e⟩ := In.num (BitVec.ofInt 8) b8 (fun _ h => wf_u8 h) un_5 (hed 1 (by decide))
  simp at e
  subst e
  refine (law_calls (movesSums_w t u d0 d1 W ht hu ⟨by omega, by omega⟩ ⟨by omega, by omega⟩)).mono fun e W' ⟨he, bel⟩ => ?_
  subst he
  exact ⟨_, rfl, _, _, _, [], _, [], hW', trodAll_mk1 (shut_bool un_4 _), (trodAll_cons_mk (Below.trod laidOut (by kernel_rfl) (of_decide_eq_true (by kernel_rfl)) k0 bel lt0) (trodAll_cons_mk (Below.trod laidOut (by kernel_rfl) (of_decide_eq_true (by kernel_rfl)) k1 bel lt1) (trodAll_cons_mk (Below.trod laidOut (by kernel_rfl) (of_decide_eq_true (by kernel_rfl)) k2 bel lt2) trodAll_mk0))), rfl, bel.frame _, fun h => by cases h⟩

/-- The statement. -/
theorem movesSums_proved : Rows.MovesSumsSaid :=
  OpenClaim.holds_of_wide 5 Try.f5 rfl rfl rfl rfl rfl rfl rfl ⟨rfl, rfl, rfl, rfl, rfl⟩ rfl rfl rfl rfl rfl (by kernel_rfl) Try.func5 (by kernel_rfl)
    (of_decide_eq_true (by kernel_rfl)) (by unfold Func.isWrapper; first | (rw [if_pos (by decide +kernel)]; kernel_rfl) | (rw [if_neg (by decide +kernel)]; exact ⟨rfl, rfl⟩))
    (fun os started H enc _ => movesSums_lifted os started H enc)
#print axioms movesSums_proved
end Go.Proofs.Ytkhndfaampkbnaa
