/- Contract: the document's turned tensor. -/
import Derived.Test.YtkhndfaampkbnaaGreatDoorRefMoves
import Derived.Test.YtkhndfaampkbnaaGreatDoorRefOrd
namespace Go.Proofs.YtkhndfaampkbnaaGreatDoor
open Go Go.Dd Go.RowKit
set_option maxRecDepth 100000

theorem eq_getD {a b : List Int} (h : a.length = b.length) (g : ∀ j, j < a.length → a.getD j default = b.getD j default) : a = b := by
  refine List.ext_getElem h fun i h1 h2 => ?_
  simpa [h1, h2] using g i h1
theorem un_turn {s o p : List Int} (ho : ordOk o = true) (hl : o.length = s.length) (h4 : s.length ≤ 4) (hp : Shapes.inn (turn s o) p = true) : ∃ q, Shapes.inn s q = true ∧ turn q o = p := by
  have ex : ∀ k, k < s.length → ∃ j, j < o.length ∧ o.getD j default = (k : Int) := fun k hk => by
    have m : k ∈ ordN o := (ord_perm ho (by omega)).mem_iff.2 (List.mem_range.2 (by omega))
    obtain ⟨x, hx, e⟩ := List.mem_map.1 m
    obtain ⟨j, hj, e2⟩ := List.getElem_of_mem hx
    have := ord_in ho hj
    have e3 : o.getD j default = x := by simp [hj, e2]
    rw [e3] at this
    exact ⟨j, hj, by rw [e3]; omega⟩
  obtain ⟨f, hf⟩ : ∃ f : Nat → Nat, ∀ k, k < s.length → f k < o.length ∧ o.getD (f k) default = (k : Int) :=
    ⟨fun k => if h : k < s.length then Classical.choose (ex k h) else 0, fun k hk => by
      dsimp only
      rw [dif_pos hk]; exact Classical.choose_spec (ex k hk)⟩
  have lp := Shapes.inn_length hp
  rw [turn_length] at lp
  obtain ⟨q, hq⟩ : ∃ q, q = (List.range s.length).map fun k => p.getD (f k) default := ⟨_, rfl⟩
  have lq : q.length = s.length := by rw [hq]; simp
  have qa : ∀ k, k < s.length → q.getD k default = p.getD (f k) default := fun k hk => by rw [hq]; simp [hk]
  refine ⟨q, Shapes.inn_iff.2 ⟨lq, fun k hk => ?_⟩, eq_getD (by rw [turn_length, lp]) fun j hj => ?_⟩
  · obtain ⟨h1, h2⟩ := hf k hk
    have := Shapes.inn_at hp (k := f k) (by rw [turn_length]; exact h1)
    rw [turn_at h1, h2, Int.toNat_natCast] at this
    rw [qa k hk]; exact this
  · rw [turn_length] at hj
    have hr := ord_in ho hj
    obtain ⟨k, hk⟩ : ∃ k : Nat, o.getD j default = (k : Int) := ⟨_, (Int.toNat_of_nonneg hr.1).symm⟩
    have hks : k < s.length := by omega
    obtain ⟨h1, h2⟩ := hf k hks
    rw [turn_at hj, hk, Int.toNat_natCast, qa k hks]
    have : f k = j := by
      rcases Nat.lt_trichotomy (f k) j with g | g | g
      · exact absurd (h2.trans hk.symm) (ord_ne ho g hj)
      · exact g
      · exact absurd (hk.trans h2.symm) (ord_ne ho g h1)
    rw [this]
def sig (s o : List Int) (i : Nat) : Nat := (Shapes.idx (turn s o) (turn (Shapes.place s (i : Int)) o)).toNat
theorem sig_at {s o : List Int} (hs : Shapes.ok s = true) (ho : ordOk o = true) (hl : o.length = s.length) {i : Nat} (hi : (i : Int) < Shapes.prod s) :
    Shapes.inn (turn s o) (turn (Shapes.place s (i : Int)) o) = true ∧ sig s o i < (Shapes.prod (turn s o)).toNat ∧ tuS s o (Shapes.place (turn s o) (sig s o i : Int)) o.length = (i : Int) := by
  have S := (Shapes.ok_iff s).1 hs
  have T := (Shapes.ok_iff _).1 (turn_ok hs ho hl)
  have tin := turn_inn ho hl (Shapes.place_in (i := (i : Int)) (by omega) S.2.1)
  have lt := Shapes.idx_lt T.2.1 tin
  refine ⟨tin, by unfold sig; omega, ?_⟩
  unfold sig
  rw [Int.toNat_of_nonneg lt.1, Shapes.place_idx T.2.1 tin, tuS_turn ho hl S.1.2 (by rw [Shapes.place_length]), Shapes.idx_place (by omega) S.2.1, Int.emod_eq_of_lt (by omega) hi]
theorem scatter {s o : List Int} {l m : List (BitVec 32)} (hs : Shapes.ok s = true) (ho : ordOk o = true) (hl : o.length = s.length) (hm : m.length = (Shapes.prod (turn s o)).toNat)
    (h : ∀ j : Nat, (j : Int) < Shapes.prod s → m.getD (sig s o j) default = l.getD j default) : m = tuL s l o := by
  have S := (Shapes.ok_iff s).1 hs
  have T := (Shapes.ok_iff _).1 (turn_ok hs ho hl)
  refine pl_ext T.2.1 hm (by rw [tuL_mk hs ho hl, mk_length]) fun p hp => ?_
  obtain ⟨q, hq, rfl⟩ := un_turn ho hl S.1.2 hp
  rw [tu_at hs ho hl hq]
  have il := Shapes.idx_lt S.2.1 hq
  have e : ((Shapes.idx s q).toNat : Int) = Shapes.idx s q := Int.toNat_of_nonneg il.1
  have := h (Shapes.idx s q).toNat (by omega)
  unfold sig at this
  rw [e, Shapes.place_idx S.2.1 hq] at this
  exact this
theorem rmturn_c (t : T4) (v : Value) (o : List Int) (W : World) (h_t : t.at W) (h_v : SlT (Value.int .i64) W v o) :
    Fnc Tryz.prog 22 [t.v, v] W (fun r w' => Below W.heap.size W w' ∧ AnsK W w' r (tnE t o) (turn t.s o) (tuL t.s t.l o)) := by
  have hB := Below.refl W.heap.size W
  refine Fnc.enter (n := 66) Tryz.func22 (by kernel_rfl) rfl rfl rfl ?_
  refine Cw.seq ?_
  refine Cw.region ?_
  refine Lw.boxV (cs := [t.x, t.y]) rfl rfl rfl ?_
  rintro A_t w eA_t b_t hn -
  replace hB := hB.bs hn
  replace h_t := h_t.bs hn
  replace h_v := h_v.bs hn
  clear hn
  have z0 := below_size hB
  have y_t := blk_lt b_t
  refine Lw.newA it_29 rfl ?_
  rintro A_r w eA_r b_r hn -
  replace hB := hB.bs hn
  replace h_t := h_t.bs hn
  replace h_v := h_v.bs hn
  replace b_t := b_t.bs hn
  clear hn
  refine Lw.val (Ex.assign rfl) rfl ?_
  refine Lw.nil ?_
  refine Pw.thenN (Cw.out ?_)
  refine Cw.seq ?_
  refine Cw.seq ?_
  refine Cw.region ?_
  refine Lw.val (Ex.ldA (ag_29 _) (sz_29 _) rfl rfl (by assumption)) rfl ?_
  have z_r := blk_lt b_r
  have h_t1 := h_t.1
  have h_t2 := h_t.2
  refine Lw.callF rfl rfl (rtcheck_c t.x t.y t.s t.l _ h_t.1 h_t.2) ?_
  rintro _ w ⟨rfl, hn⟩
  replace hB := hB.bs hn
  replace h_t := h_t.bs hn
  replace h_v := h_v.bs hn
  replace b_t := b_t.bs hn
  replace b_r := b_r.bs hn
  replace h_t1 := h_t1.bs hn
  replace h_t2 := h_t2.bs hn
  clear hn
  refine Lw.val (Ex.not rfl) rfl ?_
  refine Lw.val (Ex.move rfl) rfl ?_
  refine Lw.part 16 rfl ?_ ?_
  · intro g
    refine Lw.pass (dj := 16) rfl rfl rfl rfl ?_
    refine Lw.pass (dj := 16) rfl rfl rfl rfl ?_
    refine Lw.pass (dj := 16) rfl rfl rfl rfl ?_
    refine Lw.pass (dj := 16) rfl rfl rfl rfl ?_
    refine Lw.pass (dj := 16) rfl rfl rfl rfl ?_
    refine Lw.pass (dj := 16) rfl rfl rfl rfl ?_
    refine Lw.val (Ex.pickT rfl rfl) rfl ?_
    refine Lw.nil ?_
    refine Pw.thenN (Cw.out ?_)
    refine Cw.condT rfl ?_
    refine Cw.seq ?_
    refine Cw.region ?_
    refine Lw.val (Ex.build (vs := []) (cs := [.slice none 0 0, .slice none 0 0]) rfl (by kernel_rfl)) rfl ?_
    refine Lw.unit (Xu.stA (cs := [.slice none 0 0, .slice none 0 0]) rfl rfl rfl rfl rfl b_r rfl) ?_
    rintro w3 ⟨b_r, hg, -⟩
    have hB := hB.grown hg (below_size hB) (by rintro _ ⟨⟩; omega)
    refine Lw.val (Ex.assign rfl) rfl ?_
    refine Lw.nil ?_
    refine Pw.thenN (Cw.out ?_)
    refine Cw.ret ?_
    refine Pw.thenR ?_
    refine Pw.retCT rfl rfl rfl (by assumption) (Tryz.underlying29) rfl rfl rfl ?_
    rw [show tnE t o = 1 by simp_all [tnE]]
    exact ⟨hB, ansK_no (by decide)⟩
  intro g1
  have k_t : tok t.s t.l = true := by simpa using g1
  have S := (Shapes.ok_iff t.s).1 (tok_ok k_t).1
  refine Lw.take (dj := 16) rfl rfl ?_
  refine Lw.val (Ex.move rfl) rfl ?_
  refine Lw.take (dj := 16) rfl rfl ?_
  refine Lw.val (Ex.fieldAddr (q := 0) Tryz.underlying29 rfl (sz_26 _) rfl) rfl ?_
  refine Lw.take (dj := 16) rfl rfl ?_
  refine Lw.val (Ex.ldB (ag_26 _) rfl (by assumption) rfl) rfl ?_
  refine Lw.take (dj := 16) rfl rfl ?_
  refine Lw.val (Ex.lenS st_26 rfl (by assumption)) rfl ?_
  refine Lw.take (dj := 16) rfl rfl ?_
  refine Lw.callF rfl rfl (rorder_c v o t.s.length _ h_v S.1.2) ?_
  rintro _ w ⟨rfl, hn⟩
  replace hB := hB.bs hn
  replace h_t := h_t.bs hn
  replace h_v := h_v.bs hn
  replace b_t := b_t.bs hn
  replace b_r := b_r.bs hn
  replace h_t1 := h_t1.bs hn
  replace h_t2 := h_t2.bs hn
  clear hn
  refine Lw.take (dj := 16) rfl rfl ?_
  refine Lw.val (Ex.not rfl) rfl ?_
  refine Lw.val (Ex.pickF rfl rfl) rfl ?_
  refine Lw.nil ?_
  refine Pw.thenN (Cw.out ?_)
  refine Cw.cond rfl ?_ ?_
  · intro g
    refine Cw.seq ?_
    refine Cw.region ?_
    refine Lw.val (Ex.build (vs := []) (cs := [.slice none 0 0, .slice none 0 0]) rfl (by kernel_rfl)) rfl ?_
    refine Lw.unit (Xu.stA (cs := [.slice none 0 0, .slice none 0 0]) rfl rfl rfl rfl rfl b_r rfl) ?_
    rintro w3 ⟨b_r, hg, -⟩
    have hB := hB.grown hg (below_size hB) (by rintro _ ⟨⟩; omega)
    refine Lw.val (Ex.assign rfl) rfl ?_
    refine Lw.nil ?_
    refine Pw.thenN (Cw.out ?_)
    refine Cw.ret ?_
    refine Pw.thenR ?_
    refine Pw.retCT rfl rfl rfl (by assumption) (Tryz.underlying29) rfl rfl rfl ?_
    have g3 : (decide (o.length = t.s.length) && ordOk o) = false := by
      cases hc : (decide (o.length = t.s.length) && ordOk o) with
      | false => rfl
      | true => rw [hc] at g; simp at g
    rw [show tnE t o = 1 by unfold tnE; rw [k_t, Bool.true_and, g3]; rfl]
    exact ⟨hB, ansK_no (by decide)⟩
  intro g2
  have g2 : (decide (o.length = t.s.length) && ordOk o) = true := by simpa using g2
  rw [Bool.and_eq_true, decide_eq_true_eq] at g2
  obtain ⟨hl, ho⟩ := g2
  have hs := (tok_ok k_t).1
  have okT := turn_ok hs ho hl
  have T := (Shapes.ok_iff _).1 okT
  have hE : tnE t o = 0 := by unfold tnE; rw [k_t, decide_eq_true hl, ho]; rfl
  rw [hE]
  have lenl : t.l.length = (Shapes.prod t.s).toNat := by rw [(tok_ok k_t).2, Shapes.size_ok hs]
  clear g1
  refine Cw.skip ?_
  refine Pw.thenN (Cw.out ?_)
  refine Cw.seq ?_
  refine Cw.region ?_
  refine Lw.val (Ex.fieldAddr (q := 0) Tryz.underlying29 rfl (sz_26 _) rfl) rfl ?_
  refine Lw.val (Ex.ldB (ag_26 _) rfl (by assumption) rfl) rfl ?_
  refine Lw.val (Ex.move rfl) rfl ?_
  refine Lw.callF rfl rfl (rturned_c t.x v t.s o _ h_t1 h_v (fun j hj => by rw [← hl]; exact ord_in ho hj) (by omega)) ?_
  rintro u w ⟨hn, hu⟩
  rw [← turn_length t.s o] at hu
  have s_u := own_slT hu
  replace hB := hB.bs hn
  replace h_t := h_t.bs hn
  replace h_v := h_v.bs hn
  replace b_t := b_t.bs hn
  replace b_r := b_r.bs hn
  replace h_t1 := h_t1.bs hn
  replace h_t2 := h_t2.bs hn
  clear hn hu
  have lT := turn_length t.s o
  refine Lw.callF rfl rfl (rnew_c u (turn t.s o) _ s_u) ?_
  rintro _ w7 ⟨hn7, ⟨hk, x, y, rfl, hm⟩ | ⟨hk, rfl⟩⟩
  · refine Lw.val (Ex.move rfl) rfl ?_
    refine Lw.val (Ex.extract (i := 0) rfl rfl) rfl ?_
    refine Lw.val (Ex.extract (i := 1) rfl rfl) rfl ?_
    refine Lw.boxed (cs := [x, y]) it_29 rfl rfl rfl rfl (fun _ => rfl) (hm.one) ?_
    rintro A_m w8 eA_m b_m hn8 zhn8
    have M := mine_new hm eA_m b_m hn8 zhn8 hn7.size
    have hw8 := bt hn7 hn8
    have zw := hw8.size
    have zB := below_size hB
    have p_t := h_t
    have p_v := h_v
    have q_t := blk_lt b_t
    have q_r := blk_lt b_r
    replace hB := hB.bs hw8
    replace h_t := h_t.bs hw8
    replace h_v := h_v.bs hw8
    replace b_t := b_t.bs hw8
    replace b_r := b_r.bs hw8
    replace h_t1 := h_t1.bs hw8
    replace h_t2 := h_t2.bs hw8
    replace s_u := s_u.bs hw8
    clear hm b_m hn7 hn8 eA_m zhn8 hw8
    obtain ⟨zs, hzs⟩ : ∃ l, l = List.replicate (Shapes.size (turn t.s o)).toNat 0#32 := ⟨_, rfl⟩
    rw [← hzs] at M
    have n2 : zs.length = (Shapes.prod (turn t.s o)).toNat := by rw [hzs, Shapes.size_ok okT]; simp
    have b_m := M.box
    have y_m := M.sly
    refine Lw.val (Ex.assign rfl) rfl ?_
    refine Lw.nil ?_
    refine Pw.thenN (Cw.out ?_)
    refine Cw.seq ?_
    refine Cw.seq ?_
    refine Cw.region ?_
    refine Lw.val (Ex.assign rfl) rfl ?_
    refine Lw.nil ?_
    refine Pw.thenN (Cw.out ?_)
    refine Cw.block ?_
    refine Cw.loop (S := (Nat × List (BitVec 32))) (fun z => [(1, v), (2, .pointer (some ⟨A_t, 0, none⟩)), (4, .pointer (some ⟨A_r, 0, none⟩)), (6, .pointer (some ⟨A_m, 0, none⟩)), (8, .int .i64 (z.1 : Int))]) (fun z w' => z.1 ≤ t.l.length ∧ Below w.heap.size w8 w' ∧ MineT w' w.heap.size w8.heap.size A_m x y (turn t.s o) z.2 ∧ z.2.length = (Shapes.prod (turn t.s o)).toNat ∧ (∀ j : Nat, j < z.1 → z.2.getD (sig t.s o j) default = t.l.getD j default)) (fun z => t.l.length - z.1) ((0, zs)) ⟨rfl, rfl, rfl, rfl, rfl, trivial⟩ ?_ ?_
    · exact ⟨Nat.zero_le _, Below.refl _ _, M, n2, fun j hj => absurd hj (by omega)⟩
    clear M b_m y_m
    rintro ⟨i, m⟩ w11 ⟨hi, hw, M, lm, hs2⟩
    dsimp only at hi M lm hs2 ⊢
    have hB2 := hB.trans (hw.mono (by omega))
    have zw2 := hw.size
    have h_t := at_stay p_t h_t (Nat.le_refl _) hw
    have h_v : SlT (Value.int .i64) w11 v o := Sl.stay h_v fun k e hne => hw.block k (Sl.blk p_v hne k e)
    have b_t := b_t.bl hw q_t
    have b_r := b_r.bl hw q_r
    have b_m := M.box
    have y_m := M.sly
    have h_t2 := h_t.2
    clear h_t1 p_t p_v
    refine Cw.seq ?_
    refine Cw.seq ?_
    refine Cw.region ?_
    refine Lw.val (Ex.move rfl) rfl ?_
    refine Lw.val (Ex.fieldAddr (q := 0) Tryz.underlying29 rfl (sz_27 _) rfl) rfl ?_
    refine Lw.val (Ex.ldB (ag_27 _) rfl (by assumption) rfl) rfl ?_
    refine Lw.val (Ex.lenS st_27 rfl (by assumption)) rfl ?_
    refine Lw.val (Ex.lss rfl rfl) rfl ?_
    refine Lw.nil ?_
    refine Pw.thenN (Cw.out ?_)
    refine Cw.cond rfl ?_ ?_
    · intro g
      have hi' : i < t.l.length := by have := of_decide_eq_true g; omega
      have hip : (i : Int) < Shapes.prod t.s := by omega
      obtain ⟨tin, slt, srec⟩ := sig_at hs ho hl hip
      have slt0 := Shapes.idx_lt T.2.1 tin
      have hk2 : Shapes.idx (turn t.s o) (turn (Shapes.place t.s (i : Int)) o) = ((sig t.s o i : Nat) : Int) := (Int.toNat_of_nonneg slt0.1).symm
      have lp := Shapes.place_length t.s (i : Int)
      refine Cw.skip ?_
      refine Pw.thenN (Cw.out ?_)
      refine Cw.seq ?_
      refine Cw.block ?_
      refine Cw.seq ?_
      refine Cw.region ?_
      refine Lw.val (Ex.fieldAddr (q := 0) Tryz.underlying29 rfl (sz_26 _) rfl) rfl ?_
      refine Lw.val (Ex.ldB (ag_26 _) rfl (by assumption) rfl) rfl ?_
      refine Lw.val (Ex.move rfl) rfl ?_
      refine Lw.callF rfl rfl (rat_c t.s t.x (i : Int) w11 h_t.1) ?_
      rintro _ w12 ⟨hn, a, rfl, ha⟩
      rw [show Shapes.atl t.s (i : Int) = Shapes.place t.s (i : Int) by unfold Shapes.atl; rw [if_pos ⟨by omega, by rw [Shapes.size_ok hs]; exact hip⟩]] at ha
      have M := M.bs hn
      have h_v := h_v.bs hn
      have h_t := h_t.bs hn
      have b_t := b_t.bs hn
      have b_r := b_r.bs hn
      have hw := hw.trans (hn.mono (by omega))
      have zw2 := hw.size
      have b_m := M.box
      have y_m := M.sly
      have x_m := M.row.slT
      have h_t2 := h_t.2
      clear hn
      have hs3 : ∀ j : Nat, j < i + 1 → (m.set (sig t.s o i) (t.l.getD i default)).getD (sig t.s o j) default = t.l.getD j default := fun j hj => by
        by_cases e : j = i
        · subst e
          exact getD_set (by omega)
        · have hjp : (j : Int) < Shapes.prod t.s := by omega
          obtain ⟨-, -, jrec⟩ := sig_at hs ho hl hjp
          have hne : sig t.s o i ≠ sig t.s o j := fun e2 => by
            rw [e2, jrec] at srec
            omega
          rw [← hs2 j (by omega), List.getD_eq_getElem?_getD, List.getElem?_set_ne hne, List.getD_eq_getElem?_getD]
      refine Lw.val (Ex.move rfl) rfl ?_
      refine Lw.val (Ex.extract (i := 0) rfl rfl) rfl ?_
      refine Lw.val (Ex.extract (i := 1) rfl rfl) rfl ?_
      refine Lw.val (Ex.assign rfl) rfl ?_
      refine Lw.val (Ex.assign rfl) rfl ?_
      refine Lw.nil ?_
      refine Pw.thenN (Cw.out ?_)
      refine Cw.seq ?_
      refine Cw.any mixed (fun w13 hd _ => ?_)
      have M := M.bs hd
      have h_v := h_v.bs hd
      have h_t := h_t.bs hd
      have b_t := b_t.bs hd
      have b_r := b_r.bs hd
      have hw := hw.trans (hd.mono (by omega))
      have zw2 := hw.size
      have b_m := M.box
      have y_m := M.sly
      have x_m := M.row.slT
      have h_t2 := h_t.2
      have ha := ha.bs hd
      clear hd
      refine Aw.take (i := 0) (NoP.thn (NoP.blk (NoP.thn (NoP.thn (NoP.blk (NoP.thn NoP.ret)))))) rfl (by kernel_rfl) (by kernel_rfl) (by kernel_rfl) (fun _ => Ex.fieldAddr (q := 0) Tryz.underlying29 rfl (sz_26 _) rfl) rfl ?_
      refine Aw.take (i := 2) (NoP.thn (NoP.blk (NoP.thn (NoP.thn (NoP.blk (NoP.thn NoP.ret)))))) rfl (by kernel_rfl) (by kernel_rfl) (by kernel_rfl) (fun _ => Ex.move rfl) rfl ?_
      refine Aw.take (i := 3) (NoP.thn (NoP.blk (NoP.thn (NoP.thn (NoP.blk (NoP.thn NoP.ret)))))) rfl (by kernel_rfl) (by kernel_rfl) (by kernel_rfl) (fun _ => Ex.move rfl) rfl ?_
      refine Aw.two (i := 1) (j := 4) (by kernel_rfl) rfl rfl ?_ ?_
      · refine Lw.val (Ex.ldB (ag_26 _) rfl (by assumption) rfl) rfl ?_
        refine Aw.back ?_
        refine Aw.only (i := 4) (by kernel_rfl) rfl ?_
        refine Lw.callF rfl rfl (rturned_c a v (Shapes.place t.s (i : Int)) o _ ha h_v (fun j hj => by rw [lp, ← hl]; exact ord_in ho hj) (by omega)) ?_
        rintro p w14 ⟨hn, hp⟩
        have M := M.bs hn
        have h_v := h_v.bs hn
        have h_t := h_t.bs hn
        have b_t := b_t.bs hn
        have b_r := b_r.bs hn
        have hw := hw.trans (hn.mono (by omega))
        have zw2 := hw.size
        have b_m := M.box
        have y_m := M.sly
        have x_m := M.row.slT
        have h_t2 := h_t.2
        clear hn
        rw [← turn_length (Shapes.place t.s (i : Int)) o] at hp
        have s_p := own_slT hp
        refine Aw.back ?_
        refine Aw.only (i := 5) (by kernel_rfl) rfl ?_
        refine Lw.callF rfl rfl (rindex_c (turn t.s o) (turn (Shapes.place t.s (i : Int)) o) x p _ x_m s_p) ?_
        rintro _ w15 ⟨rfl, hn⟩
        rw [index_yes okT tin]
        have M := M.bs hn
        have h_v := h_v.bs hn
        have h_t := h_t.bs hn
        have b_t := b_t.bs hn
        have b_r := b_r.bs hn
        have hw := hw.trans (hn.mono (by omega))
        have zw2 := hw.size
        have b_m := M.box
        have y_m := M.sly
        have x_m := M.row.slT
        have h_t2 := h_t.2
        clear hn
        refine Aw.back ?_
        refine Aw.take (i := 6) (NoP.thn (NoP.blk (NoP.thn (NoP.thn (NoP.blk (NoP.thn NoP.ret)))))) rfl (by kernel_rfl) (by kernel_rfl) (by kernel_rfl) (fun _ => Ex.move rfl) rfl ?_
        refine Aw.take (i := 7) (NoP.thn (NoP.blk (NoP.thn (NoP.thn (NoP.blk (NoP.thn NoP.ret)))))) rfl (by kernel_rfl) (by kernel_rfl) (by kernel_rfl) (fun _ => Ex.extract (i := 0) rfl rfl) rfl ?_
        refine Aw.take (i := 8) (NoP.thn (NoP.blk (NoP.thn (NoP.thn (NoP.blk (NoP.thn NoP.ret)))))) rfl (by kernel_rfl) (by kernel_rfl) (by kernel_rfl) (fun _ => Ex.extract (i := 1) rfl rfl) rfl ?_
        refine Aw.take (i := 9) (NoP.thn (NoP.blk (NoP.thn (NoP.thn (NoP.blk (NoP.thn NoP.ret)))))) rfl (by kernel_rfl) (by kernel_rfl) (by kernel_rfl) (fun _ => Ex.assign rfl) rfl ?_
        refine Aw.take (i := 10) (NoP.thn (NoP.blk (NoP.thn (NoP.thn (NoP.blk (NoP.thn NoP.ret)))))) rfl (by kernel_rfl) (by kernel_rfl) (by kernel_rfl) (fun _ => Ex.assign rfl) rfl ?_
        refine Aw.done (by kernel_rfl) ?_
        refine Pw.thenN (Cw.out ?_)
        refine Cw.tail 9 mixed (by kernel_rfl) ?_
        refine Qw.val (fun w1 hq => Ex.fieldAddr (q := 0) Tryz.underlying29 rfl (sz_27 _) rfl) rfl ?_
        refine Qw.val (fun w1 hq => Ex.ldB (ag_27 _) rfl (Blk.bs (by assumption) hq) rfl) rfl ?_
        refine Qw.val (fun w1 hq => Ex.move rfl) rfl ?_
        refine Qw.val (fun w1 hq => Ex.fieldAddr (q := 0) Tryz.underlying29 rfl (sz_27 _) rfl) rfl ?_
        refine Qw.val (fun w1 hq => Ex.ldB (ag_27 _) rfl (Blk.bs (by assumption) hq) rfl) rfl ?_
        refine Qw.val (fun w1 hq => Ex.move rfl) rfl ?_
        refine Qw.val (fun w1 hq => Ex.idxT st_27 rfl rfl (Sl.bs h_t2 hq) i rfl hi') rfl ?_
        refine Qw.val (fun w1 hq => Ex.ldT (ag_21 _) rfl (Sl.bs (by assumption) hq) (by omega)) rfl ?_
        refine Qw.val (fun w1 hq => Ex.idxT st_27 rfl rfl (Sl.bs y_m hq) (sig t.s o i) hk2 (by omega)) rfl ?_
        refine Qw.done (fun w16 hq => ?_)
        refine Lw.unit ((M.bs hq).st (sz_21 _) rfl rfl (by omega)) ?_
        rintro w17 ⟨M2, hg2, -⟩
        have hw2 := (M.bs hq).below (hw.trans (hq.mono (by omega))) (by omega) hg2
        refine Lw.nil ?_
        refine Pw.blkN ?_
        refine Pw.thenN (Cw.out ?_)
        refine Cw.region ?_
        refine Lw.val (Ex.move rfl) rfl ?_
        refine Lw.val (Ex.addI rfl rfl (by omega)) rfl ?_
        refine Lw.val (Ex.assign rfl) rfl ?_
        refine Lw.nil ?_
        exact Pw.thenN (Pw.next ((i + 1, m.set (sig t.s o i) (t.l.getD i default))) ⟨rfl, rfl, rfl, rfl, rfl, trivial⟩ (⟨hi', hw2, M2, by rw [List.length_set]; exact lm, hs3⟩) (by simp only; omega))
      · refine Lw.callF rfl rfl (rturned_c a v (Shapes.place t.s (i : Int)) o _ ha h_v (fun j hj => by rw [lp, ← hl]; exact ord_in ho hj) (by omega)) ?_
        rintro p w14 ⟨hn, hp⟩
        have M := M.bs hn
        have h_v := h_v.bs hn
        have h_t := h_t.bs hn
        have b_t := b_t.bs hn
        have b_r := b_r.bs hn
        have hw := hw.trans (hn.mono (by omega))
        have zw2 := hw.size
        have b_m := M.box
        have y_m := M.sly
        have x_m := M.row.slT
        have h_t2 := h_t.2
        clear hn
        rw [← turn_length (Shapes.place t.s (i : Int)) o] at hp
        have s_p := own_slT hp
        refine Aw.back ?_
        refine Aw.only (i := 1) (by kernel_rfl) rfl ?_
        refine Lw.val (Ex.ldB (ag_26 _) rfl (by assumption) rfl) rfl ?_
        refine Aw.back ?_
        refine Aw.only (i := 5) (by kernel_rfl) rfl ?_
        refine Lw.callF rfl rfl (rindex_c (turn t.s o) (turn (Shapes.place t.s (i : Int)) o) x p _ x_m s_p) ?_
        rintro _ w15 ⟨rfl, hn⟩
        rw [index_yes okT tin]
        have M := M.bs hn
        have h_v := h_v.bs hn
        have h_t := h_t.bs hn
        have b_t := b_t.bs hn
        have b_r := b_r.bs hn
        have hw := hw.trans (hn.mono (by omega))
        have zw2 := hw.size
        have b_m := M.box
        have y_m := M.sly
        have x_m := M.row.slT
        have h_t2 := h_t.2
        clear hn
        refine Aw.back ?_
        refine Aw.take (i := 6) (NoP.thn (NoP.blk (NoP.thn (NoP.thn (NoP.blk (NoP.thn NoP.ret)))))) rfl (by kernel_rfl) (by kernel_rfl) (by kernel_rfl) (fun _ => Ex.move rfl) rfl ?_
        refine Aw.take (i := 7) (NoP.thn (NoP.blk (NoP.thn (NoP.thn (NoP.blk (NoP.thn NoP.ret)))))) rfl (by kernel_rfl) (by kernel_rfl) (by kernel_rfl) (fun _ => Ex.extract (i := 0) rfl rfl) rfl ?_
        refine Aw.take (i := 8) (NoP.thn (NoP.blk (NoP.thn (NoP.thn (NoP.blk (NoP.thn NoP.ret)))))) rfl (by kernel_rfl) (by kernel_rfl) (by kernel_rfl) (fun _ => Ex.extract (i := 1) rfl rfl) rfl ?_
        refine Aw.take (i := 9) (NoP.thn (NoP.blk (NoP.thn (NoP.thn (NoP.blk (NoP.thn NoP.ret)))))) rfl (by kernel_rfl) (by kernel_rfl) (by kernel_rfl) (fun _ => Ex.assign rfl) rfl ?_
        refine Aw.take (i := 10) (NoP.thn (NoP.blk (NoP.thn (NoP.thn (NoP.blk (NoP.thn NoP.ret)))))) rfl (by kernel_rfl) (by kernel_rfl) (by kernel_rfl) (fun _ => Ex.assign rfl) rfl ?_
        refine Aw.done (by kernel_rfl) ?_
        refine Pw.thenN (Cw.out ?_)
        refine Cw.tail 9 mixed (by kernel_rfl) ?_
        refine Qw.val (fun w1 hq => Ex.fieldAddr (q := 0) Tryz.underlying29 rfl (sz_27 _) rfl) rfl ?_
        refine Qw.val (fun w1 hq => Ex.ldB (ag_27 _) rfl (Blk.bs (by assumption) hq) rfl) rfl ?_
        refine Qw.val (fun w1 hq => Ex.move rfl) rfl ?_
        refine Qw.val (fun w1 hq => Ex.fieldAddr (q := 0) Tryz.underlying29 rfl (sz_27 _) rfl) rfl ?_
        refine Qw.val (fun w1 hq => Ex.ldB (ag_27 _) rfl (Blk.bs (by assumption) hq) rfl) rfl ?_
        refine Qw.val (fun w1 hq => Ex.move rfl) rfl ?_
        refine Qw.val (fun w1 hq => Ex.idxT st_27 rfl rfl (Sl.bs h_t2 hq) i rfl hi') rfl ?_
        refine Qw.val (fun w1 hq => Ex.ldT (ag_21 _) rfl (Sl.bs (by assumption) hq) (by omega)) rfl ?_
        refine Qw.val (fun w1 hq => Ex.idxT st_27 rfl rfl (Sl.bs y_m hq) (sig t.s o i) hk2 (by omega)) rfl ?_
        refine Qw.done (fun w16 hq => ?_)
        refine Lw.unit ((M.bs hq).st (sz_21 _) rfl rfl (by omega)) ?_
        rintro w17 ⟨M2, hg2, -⟩
        have hw2 := (M.bs hq).below (hw.trans (hq.mono (by omega))) (by omega) hg2
        refine Lw.nil ?_
        refine Pw.blkN ?_
        refine Pw.thenN (Cw.out ?_)
        refine Cw.region ?_
        refine Lw.val (Ex.move rfl) rfl ?_
        refine Lw.val (Ex.addI rfl rfl (by omega)) rfl ?_
        refine Lw.val (Ex.assign rfl) rfl ?_
        refine Lw.nil ?_
        exact Pw.thenN (Pw.next ((i + 1, m.set (sig t.s o i) (t.l.getD i default))) ⟨rfl, rfl, rfl, rfl, rfl, trivial⟩ (⟨hi', hw2, M2, by rw [List.length_set]; exact lm, hs3⟩) (by simp only; omega))
    intro g
    have hi' : i = t.l.length := by have := of_decide_eq_false g; omega
    subst hi'
    have em : m = tuL t.s t.l o := scatter hs ho hl lm fun j hj => hs2 j (by omega)
    refine Cw.exit ?_
    refine Pw.thenE ?_
    refine Pw.thenE ?_
    refine Pw.blkHit ?_
    refine Pw.thenN (Cw.out ?_)
    refine Cw.seq ?_
    refine Cw.region ?_
    refine Lw.val (Ex.ldA (ag_29 _) (sz_29 _) rfl rfl (by assumption)) rfl ?_
    refine Lw.unit (Xu.stA (cs := [x, y]) rfl rfl rfl rfl (mine_at M).one b_r rfl) ?_
    rintro w12 ⟨b_r2, hg, -⟩
    have M2 := M.keep hg (by rintro _ ⟨⟩; exact .inl q_r)
    have hB3 := hB2.grown hg (below_size hB2) (by rintro _ ⟨⟩; omega)
    refine Lw.val (Ex.assign rfl) rfl ?_
    refine Lw.nil ?_
    refine Pw.thenN (Cw.out ?_)
    refine Cw.ret ?_
    refine Pw.retCT rfl rfl rfl (by assumption) (Tryz.underlying29) rfl rfl rfl ?_
    rw [em] at M2
    exact ⟨hB3, x, y, rfl, fun h => absurd rfl h, fun _ => ⟨M2.row.mono (by omega), .inl (own_mono M2.lst.own (by omega)), M2.yx⟩⟩
  exact absurd okT (by rw [hk]; decide)
end Go.Proofs.YtkhndfaampkbnaaGreatDoor
