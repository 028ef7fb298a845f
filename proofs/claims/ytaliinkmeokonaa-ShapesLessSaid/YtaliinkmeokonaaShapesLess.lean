/- A shape of which a direction is made less is one, and less; without a direction, if another one is left, it is one, too: for any numbers, any direction, by any; no condition. -/
import Derived.Test.YtaliinkmeokonaaShapesLaw
import Derived.Test.YtaliinkmeokonaaOpen
import Derived.Test.YtaliinkmeokonaaRows
namespace Go.Proofs.Ytaliinkmeokonaa
open Go Go.Dd Go.RowKit Go.ChangeShapes Go.WideShapes Go.ChangeAt

theorem own : ownKnob Try.prog.godebug = none := by kernel_rfl
theorem laidOut : laidOutB Try.prog = true := by kernel_rfl

theorem less_prod (a b : List Int) (x : Int) : Shapes.prod (a ++ x :: b) = Shapes.prod (a ++ b) * x := by
  rw [Shapes.prod_append, Shapes.prod_append]; simp only [Shapes.prod]; rw [Int.mul_comm x, Int.mul_assoc]
theorem less_good {a b : List Int} {x : Int} : Shapes.good (a ++ x :: b) ↔ Shapes.good (a ++ b) ∧ 1 ≤ x ∧ x ≤ 64 := by
  rw [Shapes.good_append, Shapes.good_append, Shapes.good_cons]
  exact ⟨fun h => ⟨⟨h.1, h.2.2⟩, h.2.1⟩, fun h => ⟨h.1.1, h.2, h.1.2⟩⟩
theorem less_law {a b : List Int} {x y : Int} (h : Shapes.ok (a ++ x :: b) = true) (h1 : 1 ≤ y) (h2 : y ≤ x) :
    Shapes.size (a ++ y :: b) = Shapes.size (a ++ x :: b) / x * y ∧ (y < x → Shapes.size (a ++ y :: b) < Shapes.size (a ++ x :: b)) ∧ (a ++ b ≠ [] → Shapes.size (a ++ b) = Shapes.size (a ++ x :: b) / x) ∧ 0 ≤ Shapes.size (a ++ x :: b) / x ∧ Shapes.size (a ++ x :: b) / x ≤ 4096 := by
  obtain ⟨hl, hg, hp⟩ := (Shapes.ok_iff _).1 h
  obtain ⟨hg', hx1, hx2⟩ := less_good.1 hg
  have hq := Shapes.prod_pos hg'
  rw [less_prod] at hp
  have hm1 := Int.mul_le_mul_of_nonneg_left h2 (show 0 ≤ Shapes.prod (a ++ b) by omega)
  have hm0 := Int.mul_le_mul_of_nonneg_left hx1 (show 0 ≤ Shapes.prod (a ++ b) by omega)
  have hoky : Shapes.ok (a ++ y :: b) = true := (Shapes.ok_iff _).2 ⟨by simpa using hl, less_good.2 ⟨hg', h1, by omega⟩, by rw [less_prod]; omega⟩
  rw [Shapes.size_ok h, Shapes.size_ok hoky, less_prod, less_prod, Int.mul_ediv_cancel _ (by omega)]
  refine ⟨rfl, fun hlt => ?_, fun hne => ?_, by omega, by omega⟩
  · have := Int.mul_le_mul_of_nonneg_left (show y + 1 ≤ x by omega) (show 0 ≤ Shapes.prod (a ++ b) by omega)
    rw [Int.mul_add] at this
    omega
  · have hokq : Shapes.ok (a ++ b) = true := (Shapes.ok_iff _).2 ⟨⟨by
      rcases Nat.eq_zero_or_pos (a ++ b).length with h0 | h0
      · exact absurd (List.eq_nil_of_length_eq_zero h0) hne
      · exact h0, by simp at hl ⊢; omega⟩, hg', by omega⟩
    rw [Shapes.size_ok hokq]

theorem shapesLess_w (v : Value) (s : List Int) (q y : BitVec 8) (w : World) (hv : SlT (Value.int .i64) w v s) :
    Fnc Try.prog 6 [v, b8 q, b8 y] w (fun r w' => r = .bool true ∧ Below w.heap.size w w') := by
  have hle := hv.le
  refine Fnc.enter (n := 98) Try.func6 (by kernel_rfl) rfl rfl rfl ?_
  refine Cw.seq ?_
  refine Cw.region ?_
  refine Lw.val (Ex.assign rfl) rfl ?_
  refine Lw.nil ?_
  refine Pw.thenN (Cw.out ?_)
  refine Cw.seq ?_
  refine Cw.seq ?_
  refine Cw.region ?_
  refine Lw.callF rfl rfl (alive_c w) ?_
  rintro _ w1 ⟨rfl, hB1⟩
  have hv1 := hv.bs hB1
  refine Lw.val (Ex.not rfl) rfl ?_
  refine Lw.val (Ex.move rfl) rfl ?_
  refine Lw.know 13 (v' := .bool false) rfl (congrArg Value.bool (rfl)) ?_
  refine Lw.take (dj := 13) rfl rfl ?_
  refine Lw.val (Ex.move rfl) rfl ?_
  refine Lw.take (dj := 13) rfl rfl ?_
  refine Lw.val (Ex.lenS st_22 rfl (by assumption)) rfl ?_
  refine Lw.take (dj := 13) rfl rfl ?_
  refine Lw.val (Ex.gtr rfl rfl) rfl ?_
  refine Lw.val (Ex.pickF rfl rfl) rfl ?_
  refine Lw.val (Ex.move rfl) rfl ?_
  refine Lw.part 18 rfl ?_ ?_
  · intro _
    refine Lw.pass (dj := 18) rfl rfl rfl rfl ?_
    refine Lw.pass (dj := 18) rfl rfl rfl rfl ?_
    refine Lw.pass (dj := 18) rfl rfl rfl rfl ?_
    refine Lw.val (Ex.pickT rfl rfl) rfl ?_
    refine Lw.nil ?_
    refine Pw.thenN (Cw.out ?_)
    refine Cw.condT rfl ?_
    refine Cw.seq ?_
    refine Cw.region ?_
    refine Lw.callF rfl rfl (alive_c w1) ?_
    rintro _ w2 ⟨rfl, hB2⟩
    refine Lw.val (Ex.assign rfl) rfl ?_
    refine Lw.nil ?_
    refine Pw.thenN (Cw.out ?_)
    refine Cw.ret ?_
    refine Pw.thenR ?_
    refine Pw.ret1 rfl rfl ?_
    exact ⟨rfl, bt hB1 hB2⟩
  intro h1
  have h1' := of_decide_eq_false h1
  refine Lw.take (dj := 18) rfl rfl ?_
  refine Lw.val (Ex.move rfl) rfl ?_
  refine Lw.take (dj := 18) rfl rfl ?_
  refine Lw.callF rfl rfl (check_c v s w1 hv1) ?_
  rintro _ w2 ⟨rfl, hB2⟩
  have hB2' := bt hB1 hB2
  have hv2 := hv.bs hB2'
  refine Lw.take (dj := 18) rfl rfl ?_
  refine Lw.val (Ex.not rfl) rfl ?_
  refine Lw.val (Ex.pickF rfl rfl) rfl ?_
  refine Lw.nil ?_
  refine Pw.thenN (Cw.out ?_)
  refine Cw.cond rfl ?_ ?_
  · intro _
    refine Cw.seq ?_
    refine Cw.region ?_
    refine Lw.callF rfl rfl (alive_c w2) ?_
    rintro _ w3 ⟨rfl, hB3⟩
    refine Lw.val (Ex.assign rfl) rfl ?_
    refine Lw.nil ?_
    refine Pw.thenN (Cw.out ?_)
    refine Cw.ret ?_
    refine Pw.thenR ?_
    refine Pw.ret1 rfl rfl ?_
    exact ⟨rfl, bt hB2' hB3⟩
  intro h2
  have hok : Shapes.ok s = true := by simpa using h2
  have hgd := (Shapes.ok_iff s).1 hok
  have hpos : 0 < s.length := by omega
  obtain ⟨k, hk⟩ : ∃ k, k = q.toNat % s.length := ⟨_, rfl⟩
  have hkl : k < s.length := by rw [hk]; exact Nat.mod_lt _ hpos
  obtain ⟨x, hx⟩ : ∃ x, x = s.getD k default := ⟨_, rfl⟩
  have hsx : s[k] = x := by simp [hx, hkl]
  have hxr : 1 ≤ x ∧ x ≤ 64 := hsx ▸ hgd.2.1 s[k] (List.getElem_mem hkl)
  have hs : s = s.take k ++ x :: s.drop (k + 1) := by rw [← hsx, ← List.drop_eq_getElem_cons hkl, List.take_append_drop]
  have hr0 : 0 ≤ (y.toNat : Int) % x := Int.emod_nonneg _ (by omega)
  have hr1 : (y.toNat : Int) % x < x := Int.emod_lt_of_pos _ (by omega)
  obtain ⟨z, hz⟩ : ∃ z, z = 1 + (y.toNat : Int) % x := ⟨_, rfl⟩
  obtain ⟨t, ht⟩ : ∃ t, t = s.take k ++ z :: s.drop (k + 1) := ⟨_, rfl⟩
  obtain ⟨o, ho⟩ : ∃ o, o = s.take k ++ s.drop (k + 1) := ⟨_, rfl⟩
  have law := less_law (hs ▸ hok) (y := z) (by omega) (by omega)
  rw [← hs, ← ht, ← ho] at law
  obtain ⟨l1, l2, l3, l4, l5⟩ := law
  have htl : t.length = s.length := by rw [ht, List.length_append, List.length_cons, List.length_take, List.length_drop]; omega
  have hset : s.set k z = t := by rw [List.set_eq_take_append_cons_drop, if_pos hkl, ht]
  have htk : t.getD k default = z := by rw [← hset]; simp [hkl]
  clear h2
  refine Cw.skip ?_
  refine Pw.thenN (Cw.out ?_)
  refine Cw.seq ?_
  refine Cw.region ?_
  refine Lw.val (Ex.move rfl) rfl ?_
  refine Lw.val (Ex.conv8_I us_5 un_3 rfl) rfl ?_
  refine Lw.val (Ex.move rfl) rfl ?_
  refine Lw.val (Ex.lenS st_22 rfl (by assumption)) rfl ?_
  refine Lw.val (Ex.remN rfl rfl (by omega)) rfl ?_
  refine Lw.val (Ex.assign rfl) rfl ?_
  refine Lw.nil ?_
  refine Pw.thenN (Cw.out ?_)
  refine Cw.seq ?_
  refine Cw.know 7 (v' := .int .i64 (k : Int)) rfl (by rw [hk]) ?_
  refine Cw.region ?_
  refine Lw.val (Ex.move rfl) rfl ?_
  refine Lw.callF rfl rfl (size_c v s w2 hv2) ?_
  rintro _ w3 ⟨rfl, hB3⟩
  have hB3' := bt hB2' hB3
  have hv3 := hv.bs hB3'
  refine Lw.val (Ex.assign rfl) rfl ?_
  refine Lw.nil ?_
  refine Pw.thenN (Cw.out ?_)
  refine Cw.seq ?_
  refine Cw.region ?_
  refine Lw.val (Ex.move rfl) rfl ?_
  refine Lw.valW (Xw.append (base := w3.heap.size) st_22 it_3 rfl (by decide) rfl rfl (World.ownsRow_nil _ _ _ _) hv3 (one_map (fun _ => rfl) _) (by omega) (by omega) (Nat.le_refl _)) rfl ?_
  rintro v4 w4 ⟨ho4, hB4, -⟩
  rw [Nat.zero_add, List.nil_append] at ho4
  have hB4' := bt hB3' hB4
  have hv4 := hv.bs hB4'
  have ht4 : SlT (Value.int .i64) w4 v4 s := own_sl ho4
  refine Lw.val (Ex.assign rfl) rfl ?_
  refine Lw.nil ?_
  refine Pw.thenN (Cw.out ?_)
  refine Cw.seq ?_
  refine Cw.region ?_
  refine Lw.val (Ex.move rfl) rfl ?_
  refine Lw.val (Ex.move rfl) rfl ?_
  refine Lw.val (Ex.move rfl) rfl ?_
  refine Lw.val (Ex.conv8_I us_5 un_3 rfl) rfl ?_
  refine Lw.val (Ex.move rfl) rfl ?_
  refine Lw.val (Ex.move rfl) rfl ?_
  refine Lw.val (Ex.idxT st_22 rfl rfl (by assumption) _ rfl (by omega)) rfl ?_
  refine Lw.val (Ex.ldT (ag_3 _) rfl (by assumption) (by omega)) rfl ?_
  refine Lw.val (Ex.remI rfl rfl (by omega) (by rw [← hx]; omega)) rfl ?_
  refine Lw.val (Ex.addI rfl rfl (by rw [← hx]; omega)) rfl ?_
  refine Lw.val (Ex.idxT st_22 rfl rfl (by assumption) _ rfl (by omega)) rfl ?_
  refine Lw.unit (Xu.stO (sz_3 _) rfl rfl rfl ho4 (by rw [List.length_map]; omega)) ?_
  rintro w5 ⟨ho5, hg5, s5⟩
  rw [← List.map_set, ← hx, ← hz, hset] at ho5
  have hB5 : Below w3.heap.size w3 w5 := hB4.grown hg5 (below_size hB4) (fun b hb => (own_block ho4 b hb).1)
  have hB5' := bt hB3' hB5
  have hv5 := hv.bs hB5'
  have ht5 : SlT (Value.int .i64) w5 v4 t := by unfold SlT; rw [htl]; exact own_sl ho5
  clear hv4 ht4 hv3 hv2 hv1
  refine Lw.nil ?_
  refine Pw.thenN (Cw.out ?_)
  refine Cw.seq ?_
  refine Cw.seq ?_
  have hsz := Shapes.size_le s
  have hsz' := Shapes.size_le t
  refine Cw.quiet mixed (by kernel_rfl) ?_
  refine Qw.val (fun w1 hq => Ex.move rfl) rfl ?_
  refine Qw.callF rfl rfl (fun w1 hq => (size_c v4 t w1 (ht5.bs hq)).q hq) ?_
  refine Qw.val (fun w1 hq => Ex.move rfl) rfl ?_
  refine Qw.val (fun w1 hq => Ex.move rfl) rfl ?_
  refine Qw.val (fun w1 hq => Ex.move rfl) rfl ?_
  refine Qw.val (fun w1 hq => Ex.idxT st_22 rfl rfl (Sl.bs (by assumption) hq) _ rfl (by omega)) rfl ?_
  refine Qw.val (fun w1 hq => Ex.ldT (ag_3 _) rfl (Sl.bs (by assumption) hq) (by omega)) rfl ?_
  refine Qw.val (fun w1 hq => Ex.quoI rfl rfl (by omega) (by rw [← hx]; omega)) rfl ?_
  refine Qw.val (fun w1 hq => Ex.move rfl) rfl ?_
  refine Qw.val (fun w1 hq => Ex.move rfl) rfl ?_
  refine Qw.val (fun w1 hq => Ex.idxT st_22 rfl rfl (Sl.bs (by assumption) hq) _ rfl (by omega)) rfl ?_
  refine Qw.val (fun w1 hq => Ex.ldT (ag_3 _) rfl (Sl.bs (by assumption) hq) (by omega)) rfl ?_
  refine Qw.val (fun w1 hq => Ex.mulI rfl rfl (by rw [← hx, htk, ← l1]; omega)) rfl ?_
  refine Qw.val (fun w1 hq => Ex.neq rfl rfl) rfl ?_
  refine Qw.val (fun w1 hq => Ex.move rfl) rfl ?_
  refine Qw.know 58 (v' := .bool false) rfl (congrArg Value.bool (by rw [← hx, htk, l1]; simp)) ?_
  refine Qw.take (dj := 58) rfl rfl ?_
  refine Qw.val (fun w1 hq => Ex.move rfl) rfl ?_
  refine Qw.take (dj := 58) rfl rfl ?_
  refine Qw.val (fun w1 hq => Ex.move rfl) rfl ?_
  refine Qw.take (dj := 58) rfl rfl ?_
  refine Qw.val (fun w1 hq => Ex.idxT st_22 rfl rfl (Sl.bs (by assumption) hq) _ rfl (by omega)) rfl ?_
  refine Qw.take (dj := 58) rfl rfl ?_
  refine Qw.val (fun w1 hq => Ex.ldT (ag_3 _) rfl (Sl.bs (by assumption) hq) (by omega)) rfl ?_
  refine Qw.take (dj := 58) rfl rfl ?_
  refine Qw.val (fun w1 hq => Ex.move rfl) rfl ?_
  refine Qw.take (dj := 58) rfl rfl ?_
  refine Qw.val (fun w1 hq => Ex.move rfl) rfl ?_
  refine Qw.take (dj := 58) rfl rfl ?_
  refine Qw.val (fun w1 hq => Ex.idxT st_22 rfl rfl (Sl.bs (by assumption) hq) _ rfl (by omega)) rfl ?_
  refine Qw.take (dj := 58) rfl rfl ?_
  refine Qw.val (fun w1 hq => Ex.ldT (ag_3 _) rfl (Sl.bs (by assumption) hq) (by omega)) rfl ?_
  refine Qw.take (dj := 58) rfl rfl ?_
  refine Qw.val (fun w1 hq => Ex.lss rfl rfl) rfl ?_
  refine Qw.take (dj := 58) rfl rfl ?_
  refine Qw.val (fun w1 hq => Ex.move rfl) rfl ?_
  refine Qw.part 68 rfl ?_ ?_
  · intro g
    have g' : z < x := by rw [← hx, htk] at g; exact of_decide_eq_true g
    refine Qw.take (dj := 68) rfl rfl ?_
    refine Qw.val (fun w1 hq => Ex.move rfl) rfl ?_
    refine Qw.take (dj := 68) rfl rfl ?_
    refine Qw.callF rfl rfl (fun w1 hq => (size_c v4 t w1 (ht5.bs hq)).q hq) ?_
    refine Qw.take (dj := 68) rfl rfl ?_
    refine Qw.val (fun w1 hq => Ex.move rfl) rfl ?_
    refine Qw.take (dj := 68) rfl rfl ?_
    refine Qw.val (fun w1 hq => Ex.geq rfl rfl) rfl ?_
    refine Qw.take (dj := 58) rfl rfl ?_
    refine Qw.val (fun w1 hq => Ex.pickT rfl rfl) rfl ?_
    refine Qw.val (fun w1 hq => Ex.pickF rfl rfl) rfl ?_
    refine Qw.nil (fun w6 hq => ?_)
    refine Pw.thenN (Cw.out ?_)
    refine Cw.condB rfl false (decide_eq_false (by have := l2 g'; omega)) ?_
    refine Cw.skip ?_
    refine Pw.thenN (Cw.out ?_)
    refine Cw.seq ?_
    have hB6 := bt hB5' hq
    have hs6 := hB6.size
    have hsh := hv.shp
    have e1 : (k : Int) + 1 = ((k + 1 : Nat) : Int) := by omega
    refine Cw.any mixed (fun w7 hd _ => ?_)
    have hB7 := bt hB6 hd
    have hv7 := hv.bs hB7
    refine Aw.take (i := 0) (NoP.thn NoP.ret) rfl (by kernel_rfl) (by kernel_rfl) (by kernel_rfl) (fun _ => Ex.move rfl) rfl ?_
    refine Aw.take (i := 1) (NoP.thn NoP.ret) rfl (by kernel_rfl) (by kernel_rfl) (by kernel_rfl) (fun _ => Ex.move rfl) rfl ?_
    refine Aw.take (i := 2) (NoP.thn NoP.ret) rfl (by kernel_rfl) (by kernel_rfl) (by kernel_rfl) (fun _ => Ex.cutHv st_22 rfl rfl hsh (by omega)) rfl ?_
    refine Aw.take (i := 4) (NoP.thn NoP.ret) rfl (by kernel_rfl) (by kernel_rfl) (by kernel_rfl) (fun _ => Ex.move rfl) rfl ?_
    refine Aw.take (i := 5) (NoP.thn NoP.ret) rfl (by kernel_rfl) (by kernel_rfl) (by kernel_rfl) (fun _ => Ex.move rfl) rfl ?_
    refine Aw.take (i := 6) (NoP.thn NoP.ret) rfl (by kernel_rfl) (by kernel_rfl) (by kernel_rfl) (fun _ => Ex.addN (i := k) (j := 1) rfl rfl (by omega)) rfl ?_
    refine Aw.take (i := 7) (NoP.thn NoP.ret) rfl (by kernel_rfl) (by kernel_rfl) (by kernel_rfl) (fun _ => Ex.cutLv st_22 rfl rfl hsh (by omega)) rfl ?_
    refine Aw.only (i := 3) (by kernel_rfl) rfl ?_
    refine Lw.valW (Xw.append (base := w7.heap.size) st_22 it_3 rfl (by decide) rfl rfl (World.ownsRow_nil _ _ _ _) (SlT.take hv7 (Nat.le_of_lt hkl)) (one_map (fun _ => rfl) _) (by simp; omega) (by simp; omega) (Nat.le_refl _)) rfl ?_
    rintro v8 w8 ⟨ho8, hB8, -⟩
    have hv8 := hv7.bs hB8
    refine Aw.back ?_
    refine Aw.only (i := 8) (by kernel_rfl) rfl ?_
    refine Lw.valW (Xw.append (base := w7.heap.size) st_22 it_3 rfl (by decide) rfl rfl ho8 (SlT.drop hv8 (by omega)) (one_map (fun _ => rfl) _) (by simp; omega) (by simp; omega) hB8.size) rfl ?_
    rintro v9 w9 ⟨ho9, hB9, -⟩
    have hB9' := bt hB7 (hB8.trans hB9)
    have hlen : 0 + (s.take k).length + (s.drop (k + 1)).length = o.length := by rw [ho, List.length_append]; omega
    have ho9' : SlT (Value.int .i64) w9 v9 o := by
      unfold SlT; rw [← hlen, ho, List.map_append]; exact own_sl ho9
    have hv9 := hv.bs hB9'
    clear ho9 ho8 hv7 hv8 hv5 ht5 ho4 ho5
    refine Aw.back ?_
    refine Aw.take (i := 9) (NoP.thn NoP.ret) rfl (by kernel_rfl) (by kernel_rfl) (by kernel_rfl) (fun _ => Ex.assign rfl) rfl ?_
    refine Aw.done (by kernel_rfl) ?_
    refine Pw.thenN (Cw.out ?_)
    refine Cw.seq ?_
    refine Cw.quiet mixed (by kernel_rfl) ?_
    refine Qw.val (fun w1 hq => Ex.move rfl) rfl ?_
    refine Qw.val (fun w1 hq => Ex.lenS st_22 rfl (Sl.bs (by assumption) hq)) rfl ?_
    refine Qw.val (fun w1 hq => Ex.eql rfl rfl) rfl ?_
    refine Qw.val (fun w1 hq => Ex.move rfl) rfl ?_
    refine Qw.part 87 rfl ?_ ?_
    · intro g
      refine Qw.pass (dj := 87) rfl rfl rfl rfl ?_
      refine Qw.pass (dj := 87) rfl rfl rfl rfl ?_
      refine Qw.pass (dj := 87) rfl rfl rfl rfl ?_
      refine Qw.pass (dj := 87) rfl rfl rfl rfl ?_
      refine Qw.pass (dj := 87) rfl rfl rfl rfl ?_
      refine Qw.pass (dj := 87) rfl rfl rfl rfl ?_
      refine Qw.pass (dj := 87) rfl rfl rfl rfl ?_
      refine Qw.pass (dj := 87) rfl rfl rfl rfl ?_
      refine Qw.pass (dj := 87) rfl rfl rfl rfl ?_
      refine Qw.val (fun w1 hq => Ex.pickT rfl rfl) rfl ?_
      refine Qw.val (fun w1 hq => Ex.assign rfl) rfl ?_
      refine Qw.nil (fun w10 hq => ?_)
      refine Pw.thenN (Cw.out ?_)
      refine Cw.ret ?_
      refine Pw.ret1 rfl rfl ?_
      exact ⟨rfl, bt hB9' hq⟩
    intro g
    refine Qw.take (dj := 87) rfl rfl ?_
    refine Qw.val (fun w1 hq => Ex.move rfl) rfl ?_
    refine Qw.take (dj := 87) rfl rfl ?_
    refine Qw.callF rfl rfl (fun w1 hq => (size_c v9 o w1 (ho9'.bs hq)).q hq) ?_
    refine Qw.take (dj := 87) rfl rfl ?_
    refine Qw.val (fun w1 hq => Ex.move rfl) rfl ?_
    refine Qw.take (dj := 87) rfl rfl ?_
    refine Qw.val (fun w1 hq => Ex.move rfl) rfl ?_
    refine Qw.take (dj := 87) rfl rfl ?_
    refine Qw.val (fun w1 hq => Ex.move rfl) rfl ?_
    refine Qw.take (dj := 87) rfl rfl ?_
    refine Qw.val (fun w1 hq => Ex.idxT st_22 rfl rfl (Sl.bs (by assumption) hq) _ rfl (by omega)) rfl ?_
    refine Qw.take (dj := 87) rfl rfl ?_
    refine Qw.val (fun w1 hq => Ex.ldT (ag_3 _) rfl (Sl.bs (by assumption) hq) (by omega)) rfl ?_
    refine Qw.take (dj := 87) rfl rfl ?_
    refine Qw.val (fun w1 hq => Ex.quoI rfl rfl (by have := Shapes.size_le s; omega) (by rw [← hx]; omega)) rfl ?_
    refine Qw.take (dj := 87) rfl rfl ?_
    refine Qw.val (fun w1 hq => Ex.eql rfl rfl) rfl ?_
    refine Qw.val (fun w1 hq => Ex.pickF rfl rfl) rfl ?_
    refine Qw.val (fun w1 hq => Ex.assign rfl) rfl ?_
    refine Qw.nil (fun w10 hq => ?_)
    refine Pw.thenN (Cw.out ?_)
    refine Cw.ret ?_
    refine Pw.ret1 rfl rfl ?_
    refine ⟨congrArg Value.bool (decide_eq_true ?_), bt hB9' hq⟩
    rw [← hx]
    refine l3 fun h => ?_
    rw [h] at g
    simp at g
  · intro g
    refine Qw.pass (dj := 68) rfl rfl rfl rfl ?_
    refine Qw.pass (dj := 68) rfl rfl rfl rfl ?_
    refine Qw.pass (dj := 68) rfl rfl rfl rfl ?_
    refine Qw.pass (dj := 68) rfl rfl rfl rfl ?_
    refine Qw.take (dj := 58) rfl rfl ?_
    refine Qw.val (fun w1 hq => Ex.pickF rfl rfl) rfl ?_
    refine Qw.val (fun w1 hq => Ex.pickF rfl rfl) rfl ?_
    refine Qw.nil (fun w6 hq => ?_)
    refine Pw.thenN (Cw.out ?_)
    refine Cw.condF rfl ?_
    refine Cw.skip ?_
    refine Pw.thenN (Cw.out ?_)
    refine Cw.seq ?_
    have hB6 := bt hB5' hq
    have hs6 := hB6.size
    have hsh := hv.shp
    have e1 : (k : Int) + 1 = ((k + 1 : Nat) : Int) := by omega
    refine Cw.any mixed (fun w7 hd _ => ?_)
    have hB7 := bt hB6 hd
    have hv7 := hv.bs hB7
    refine Aw.take (i := 0) (NoP.thn NoP.ret) rfl (by kernel_rfl) (by kernel_rfl) (by kernel_rfl) (fun _ => Ex.move rfl) rfl ?_
    refine Aw.take (i := 1) (NoP.thn NoP.ret) rfl (by kernel_rfl) (by kernel_rfl) (by kernel_rfl) (fun _ => Ex.move rfl) rfl ?_
    refine Aw.take (i := 2) (NoP.thn NoP.ret) rfl (by kernel_rfl) (by kernel_rfl) (by kernel_rfl) (fun _ => Ex.cutHv st_22 rfl rfl hsh (by omega)) rfl ?_
    refine Aw.take (i := 4) (NoP.thn NoP.ret) rfl (by kernel_rfl) (by kernel_rfl) (by kernel_rfl) (fun _ => Ex.move rfl) rfl ?_
    refine Aw.take (i := 5) (NoP.thn NoP.ret) rfl (by kernel_rfl) (by kernel_rfl) (by kernel_rfl) (fun _ => Ex.move rfl) rfl ?_
    refine Aw.take (i := 6) (NoP.thn NoP.ret) rfl (by kernel_rfl) (by kernel_rfl) (by kernel_rfl) (fun _ => Ex.addN (i := k) (j := 1) rfl rfl (by omega)) rfl ?_
    refine Aw.take (i := 7) (NoP.thn NoP.ret) rfl (by kernel_rfl) (by kernel_rfl) (by kernel_rfl) (fun _ => Ex.cutLv st_22 rfl rfl hsh (by omega)) rfl ?_
    refine Aw.only (i := 3) (by kernel_rfl) rfl ?_
    refine Lw.valW (Xw.append (base := w7.heap.size) st_22 it_3 rfl (by decide) rfl rfl (World.ownsRow_nil _ _ _ _) (SlT.take hv7 (Nat.le_of_lt hkl)) (one_map (fun _ => rfl) _) (by simp; omega) (by simp; omega) (Nat.le_refl _)) rfl ?_
    rintro v8 w8 ⟨ho8, hB8, -⟩
    have hv8 := hv7.bs hB8
    refine Aw.back ?_
    refine Aw.only (i := 8) (by kernel_rfl) rfl ?_
    refine Lw.valW (Xw.append (base := w7.heap.size) st_22 it_3 rfl (by decide) rfl rfl ho8 (SlT.drop hv8 (by omega)) (one_map (fun _ => rfl) _) (by simp; omega) (by simp; omega) hB8.size) rfl ?_
    rintro v9 w9 ⟨ho9, hB9, -⟩
    have hB9' := bt hB7 (hB8.trans hB9)
    have hlen : 0 + (s.take k).length + (s.drop (k + 1)).length = o.length := by rw [ho, List.length_append]; omega
    have ho9' : SlT (Value.int .i64) w9 v9 o := by
      unfold SlT; rw [← hlen, ho, List.map_append]; exact own_sl ho9
    have hv9 := hv.bs hB9'
    clear ho9 ho8 hv7 hv8 hv5 ht5 ho4 ho5
    refine Aw.back ?_
    refine Aw.take (i := 9) (NoP.thn NoP.ret) rfl (by kernel_rfl) (by kernel_rfl) (by kernel_rfl) (fun _ => Ex.assign rfl) rfl ?_
    refine Aw.done (by kernel_rfl) ?_
    refine Pw.thenN (Cw.out ?_)
    refine Cw.seq ?_
    refine Cw.quiet mixed (by kernel_rfl) ?_
    refine Qw.val (fun w1 hq => Ex.move rfl) rfl ?_
    refine Qw.val (fun w1 hq => Ex.lenS st_22 rfl (Sl.bs (by assumption) hq)) rfl ?_
    refine Qw.val (fun w1 hq => Ex.eql rfl rfl) rfl ?_
    refine Qw.val (fun w1 hq => Ex.move rfl) rfl ?_
    refine Qw.part 87 rfl ?_ ?_
    · intro g
      refine Qw.pass (dj := 87) rfl rfl rfl rfl ?_
      refine Qw.pass (dj := 87) rfl rfl rfl rfl ?_
      refine Qw.pass (dj := 87) rfl rfl rfl rfl ?_
      refine Qw.pass (dj := 87) rfl rfl rfl rfl ?_
      refine Qw.pass (dj := 87) rfl rfl rfl rfl ?_
      refine Qw.pass (dj := 87) rfl rfl rfl rfl ?_
      refine Qw.pass (dj := 87) rfl rfl rfl rfl ?_
      refine Qw.pass (dj := 87) rfl rfl rfl rfl ?_
      refine Qw.pass (dj := 87) rfl rfl rfl rfl ?_
      refine Qw.val (fun w1 hq => Ex.pickT rfl rfl) rfl ?_
      refine Qw.val (fun w1 hq => Ex.assign rfl) rfl ?_
      refine Qw.nil (fun w10 hq => ?_)
      refine Pw.thenN (Cw.out ?_)
      refine Cw.ret ?_
      refine Pw.ret1 rfl rfl ?_
      exact ⟨rfl, bt hB9' hq⟩
    intro g
    refine Qw.take (dj := 87) rfl rfl ?_
    refine Qw.val (fun w1 hq => Ex.move rfl) rfl ?_
    refine Qw.take (dj := 87) rfl rfl ?_
    refine Qw.callF rfl rfl (fun w1 hq => (size_c v9 o w1 (ho9'.bs hq)).q hq) ?_
    refine Qw.take (dj := 87) rfl rfl ?_
    refine Qw.val (fun w1 hq => Ex.move rfl) rfl ?_
    refine Qw.take (dj := 87) rfl rfl ?_
    refine Qw.val (fun w1 hq => Ex.move rfl) rfl ?_
    refine Qw.take (dj := 87) rfl rfl ?_
    refine Qw.val (fun w1 hq => Ex.move rfl) rfl ?_
    refine Qw.take (dj := 87) rfl rfl ?_
    refine Qw.val (fun w1 hq => Ex.idxT st_22 rfl rfl (Sl.bs (by assumption) hq) _ rfl (by omega)) rfl ?_
    refine Qw.take (dj := 87) rfl rfl ?_
    refine Qw.val (fun w1 hq => Ex.ldT (ag_3 _) rfl (Sl.bs (by assumption) hq) (by omega)) rfl ?_
    refine Qw.take (dj := 87) rfl rfl ?_
    refine Qw.val (fun w1 hq => Ex.quoI rfl rfl (by have := Shapes.size_le s; omega) (by rw [← hx]; omega)) rfl ?_
    refine Qw.take (dj := 87) rfl rfl ?_
    refine Qw.val (fun w1 hq => Ex.eql rfl rfl) rfl ?_
    refine Qw.val (fun w1 hq => Ex.pickF rfl rfl) rfl ?_
    refine Qw.val (fun w1 hq => Ex.assign rfl) rfl ?_
    refine Qw.nil (fun w10 hq => ?_)
    refine Pw.thenN (Cw.out ?_)
    refine Cw.ret ?_
    refine Pw.ret1 rfl rfl ?_
    refine ⟨congrArg Value.bool (decide_eq_true ?_), bt hB9' hq⟩
    rw [← hx]
    refine l3 fun h => ?_
    rw [h] at g
    simp at g

set_option maxRecDepth 100000 in
theorem shapesLess_lifted (os : Os) (started : os.Started) (H : Type) (enc : TypeId × Value → H) :
    ReturnsInHanded {} Try.checked os 6 .any (Rows.shapesLessSpec.pre6 enc Try.prog Try.f6 Rows.shapesLessRow.domain false) (Rows.shapesLessSpec.post enc Try.prog Try.f6 false true false false) := by
  refine returnsInHanded_of_change_sized (C := Try.checked) own started (by kernel_rfl) Try.func6
    (ChangeSpec.witness6 (enc := enc) (C := Try.checked) false ⟨#[], #[.slice none 0 0, .int .u8 0, .int .u8 0], []⟩ 8 (by kernel_rfl) (by kernel_rfl) (by kernel_rfl) (by kernel_rfl)) ?_
  intro W base args ds gs before hval0 hW hcnd hsz0 _
  have hval : ∀ (j : Nat) t v, Try.f6.params[j]? = some t → args[j]? = some v → Value.okWide Try.prog W .any base t v := hval0
  have hW' := hW
  obtain ⟨p, q, hA0, hV, rfl, hfz, hnd⟩ := hW
  have hA : DataW.TrodAll enc Try.prog W 0 (fun _ => true) true Try.f6.params.toList args.toList ds p := hA0
  have hsz : (DataW.weightsEach Try.prog (Try.f6.params.toList ++ Rows.shapesLessSpec.plain.varTypes Try.prog) (ds ++ gs)).all (· ≤ reachBytes) = true := hsz0
  rw [Try.params6] at hA hval hsz
  obtain ⟨v0, vs0, d0, ds0, p0, q0, hargs, rfl, rfl, h0, r0⟩ := trodAll_cons hA
  obtain ⟨v1, vs1, d1, ds1, p1, q1, rfl, rfl, rfl, h1, r1⟩ := trodAll_cons r0
  obtain ⟨v2, vs2, d2, ds2, p2, q2, rfl, rfl, rfl, h2, r2⟩ := trodAll_cons r1
  obtain ⟨rfl, rfl, rfl⟩ := trodAll_nil r2
  obtain rfl : args = #[v0, v1, v2] := by cases args; simp_all
  obtain ⟨rfl, rfl⟩ := trodVars_none hV
  have k0 := h0
  have lt0 : ∀ x ∈ p0, x.block < W.heap.size := by obtain ⟨m, hm⟩ := k0; exact DataW.trod_lt m _ _ _ hm
  have i0 := in_of (j := 0) (t := 22) hsz rfl rfl h0
  have o0 := hval 0 22 v0 rfl rfl
  have k1 := h1
  have lt1 : ∀ x ∈ p1, x.block < W.heap.size := by obtain ⟨m, hm⟩ := k1; exact DataW.trod_lt m _ _ _ hm
  have i1 := in_of (j := 1) (t := 5) hsz rfl rfl h1
  have o1 := hval 1 5 v1 rfl rfl
  have k2 := h2
  have lt2 : ∀ x ∈ p2, x.block < W.heap.size := by obtain ⟨m, hm⟩ := k2; exact DataW.trod_lt m _ _ _ hm
  have i2 := in_of (j := 2) (t := 5) hsz rfl rfl h2
  have o2 := hval 2 5 v2 rfl rfl
  clear hA0 hval0 hsz0 hsz
  obtain ⟨l, hl, -⟩ := arg_slT un_22 (by kernel_rfl) (fun cs h => (In.int un_3 h).imp fun _ h => h.1) o0 i0
  obtain ⟨q, rfl⟩ := arg_num (BitVec.ofInt 8) b8 (fun _ h => wf_u8 h) un_5 o1 i1
  obtain ⟨y, rfl⟩ := arg_num (BitVec.ofInt 8) b8 (fun _ h => wf_u8 h) un_5 o2 i2
  refine (law_calls (shapesLess_w v0 l q y W hl)).mono fun e W' ⟨he, bel⟩ => ?_
  subst he
  exact ⟨_, rfl, _, _, _, [], _, [], hW', trodAll_mk1 (shut_bool un_4 _), (trodAll_cons_mk (Below.trod laidOut (by kernel_rfl) (of_decide_eq_true (by kernel_rfl)) k0 bel lt0) (trodAll_cons_mk (Below.trod laidOut (by kernel_rfl) (of_decide_eq_true (by kernel_rfl)) k1 bel lt1) (trodAll_cons_mk (Below.trod laidOut (by kernel_rfl) (of_decide_eq_true (by kernel_rfl)) k2 bel lt2) trodAll_mk0))), rfl, bel.frame _, fun h => by cases h⟩

/-- The statement. -/
theorem shapesLess_proved : Rows.ShapesLessSaid :=
  OpenClaim.holds_of_wide 6 Try.f6 rfl rfl rfl rfl rfl rfl rfl ⟨rfl, rfl, rfl, rfl, rfl⟩ rfl rfl rfl rfl rfl (by kernel_rfl) Try.func6 (by kernel_rfl)
    (of_decide_eq_true (by kernel_rfl)) (by unfold Func.isWrapper; first | (rw [if_pos (by decide +kernel)]; kernel_rfl) | (rw [if_neg (by decide +kernel)]; exact ⟨rfl, rfl⟩))
    (fun os started H enc _ => shapesLess_lifted os started H enc)
#print axioms shapesLess_proved
end Go.Proofs.Ytaliinkmeokonaa
