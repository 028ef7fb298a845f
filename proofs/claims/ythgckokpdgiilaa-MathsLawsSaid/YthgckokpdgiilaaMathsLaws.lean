/- Sums and products don't ask for the order, nor for how three are put together; a product of a sum is the sum of the products: for any three tensors; no condition. -/
import Derived.Test.YthgckokpdgiilaaMathsLaw
import Derived.Test.YthgckokpdgiilaaTensorsArg
import Derived.Test.YthgckokpdgiilaaRows
namespace Go.Proofs.Ythgckokpdgiilaa
open Go Go.Dd Go.RowKit Go.ChangeShapes Go.WideShapes Go.ChangeAt

theorem own : ownKnob Try.prog.godebug = none := by kernel_rfl
theorem laidOut : laidOutB Try.prog = true := by kernel_rfl

theorem z2_at {f : BitVec 32 → BitVec 32 → BitVec 32} {s : List Int} {l m : List (BitVec 32)} {i : Nat} (h : i < (Shapes.size s).toNat) : (z2 f s l m).getD i default = f (l.getD i default) (m.getD i default) := by
  simp [z2, h]
theorem z2_eq {f g : BitVec 32 → BitVec 32 → BitVec 32} {s : List Int} {l m l' m' : List (BitVec 32)} (h : ∀ i, i < (Shapes.size s).toNat → f (l.getD i default) (m.getD i default) = g (l'.getD i default) (m'.getD i default)) : z2 f s l m = z2 g s l' m' := by
  unfold z2
  exact List.map_congr_left fun i hi => h i (List.mem_range.1 hi)
theorem z2_tok {f : BitVec 32 → BitVec 32 → BitVec 32} {s : List Int} {l m : List (BitVec 32)} (h : Shapes.ok s = true) : tok s (z2 f s l m) = true := by
  have := Shapes.size_le s
  simp only [tok, h, Bool.true_and, decide_eq_true_eq, z2, List.length_map, List.length_range]
  omega
theorem e2_no {s t : List Int} {l m : List (BitVec 32)} (h1 : tok s l = true) (h2 : tok t m = true) (h : t = s) : e2 s l t m = 0 := by
  unfold e2; rw [h1, h2, if_pos h]; rfl

theorem three_c (ts : List T4) (w : World) (h3 : ts.length = 3) (hts : ∀ t ∈ ts, t.at w) (hb1 : ∀ t ∈ ts, t.s.length ≤ 1125899906842624) (hb2 : ∀ t ∈ ts, t.l.length ≤ 1125899906842624) :
    Fnc Try.prog 10 [.agg (cellsOf ts).toArray] w (fun r w' => ∃ q, r = .bool q ∧ (q = true → ∀ t ∈ ts, tok t.s t.l = true ∧ some t.s = ts[0]?.map (·.s)) ∧ Below w.heap.size w w') := by
  have h0 : 0 < ts.length := by omega
  refine Fnc.enter (n := 35) Try.func10 (by kernel_rfl) rfl rfl rfl ?_
  refine Cw.seq ?_
  refine Cw.region ?_
  refine Lw.valW (Xw.box (cs := cellsOf ts) rfl rfl) rfl ?_
  rintro _ w1 ⟨rfl, b, hB, -⟩
  refine Lw.val (Ex.assign rfl) rfl ?_
  refine Lw.nil ?_
  refine Pw.thenN (Cw.out ?_)
  refine Cw.seq ?_
  refine Cw.region ?_
  refine Lw.val (Ex.assign rfl) rfl ?_
  refine Lw.nil ?_
  refine Pw.thenN (Cw.out ?_)
  refine Cw.seq ?_
  refine Cw.seq ?_
  refine Cw.region ?_
  refine Lw.val (Ex.assign rfl) rfl ?_
  refine Lw.nil ?_
  refine Pw.thenN (Cw.out ?_)
  refine Cw.block ?_
  refine Cw.loop (S := (Nat × Int)) (fun s => [(1, .pointer (some ⟨w.heap.size, 0, none⟩)), (3, .int .i64 s.2), (4, .int .i64 (s.1 : Int))]) (fun s w' => s.1 ≤ 3 ∧ (0 ≤ s.2 ∧ s.2 ≤ 100000) ∧ (∀ t ∈ ts.take s.1, tok t.s t.l = true ∧ t.s = ts[0].s) ∧ Below w1.heap.size w1 w') (fun s => 3 - s.1) ((0, 0)) ⟨rfl, rfl, rfl, trivial⟩ ?_ ?_
  · exact ⟨by simp, by simp, by simp, Below.refl _ _⟩
  rintro ⟨i, n⟩ w2 ⟨hi, hn, hall, hw2⟩
  dsimp only at hi hn hall ⊢
  have b2 := b.bs hw2
  have hB2 := bt hB hw2
  refine Cw.seq ?_
  refine Cw.seq ?_
  refine Cw.region ?_
  refine Lw.val (Ex.move rfl) rfl ?_
  refine Lw.val (Ex.lss rfl rfl) rfl ?_
  refine Lw.nil ?_
  refine Pw.thenN (Cw.out ?_)
  refine Cw.cond rfl ?_ ?_
  · intro h
    have hi' : i < 3 := by simp at h; omega
    have hi3 : i < ts.length := by omega
    obtain ⟨c1, c2⟩ := cells_at hi3
    obtain ⟨d1, d2⟩ := cells_at h0
    have hm := List.getElem_mem hi3
    have hm0 := List.getElem_mem h0
    have e0 : 0 + i * 2 + 0 = i * 2 := by omega
    have e1 : 0 + i * 2 + 1 = i * 2 + 1 := by omega
    have hz : 0 ≤ tsz ts[i].s ts[i].l ∧ tsz ts[i].s ts[i].l ≤ 4503599627370496 := by have := hb1 _ hm; have := hb2 _ hm; unfold tsz; split <;> omega
    have hl : ∀ j, j < 2 → ∃ q, [ts[i].x, ts[i].y][j]? = some q ∧ (cellsOf ts)[0 + i * 2 + j]? = some q := fun j hj => by
      rcases (show j = 0 ∨ j = 1 by omega) with rfl | rfl
      · exact ⟨_, rfl, by rw [e0]; exact c1⟩
      · exact ⟨_, rfl, by rw [e1]; exact c2⟩
    refine Cw.skip ?_
    refine Pw.thenN (Cw.out ?_)
    refine Cw.seq ?_
    refine Cw.block ?_
    refine Cw.seq ?_
    refine Cw.region ?_
    refine Lw.val (Ex.move rfl) rfl ?_
    refine Lw.val (Ex.move rfl) rfl ?_
    refine Lw.val (Ex.idxB (sz := 2) un_26 sz_25 rfl rfl i rfl hi') rfl ?_
    refine Lw.val (Ex.ldAO (ds := [ts[i].x, ts[i].y]) (ag_25 _) (sz_25 _) rfl b2 rfl hl) rfl ?_
    refine Lw.callF rfl rfl (tsize_c ts[i] w2 ((hts _ hm).bs hB2) (hb1 _ hm) (hb2 _ hm)) ?_
    rintro _ w3 ⟨rfl, hw3⟩
    have hB3 := bt hB2 hw3
    have b3 := b2.bs hw3
    have hat := (hts _ hm).bs hB3
    have hat0 := (hts _ hm0).bs hB3
    have c1' : (cellsOf ts)[0 + i * 2 + 0]? = some ts[i].x := by rw [e0]; exact c1
    have d1' : (cellsOf ts)[0 + 0 * 2 + 0]? = some ts[0].x := d1
    refine Lw.val (Ex.addI rfl rfl (by omega)) rfl ?_
    refine Lw.val (Ex.assign rfl) rfl ?_
    refine Lw.nil ?_
    refine Pw.thenN (Cw.out ?_)
    refine Cw.seq ?_
    refine Cw.quiet mixed (by kernel_rfl) ?_
    refine Qw.val (fun w1 hq => Ex.move rfl) rfl ?_
    refine Qw.val (fun w1 hq => Ex.gtr rfl rfl) rfl ?_
    refine Qw.val (fun w1 hq => Ex.move rfl) rfl ?_
    refine Qw.part 17 rfl ?_ ?_
    · intro g
      refine Qw.pass (dj := 17) rfl rfl rfl rfl ?_
      refine Qw.pass (dj := 17) rfl rfl rfl rfl ?_
      refine Qw.pass (dj := 17) rfl rfl rfl rfl ?_
      refine Qw.pass (dj := 17) rfl rfl rfl rfl ?_
      refine Qw.pass (dj := 17) rfl rfl rfl rfl ?_
      refine Qw.val (fun w1 hq => Ex.pickT rfl rfl) rfl ?_
      refine Qw.val (fun w1 hq => Ex.move rfl) rfl ?_
      refine Qw.pass (dj := 24) rfl rfl rfl rfl ?_
      refine Qw.pass (dj := 24) rfl rfl rfl rfl ?_
      refine Qw.pass (dj := 24) rfl rfl rfl rfl ?_
      refine Qw.pass (dj := 24) rfl rfl rfl rfl ?_
      refine Qw.pass (dj := 24) rfl rfl rfl rfl ?_
      refine Qw.pass (dj := 24) rfl rfl rfl rfl ?_
      refine Qw.pass (dj := 24) rfl rfl rfl rfl ?_
      refine Qw.pass (dj := 24) rfl rfl rfl rfl ?_
      refine Qw.pass (dj := 24) rfl rfl rfl rfl ?_
      refine Qw.val (fun w1 hq => Ex.pickT rfl rfl) rfl ?_
      refine Qw.nil (fun w4 hq => ?_)
      refine Pw.thenN (Cw.out ?_)
      refine Cw.condT rfl ?_
      refine Cw.seq ?_
      refine Cw.region ?_
      refine Lw.val (Ex.assign rfl) rfl ?_
      refine Lw.nil ?_
      refine Pw.thenN (Cw.out ?_)
      refine Cw.ret ?_
      refine Pw.blkR ?_
      refine Pw.thenR ?_
      refine Pw.thenR ?_
      refine Pw.blkR ?_
      refine Pw.thenR ?_
      refine Pw.ret1 rfl rfl ?_
      exact ⟨_, rfl, fun h => (by cases h), bt hB3 hq⟩
    intro g
    have g' := of_decide_eq_false g
    refine Qw.take (dj := 17) rfl rfl ?_
    refine Qw.val (fun w1 hq => Ex.move rfl) rfl ?_
    refine Qw.take (dj := 17) rfl rfl ?_
    refine Qw.val (fun w1 hq => Ex.idxB (sz := 2) un_26 sz_25 rfl rfl i rfl hi') rfl ?_
    refine Qw.take (dj := 17) rfl rfl ?_
    refine Qw.val (fun w1 hq => Ex.ldAO (ds := [ts[i].x, ts[i].y]) (ag_25 _) (sz_25 _) rfl (b3.bs hq) rfl hl) rfl ?_
    refine Qw.take (dj := 17) rfl rfl ?_
    refine Qw.callF rfl rfl (fun w1 hq => (tcheck_c ts[i].x ts[i].y ts[i].s ts[i].l w1 (hat.1.bs hq) (hat.2.bs hq)).q hq) ?_
    refine Qw.take (dj := 17) rfl rfl ?_
    refine Qw.val (fun w1 hq => Ex.not rfl) rfl ?_
    refine Qw.val (fun w1 hq => Ex.pickF rfl rfl) rfl ?_
    refine Qw.val (fun w1 hq => Ex.move rfl) rfl ?_
    refine Qw.part 24 rfl ?_ ?_
    · intro k
      refine Qw.pass (dj := 24) rfl rfl rfl rfl ?_
      refine Qw.pass (dj := 24) rfl rfl rfl rfl ?_
      refine Qw.pass (dj := 24) rfl rfl rfl rfl ?_
      refine Qw.pass (dj := 24) rfl rfl rfl rfl ?_
      refine Qw.pass (dj := 24) rfl rfl rfl rfl ?_
      refine Qw.pass (dj := 24) rfl rfl rfl rfl ?_
      refine Qw.pass (dj := 24) rfl rfl rfl rfl ?_
      refine Qw.pass (dj := 24) rfl rfl rfl rfl ?_
      refine Qw.pass (dj := 24) rfl rfl rfl rfl ?_
      refine Qw.val (fun w1 hq => Ex.pickT rfl rfl) rfl ?_
      refine Qw.nil (fun w4 hq => ?_)
      refine Pw.thenN (Cw.out ?_)
      refine Cw.condT rfl ?_
      refine Cw.seq ?_
      refine Cw.region ?_
      refine Lw.val (Ex.assign rfl) rfl ?_
      refine Lw.nil ?_
      refine Pw.thenN (Cw.out ?_)
      refine Cw.ret ?_
      refine Pw.blkR ?_
      refine Pw.thenR ?_
      refine Pw.thenR ?_
      refine Pw.blkR ?_
      refine Pw.thenR ?_
      refine Pw.ret1 rfl rfl ?_
      exact ⟨_, rfl, fun h => (by cases h), bt hB3 hq⟩
    intro k
    have k' : tok ts[i].s ts[i].l = true := by simpa using k
    refine Qw.take (dj := 24) rfl rfl ?_
    refine Qw.val (fun w1 hq => Ex.move rfl) rfl ?_
    refine Qw.take (dj := 24) rfl rfl ?_
    refine Qw.val (fun w1 hq => Ex.idxB (sz := 2) un_26 sz_25 rfl rfl i rfl hi') rfl ?_
    refine Qw.take (dj := 24) rfl rfl ?_
    refine Qw.val (fun w1 hq => Ex.fieldAddr (q := 0) Try.underlying25 rfl (sz_22 _) rfl) rfl ?_
    refine Qw.take (dj := 24) rfl rfl ?_
    refine Qw.val (fun w1 hq => Ex.ldB (ag_22 _) rfl (b3.bs hq) c1') rfl ?_
    refine Qw.take (dj := 24) rfl rfl ?_
    refine Qw.val (fun w1 hq => Ex.idxB (sz := 2) un_26 sz_25 rfl rfl 0 rfl (by decide)) rfl ?_
    refine Qw.take (dj := 24) rfl rfl ?_
    refine Qw.val (fun w1 hq => Ex.fieldAddr (q := 0) Try.underlying25 rfl (sz_22 _) rfl) rfl ?_
    refine Qw.take (dj := 24) rfl rfl ?_
    refine Qw.val (fun w1 hq => Ex.ldB (ag_22 _) rfl (b3.bs hq) d1') rfl ?_
    refine Qw.take (dj := 24) rfl rfl ?_
    refine Qw.callF rfl rfl (fun w1 hq => (sameInts_c ts[i].x ts[0].x ts[i].s ts[0].s w1 (hat.1.bs hq) (hat0.1.bs hq)).q hq) ?_
    refine Qw.take (dj := 24) rfl rfl ?_
    refine Qw.val (fun w1 hq => Ex.not rfl) rfl ?_
    refine Qw.val (fun w1 hq => Ex.pickF rfl rfl) rfl ?_
    refine Qw.nil (fun w4 hq => ?_)
    refine Pw.thenN (Cw.out ?_)
    refine Cw.cond rfl ?_ ?_
    · intro m
      refine Cw.seq ?_
      refine Cw.region ?_
      refine Lw.val (Ex.assign rfl) rfl ?_
      refine Lw.nil ?_
      refine Pw.thenN (Cw.out ?_)
      refine Cw.ret ?_
      refine Pw.blkR ?_
      refine Pw.thenR ?_
      refine Pw.thenR ?_
      refine Pw.blkR ?_
      refine Pw.thenR ?_
      refine Pw.ret1 rfl rfl ?_
      exact ⟨_, rfl, fun h => (by cases h), bt hB3 hq⟩
    · intro m
      have m' : ts[i].s = ts[0].s := by simpa using m
      have hall' : ∀ t ∈ ts.take (i + 1), tok t.s t.l = true ∧ t.s = ts[0].s := fun t ht => by
        rw [List.take_succ_eq_append_getElem hi3] at ht
        rcases List.mem_append.1 ht with h | h
        · exact hall t h
        · rw [List.mem_singleton.1 h]; exact ⟨k', m'⟩
      refine Cw.skip ?_
      refine Pw.blkN ?_
      refine Pw.thenN (Cw.out ?_)
      refine Cw.region ?_
      refine Lw.val (Ex.move rfl) rfl ?_
      refine Lw.val (Ex.addI rfl rfl (by omega)) rfl ?_
      refine Lw.val (Ex.assign rfl) rfl ?_
      refine Lw.nil ?_
      exact Pw.thenN (Pw.next ((i + 1, n + tsz ts[i].s ts[i].l)) ⟨rfl, rfl, rfl, trivial⟩ (⟨hi', ⟨by simp only; omega, by simp only; omega⟩, hall', bt hw2 (bt hw3 hq)⟩) (by simp only; omega))
  · intro h
    have hi' : i = 3 := by simp at h; omega
    subst hi'
    rw [List.take_of_length_le (by omega)] at hall
    refine Cw.exit ?_
    refine Pw.thenE ?_
    refine Pw.thenE ?_
    refine Pw.blkHit ?_
    refine Pw.thenN (Cw.out ?_)
    refine Cw.seq ?_
    refine Cw.region ?_
    refine Lw.val (Ex.assign rfl) rfl ?_
    refine Lw.nil ?_
    refine Pw.thenN (Cw.out ?_)
    refine Cw.ret ?_
    refine Pw.ret1 rfl rfl ?_
    exact ⟨_, rfl, fun _ t ht => ⟨(hall t ht).1, by rw [(hall t ht).2, List.getElem?_eq_getElem h0]; rfl⟩, hB2⟩

theorem same_yes {s t : List Int} {l m : List (BitVec 32)} (h1 : s = t) (h2 : l = m) : (decide (s = t) && decide (l = m)) = true := by rw [decide_eq_true h1, decide_eq_true h2]; rfl
theorem same_not {s t : List Int} {l m : List (BitVec 32)} (h1 : s = t) (h2 : l = m) : (!(decide (s = t) && decide (l = m))) = false := by rw [same_yes h1 h2]; rfl

set_option maxHeartbeats 2000000 in
theorem mathsLaws_w (a b c : T4) (w : World) (h_a : a.at w) (h_b : b.at w) (h_c : c.at w) (b1 : ∀ t ∈ [a, b, c], t.s.length ≤ 1125899906842624) (b2 : ∀ t ∈ [a, b, c], t.l.length ≤ 1125899906842624) :
    Fnc Try.prog 3 [.agg (cellsOf [a, b, c]).toArray] w (fun r w' => r = .bool true ∧ Below w.heap.size w w') := by
  have hB := Below.refl w.heap.size w
  refine Fnc.enter (n := 194) Try.func3 (by kernel_rfl) rfl rfl rfl ?_
  refine Cw.seq ?_
  refine Cw.region ?_
  refine Lw.valW (Xw.box (cs := [a.x, a.y, b.x, b.y, c.x, c.y]) rfl rfl) rfl ?_
  rintro _ w1 ⟨rfl, bl, hn, -⟩
  replace hB := hB.bs hn
  replace h_a := h_a.bs hn
  replace h_b := h_b.bs hn
  replace h_c := h_c.bs hn
  clear hn
  refine Lw.val (Ex.assign rfl) rfl ?_
  refine Lw.nil ?_
  refine Pw.thenN (Cw.out ?_)
  refine Cw.seq ?_
  refine Cw.seq ?_
  refine Cw.region ?_
  refine Lw.callF rfl rfl (alive_c w1) ?_
  rintro _ w2 ⟨rfl, hn⟩
  replace hB := hB.bs hn
  replace h_a := h_a.bs hn
  replace h_b := h_b.bs hn
  replace h_c := h_c.bs hn
  replace bl := bl.bs hn
  clear hn
  refine Lw.val (Ex.not rfl) rfl ?_
  refine Lw.val (Ex.move rfl) rfl ?_
  refine Lw.know 29 (v' := .bool false) rfl (congrArg Value.bool (rfl)) ?_
  refine Lw.take (dj := 29) rfl rfl ?_
  refine Lw.val (Ex.ldA (ag_26 _) (sz_26 _) rfl rfl (by assumption)) rfl ?_
  refine Lw.take (dj := 29) rfl rfl ?_
  refine Lw.callF rfl rfl (three_c [a, b, c] w2 rfl (fun t ht => by simp at ht; rcases ht with rfl | rfl | rfl; exact h_a; exact h_b; exact h_c) b1 b2) ?_
  rintro _ w3 ⟨q, rfl, h3, hn⟩
  replace hB := hB.bs hn
  replace h_a := h_a.bs hn
  replace h_b := h_b.bs hn
  replace h_c := h_c.bs hn
  replace bl := bl.bs hn
  clear hn
  refine Lw.take (dj := 29) rfl rfl ?_
  refine Lw.val (Ex.not rfl) rfl ?_
  refine Lw.val (Ex.pickF rfl rfl) rfl ?_
  refine Lw.nil ?_
  refine Pw.thenN (Cw.out ?_)
  refine Cw.cond rfl ?_ ?_
  · intro _
    refine Cw.seq ?_
    refine Cw.region ?_
    refine Lw.callF rfl rfl (alive_c w3) ?_
    rintro _ w4 ⟨rfl, hn⟩
    replace hB := hB.bs hn
    replace h_a := h_a.bs hn
    replace h_b := h_b.bs hn
    replace h_c := h_c.bs hn
    replace bl := bl.bs hn
    refine Lw.val (Ex.assign rfl) rfl ?_
    refine Lw.nil ?_
    refine Pw.thenN (Cw.out ?_)
    refine Cw.ret ?_
    refine Pw.thenR ?_
    refine Pw.ret1 rfl rfl ?_
    exact ⟨rfl, hB⟩
  intro hq
  have h3 := h3 (by simpa using hq)
  obtain ⟨t_a, -⟩ := h3 a (by simp)
  obtain ⟨t_b, hb0⟩ := h3 b (by simp)
  obtain ⟨t_c, hc0⟩ := h3 c (by simp)
  have s_a : a.s = a.s := rfl
  have s_b : b.s = a.s := by simpa using hb0
  have s_c : c.s = a.s := by simpa using hc0
  have hok : Shapes.ok a.s = true := by simp only [tok, Bool.and_eq_true] at t_a; exact t_a.1
  clear h3 hq b1 b2 hb0 hc0
  have hl0 : ∀ j, j < 2 → ∃ q, [a.x, a.y][j]? = some q ∧ [a.x, a.y, b.x, b.y, c.x, c.y][0 + 0 * 2 + j]? = some q := fun j hj => by
    rcases (show j = 0 ∨ j = 1 by omega) with rfl | rfl <;> exact ⟨_, rfl, rfl⟩
  have hl1 : ∀ j, j < 2 → ∃ q, [b.x, b.y][j]? = some q ∧ [a.x, a.y, b.x, b.y, c.x, c.y][0 + 1 * 2 + j]? = some q := fun j hj => by
    rcases (show j = 0 ∨ j = 1 by omega) with rfl | rfl <;> exact ⟨_, rfl, rfl⟩
  have hl2 : ∀ j, j < 2 → ∃ q, [c.x, c.y][j]? = some q ∧ [a.x, a.y, b.x, b.y, c.x, c.y][0 + 2 * 2 + j]? = some q := fun j hj => by
    rcases (show j = 0 ∨ j = 1 by omega) with rfl | rfl <;> exact ⟨_, rfl, rfl⟩
  refine Cw.skip ?_
  refine Pw.thenN (Cw.out ?_)
  refine Cw.seq ?_
  refine Cw.region ?_
  refine Lw.val (Ex.idxB un_26 sz_25 rfl rfl 0 rfl (by decide)) rfl ?_
  refine Lw.val (Ex.ldAO (ds := [a.x, a.y]) (ag_25 _) (sz_25 _) rfl bl rfl hl0) rfl ?_
  refine Lw.valW (Xw.new it_25) rfl ?_
  rintro _ w ⟨rfl, b', hn, -⟩
  refine Lw.unit (Xu.stA (cs := [a.x, a.y]) rfl rfl rfl rfl h_a.one b' rfl) ?_
  rintro w ⟨b_a, hg, -⟩
  have hn := hn.grown hg (below_size hn) (by rintro _ ⟨⟩; exact Nat.le_refl _)
  clear hg b'
  replace hB := hB.bs hn
  replace h_a := h_a.bs hn
  replace h_b := h_b.bs hn
  replace h_c := h_c.bs hn
  replace bl := bl.bs hn
  clear hn
  refine Lw.nil ?_
  refine Pw.thenN (Cw.out ?_)
  refine Cw.seq ?_
  refine Cw.region ?_
  refine Lw.val (Ex.idxB un_26 sz_25 rfl rfl 1 rfl (by decide)) rfl ?_
  refine Lw.val (Ex.ldAO (ds := [b.x, b.y]) (ag_25 _) (sz_25 _) rfl bl rfl hl1) rfl ?_
  refine Lw.valW (Xw.new it_25) rfl ?_
  rintro _ w ⟨rfl, b', hn, -⟩
  refine Lw.unit (Xu.stA (cs := [b.x, b.y]) rfl rfl rfl rfl h_b.one b' rfl) ?_
  rintro w ⟨b_b, hg, -⟩
  have hn := hn.grown hg (below_size hn) (by rintro _ ⟨⟩; exact Nat.le_refl _)
  clear hg b'
  replace hB := hB.bs hn
  replace h_a := h_a.bs hn
  replace h_b := h_b.bs hn
  replace h_c := h_c.bs hn
  replace bl := bl.bs hn
  replace b_a := b_a.bs hn
  clear hn
  refine Lw.nil ?_
  refine Pw.thenN (Cw.out ?_)
  refine Cw.seq ?_
  refine Cw.region ?_
  refine Lw.val (Ex.idxB un_26 sz_25 rfl rfl 2 rfl (by decide)) rfl ?_
  refine Lw.val (Ex.ldAO (ds := [c.x, c.y]) (ag_25 _) (sz_25 _) rfl bl rfl hl2) rfl ?_
  refine Lw.valW (Xw.new it_25) rfl ?_
  rintro _ w ⟨rfl, b', hn, -⟩
  refine Lw.unit (Xu.stA (cs := [c.x, c.y]) rfl rfl rfl rfl h_c.one b' rfl) ?_
  rintro w ⟨b_c, hg, -⟩
  have hn := hn.grown hg (below_size hn) (by rintro _ ⟨⟩; exact Nat.le_refl _)
  clear hg b'
  replace hB := hB.bs hn
  replace h_a := h_a.bs hn
  replace h_b := h_b.bs hn
  replace h_c := h_c.bs hn
  replace bl := bl.bs hn
  replace b_a := b_a.bs hn
  replace b_b := b_b.bs hn
  clear hn
  refine Lw.nil ?_
  refine Pw.thenN (Cw.out ?_)
  refine Cw.seq ?_
  refine Cw.region ?_
  refine Lw.val (Ex.ldA (ag_25 _) (sz_25 _) rfl rfl (by assumption)) rfl ?_
  refine Lw.val (Ex.ldA (ag_25 _) (sz_25 _) rfl rfl (by assumption)) rfl ?_
  refine Lw.callF rfl rfl (add_p a b _ h_a h_b) ?_
  rintro r w ⟨hn, p1, rfl, h_p1, -, hz⟩
  replace hB := hB.bs hn
  replace h_a := h_a.bs hn
  replace h_b := h_b.bs hn
  replace h_c := h_c.bs hn
  replace bl := bl.bs hn
  replace b_a := b_a.bs hn
  replace b_b := b_b.bs hn
  replace b_c := b_c.bs hn
  clear hn
  have e0 := e2_no t_a t_b (s_b.trans s_a.symm)
  obtain ⟨q1, l_p1, -⟩ := hz e0
  rw [e0]
  clear hz e0
  have s_p1 := q1.trans s_a
  rw [s_a] at l_p1
  have t_p1 : tok p1.s p1.l = true := by rw [s_p1, l_p1]; exact z2_tok hok
  clear q1
  refine Lw.val (Ex.move rfl) rfl ?_
  refine Lw.val (Ex.extract (i := 0) rfl rfl) rfl ?_
  refine Lw.val (Ex.extract (i := 1) rfl rfl) rfl ?_
  refine Lw.valW (Xw.new it_25) rfl ?_
  rintro _ w ⟨rfl, b', hn, -⟩
  refine Lw.unit (Xu.stA (cs := [p1.x, p1.y]) rfl rfl rfl rfl h_p1.one b' rfl) ?_
  rintro w ⟨b_p1, hg, -⟩
  have hn := hn.grown hg (below_size hn) (by rintro _ ⟨⟩; exact Nat.le_refl _)
  clear hg b'
  replace hB := hB.bs hn
  replace h_a := h_a.bs hn
  replace h_b := h_b.bs hn
  replace h_c := h_c.bs hn
  replace bl := bl.bs hn
  replace b_a := b_a.bs hn
  replace b_b := b_b.bs hn
  replace b_c := b_c.bs hn
  replace h_p1 := h_p1.bs hn
  clear hn
  refine Lw.val (Ex.assign rfl) rfl ?_
  refine Lw.nil ?_
  refine Pw.thenN (Cw.out ?_)
  refine Cw.seq ?_
  refine Cw.region ?_
  refine Lw.val (Ex.ldA (ag_25 _) (sz_25 _) rfl rfl (by assumption)) rfl ?_
  refine Lw.val (Ex.ldA (ag_25 _) (sz_25 _) rfl rfl (by assumption)) rfl ?_
  refine Lw.callF rfl rfl (add_p b a _ h_b h_a) ?_
  rintro r w ⟨hn, p2, rfl, h_p2, -, hz⟩
  replace hB := hB.bs hn
  replace h_a := h_a.bs hn
  replace h_b := h_b.bs hn
  replace h_c := h_c.bs hn
  replace bl := bl.bs hn
  replace b_a := b_a.bs hn
  replace b_b := b_b.bs hn
  replace b_c := b_c.bs hn
  replace h_p1 := h_p1.bs hn
  replace b_p1 := b_p1.bs hn
  clear hn
  have e0 := e2_no t_b t_a (s_a.trans s_b.symm)
  obtain ⟨q1, l_p2, -⟩ := hz e0
  rw [e0]
  clear hz e0
  have s_p2 := q1.trans s_b
  rw [s_b] at l_p2
  have t_p2 : tok p2.s p2.l = true := by rw [s_p2, l_p2]; exact z2_tok hok
  clear q1
  refine Lw.val (Ex.move rfl) rfl ?_
  refine Lw.val (Ex.extract (i := 0) rfl rfl) rfl ?_
  refine Lw.val (Ex.extract (i := 1) rfl rfl) rfl ?_
  refine Lw.valW (Xw.new it_25) rfl ?_
  rintro _ w ⟨rfl, b', hn, -⟩
  refine Lw.unit (Xu.stA (cs := [p2.x, p2.y]) rfl rfl rfl rfl h_p2.one b' rfl) ?_
  rintro w ⟨b_p2, hg, -⟩
  have hn := hn.grown hg (below_size hn) (by rintro _ ⟨⟩; exact Nat.le_refl _)
  clear hg b'
  replace hB := hB.bs hn
  replace h_a := h_a.bs hn
  replace h_b := h_b.bs hn
  replace h_c := h_c.bs hn
  replace bl := bl.bs hn
  replace b_a := b_a.bs hn
  replace b_b := b_b.bs hn
  replace b_c := b_c.bs hn
  replace h_p1 := h_p1.bs hn
  replace b_p1 := b_p1.bs hn
  replace h_p2 := h_p2.bs hn
  clear hn
  refine Lw.val (Ex.assign rfl) rfl ?_
  refine Lw.nil ?_
  refine Pw.thenN (Cw.out ?_)
  refine Cw.seq ?_
  refine Cw.region ?_
  refine Lw.val (Ex.ldA (ag_25 _) (sz_25 _) rfl rfl (by assumption)) rfl ?_
  refine Lw.val (Ex.ldA (ag_25 _) (sz_25 _) rfl rfl (by assumption)) rfl ?_
  refine Lw.callF rfl rfl (add_p b c _ h_b h_c) ?_
  rintro r w ⟨hn, p3, rfl, h_p3, -, hz⟩
  replace hB := hB.bs hn
  replace h_a := h_a.bs hn
  replace h_b := h_b.bs hn
  replace h_c := h_c.bs hn
  replace bl := bl.bs hn
  replace b_a := b_a.bs hn
  replace b_b := b_b.bs hn
  replace b_c := b_c.bs hn
  replace h_p1 := h_p1.bs hn
  replace b_p1 := b_p1.bs hn
  replace h_p2 := h_p2.bs hn
  replace b_p2 := b_p2.bs hn
  clear hn
  have e0 := e2_no t_b t_c (s_c.trans s_b.symm)
  obtain ⟨q1, l_p3, -⟩ := hz e0
  rw [e0]
  clear hz e0
  have s_p3 := q1.trans s_b
  rw [s_b] at l_p3
  have t_p3 : tok p3.s p3.l = true := by rw [s_p3, l_p3]; exact z2_tok hok
  clear q1
  refine Lw.val (Ex.move rfl) rfl ?_
  refine Lw.val (Ex.extract (i := 0) rfl rfl) rfl ?_
  refine Lw.val (Ex.extract (i := 1) rfl rfl) rfl ?_
  refine Lw.valW (Xw.new it_25) rfl ?_
  rintro _ w ⟨rfl, b', hn, -⟩
  refine Lw.unit (Xu.stA (cs := [p3.x, p3.y]) rfl rfl rfl rfl h_p3.one b' rfl) ?_
  rintro w ⟨b_p3, hg, -⟩
  have hn := hn.grown hg (below_size hn) (by rintro _ ⟨⟩; exact Nat.le_refl _)
  clear hg b'
  replace hB := hB.bs hn
  replace h_a := h_a.bs hn
  replace h_b := h_b.bs hn
  replace h_c := h_c.bs hn
  replace bl := bl.bs hn
  replace b_a := b_a.bs hn
  replace b_b := b_b.bs hn
  replace b_c := b_c.bs hn
  replace h_p1 := h_p1.bs hn
  replace b_p1 := b_p1.bs hn
  replace h_p2 := h_p2.bs hn
  replace b_p2 := b_p2.bs hn
  replace h_p3 := h_p3.bs hn
  clear hn
  refine Lw.val (Ex.assign rfl) rfl ?_
  refine Lw.nil ?_
  refine Pw.thenN (Cw.out ?_)
  refine Cw.seq ?_
  refine Cw.region ?_
  refine Lw.val (Ex.ldA (ag_25 _) (sz_25 _) rfl rfl (by assumption)) rfl ?_
  refine Lw.val (Ex.ldA (ag_25 _) (sz_25 _) rfl rfl (by assumption)) rfl ?_
  refine Lw.callF rfl rfl (add_p p1 c _ h_p1 h_c) ?_
  rintro r w ⟨hn, p4, rfl, h_p4, -, hz⟩
  replace hB := hB.bs hn
  replace h_a := h_a.bs hn
  replace h_b := h_b.bs hn
  replace h_c := h_c.bs hn
  replace bl := bl.bs hn
  replace b_a := b_a.bs hn
  replace b_b := b_b.bs hn
  replace b_c := b_c.bs hn
  replace h_p1 := h_p1.bs hn
  replace b_p1 := b_p1.bs hn
  replace h_p2 := h_p2.bs hn
  replace b_p2 := b_p2.bs hn
  replace h_p3 := h_p3.bs hn
  replace b_p3 := b_p3.bs hn
  clear hn
  have e0 := e2_no t_p1 t_c (s_c.trans s_p1.symm)
  obtain ⟨q1, l_p4, -⟩ := hz e0
  rw [e0]
  clear hz e0
  have s_p4 := q1.trans s_p1
  rw [s_p1] at l_p4
  have t_p4 : tok p4.s p4.l = true := by rw [s_p4, l_p4]; exact z2_tok hok
  clear q1
  refine Lw.val (Ex.move rfl) rfl ?_
  refine Lw.val (Ex.extract (i := 0) rfl rfl) rfl ?_
  refine Lw.val (Ex.extract (i := 1) rfl rfl) rfl ?_
  refine Lw.valW (Xw.new it_25) rfl ?_
  rintro _ w ⟨rfl, b', hn, -⟩
  refine Lw.unit (Xu.stA (cs := [p4.x, p4.y]) rfl rfl rfl rfl h_p4.one b' rfl) ?_
  rintro w ⟨b_p4, hg, -⟩
  have hn := hn.grown hg (below_size hn) (by rintro _ ⟨⟩; exact Nat.le_refl _)
  clear hg b'
  replace hB := hB.bs hn
  replace h_a := h_a.bs hn
  replace h_b := h_b.bs hn
  replace h_c := h_c.bs hn
  replace bl := bl.bs hn
  replace b_a := b_a.bs hn
  replace b_b := b_b.bs hn
  replace b_c := b_c.bs hn
  replace h_p1 := h_p1.bs hn
  replace b_p1 := b_p1.bs hn
  replace h_p2 := h_p2.bs hn
  replace b_p2 := b_p2.bs hn
  replace h_p3 := h_p3.bs hn
  replace b_p3 := b_p3.bs hn
  replace h_p4 := h_p4.bs hn
  clear hn
  refine Lw.val (Ex.assign rfl) rfl ?_
  refine Lw.nil ?_
  refine Pw.thenN (Cw.out ?_)
  refine Cw.seq ?_
  refine Cw.region ?_
  refine Lw.val (Ex.ldA (ag_25 _) (sz_25 _) rfl rfl (by assumption)) rfl ?_
  refine Lw.val (Ex.ldA (ag_25 _) (sz_25 _) rfl rfl (by assumption)) rfl ?_
  refine Lw.callF rfl rfl (add_p a p3 _ h_a h_p3) ?_
  rintro r w ⟨hn, p5, rfl, h_p5, -, hz⟩
  replace hB := hB.bs hn
  replace h_a := h_a.bs hn
  replace h_b := h_b.bs hn
  replace h_c := h_c.bs hn
  replace bl := bl.bs hn
  replace b_a := b_a.bs hn
  replace b_b := b_b.bs hn
  replace b_c := b_c.bs hn
  replace h_p1 := h_p1.bs hn
  replace b_p1 := b_p1.bs hn
  replace h_p2 := h_p2.bs hn
  replace b_p2 := b_p2.bs hn
  replace h_p3 := h_p3.bs hn
  replace b_p3 := b_p3.bs hn
  replace h_p4 := h_p4.bs hn
  replace b_p4 := b_p4.bs hn
  clear hn
  have e0 := e2_no t_a t_p3 (s_p3.trans s_a.symm)
  obtain ⟨q1, l_p5, -⟩ := hz e0
  rw [e0]
  clear hz e0
  have s_p5 := q1.trans s_a
  rw [s_a] at l_p5
  have t_p5 : tok p5.s p5.l = true := by rw [s_p5, l_p5]; exact z2_tok hok
  clear q1
  refine Lw.val (Ex.move rfl) rfl ?_
  refine Lw.val (Ex.extract (i := 0) rfl rfl) rfl ?_
  refine Lw.val (Ex.extract (i := 1) rfl rfl) rfl ?_
  refine Lw.valW (Xw.new it_25) rfl ?_
  rintro _ w ⟨rfl, b', hn, -⟩
  refine Lw.unit (Xu.stA (cs := [p5.x, p5.y]) rfl rfl rfl rfl h_p5.one b' rfl) ?_
  rintro w ⟨b_p5, hg, -⟩
  have hn := hn.grown hg (below_size hn) (by rintro _ ⟨⟩; exact Nat.le_refl _)
  clear hg b'
  replace hB := hB.bs hn
  replace h_a := h_a.bs hn
  replace h_b := h_b.bs hn
  replace h_c := h_c.bs hn
  replace bl := bl.bs hn
  replace b_a := b_a.bs hn
  replace b_b := b_b.bs hn
  replace b_c := b_c.bs hn
  replace h_p1 := h_p1.bs hn
  replace b_p1 := b_p1.bs hn
  replace h_p2 := h_p2.bs hn
  replace b_p2 := b_p2.bs hn
  replace h_p3 := h_p3.bs hn
  replace b_p3 := b_p3.bs hn
  replace h_p4 := h_p4.bs hn
  replace b_p4 := b_p4.bs hn
  replace h_p5 := h_p5.bs hn
  clear hn
  refine Lw.val (Ex.assign rfl) rfl ?_
  refine Lw.nil ?_
  refine Pw.thenN (Cw.out ?_)
  refine Cw.seq ?_
  refine Cw.seq ?_
  refine Cw.region ?_
  refine Lw.val (Ex.move rfl) rfl ?_
  refine Lw.val (Ex.neq rfl rfl) rfl ?_
  refine Lw.val (Ex.move rfl) rfl ?_
  refine Lw.know 73 (v' := .bool false) rfl (congrArg Value.bool (rfl)) ?_
  refine Lw.take (dj := 73) rfl rfl ?_
  refine Lw.val (Ex.move rfl) rfl ?_
  refine Lw.take (dj := 73) rfl rfl ?_
  refine Lw.val (Ex.neq rfl rfl) rfl ?_
  refine Lw.val (Ex.pickF rfl rfl) rfl ?_
  refine Lw.val (Ex.move rfl) rfl ?_
  refine Lw.know 77 (v' := .bool false) rfl (congrArg Value.bool (rfl)) ?_
  refine Lw.take (dj := 77) rfl rfl ?_
  refine Lw.val (Ex.move rfl) rfl ?_
  refine Lw.take (dj := 77) rfl rfl ?_
  refine Lw.val (Ex.neq rfl rfl) rfl ?_
  refine Lw.val (Ex.pickF rfl rfl) rfl ?_
  refine Lw.val (Ex.move rfl) rfl ?_
  refine Lw.know 81 (v' := .bool false) rfl (congrArg Value.bool (rfl)) ?_
  refine Lw.take (dj := 81) rfl rfl ?_
  refine Lw.val (Ex.move rfl) rfl ?_
  refine Lw.take (dj := 81) rfl rfl ?_
  refine Lw.val (Ex.neq rfl rfl) rfl ?_
  refine Lw.val (Ex.pickF rfl rfl) rfl ?_
  refine Lw.val (Ex.move rfl) rfl ?_
  refine Lw.know 85 (v' := .bool false) rfl (congrArg Value.bool (rfl)) ?_
  refine Lw.take (dj := 85) rfl rfl ?_
  refine Lw.val (Ex.move rfl) rfl ?_
  refine Lw.take (dj := 85) rfl rfl ?_
  refine Lw.val (Ex.neq rfl rfl) rfl ?_
  refine Lw.val (Ex.pickF rfl rfl) rfl ?_
  refine Lw.val (Ex.move rfl) rfl ?_
  refine Lw.know 89 (v' := .bool false) rfl (congrArg Value.bool (rfl)) ?_
  refine Lw.take (dj := 89) rfl rfl ?_
  refine Lw.val (Ex.ldA (ag_25 _) (sz_25 _) rfl rfl (by assumption)) rfl ?_
  refine Lw.take (dj := 89) rfl rfl ?_
  refine Lw.val (Ex.ldA (ag_25 _) (sz_25 _) rfl rfl (by assumption)) rfl ?_
  refine Lw.take (dj := 89) rfl rfl ?_
  refine Lw.callF rfl rfl (same_c _ _ _ _ _ _ _ _ _ h_p1.1 h_p1.2 h_p2.1 h_p2.2) ?_
  rintro _ w ⟨rfl, hn⟩
  replace hB := hB.bs hn
  replace h_a := h_a.bs hn
  replace h_b := h_b.bs hn
  replace h_c := h_c.bs hn
  replace bl := bl.bs hn
  replace b_a := b_a.bs hn
  replace b_b := b_b.bs hn
  replace b_c := b_c.bs hn
  replace h_p1 := h_p1.bs hn
  replace b_p1 := b_p1.bs hn
  replace h_p2 := h_p2.bs hn
  replace b_p2 := b_p2.bs hn
  replace h_p3 := h_p3.bs hn
  replace b_p3 := b_p3.bs hn
  replace h_p4 := h_p4.bs hn
  replace b_p4 := b_p4.bs hn
  replace h_p5 := h_p5.bs hn
  replace b_p5 := b_p5.bs hn
  clear hn
  refine Lw.take (dj := 89) rfl rfl ?_
  refine Lw.val (Ex.not rfl) rfl ?_
  refine Lw.val (Ex.pickF rfl rfl) rfl ?_
  refine Lw.val (Ex.move rfl) rfl ?_
  refine Lw.know 95 (v' := .bool false) rfl (congrArg Value.bool (same_not (s_p1.trans s_p2.symm) (by rw [l_p1, l_p2]; exact z2_eq fun i _ => BitVec.add_comm _ _))) ?_
  refine Lw.take (dj := 95) rfl rfl ?_
  refine Lw.val (Ex.ldA (ag_25 _) (sz_25 _) rfl rfl (by assumption)) rfl ?_
  refine Lw.take (dj := 95) rfl rfl ?_
  refine Lw.val (Ex.ldA (ag_25 _) (sz_25 _) rfl rfl (by assumption)) rfl ?_
  refine Lw.take (dj := 95) rfl rfl ?_
  refine Lw.callF rfl rfl (same_c _ _ _ _ _ _ _ _ _ h_p4.1 h_p4.2 h_p5.1 h_p5.2) ?_
  rintro _ w ⟨rfl, hn⟩
  replace hB := hB.bs hn
  replace h_a := h_a.bs hn
  replace h_b := h_b.bs hn
  replace h_c := h_c.bs hn
  replace bl := bl.bs hn
  replace b_a := b_a.bs hn
  replace b_b := b_b.bs hn
  replace b_c := b_c.bs hn
  replace h_p1 := h_p1.bs hn
  replace b_p1 := b_p1.bs hn
  replace h_p2 := h_p2.bs hn
  replace b_p2 := b_p2.bs hn
  replace h_p3 := h_p3.bs hn
  replace b_p3 := b_p3.bs hn
  replace h_p4 := h_p4.bs hn
  replace b_p4 := b_p4.bs hn
  replace h_p5 := h_p5.bs hn
  replace b_p5 := b_p5.bs hn
  clear hn
  refine Lw.take (dj := 95) rfl rfl ?_
  refine Lw.val (Ex.not rfl) rfl ?_
  refine Lw.val (Ex.pickF rfl rfl) rfl ?_
  refine Lw.nil ?_
  refine Pw.thenN (Cw.out ?_)
  refine Cw.condB rfl false (same_not (s_p4.trans s_p5.symm) (by rw [l_p4, l_p5, l_p1, l_p3]; exact z2_eq fun i hi => by rw [z2_at hi, z2_at hi]; exact BitVec.add_assoc _ _ _)) ?_
  refine Cw.skip ?_
  refine Pw.thenN (Cw.out ?_)
  refine Cw.seq ?_
  refine Cw.region ?_
  refine Lw.val (Ex.ldA (ag_25 _) (sz_25 _) rfl rfl (by assumption)) rfl ?_
  refine Lw.val (Ex.ldA (ag_25 _) (sz_25 _) rfl rfl (by assumption)) rfl ?_
  clear h_p1 b_p1 h_p2 b_p2 h_p4 b_p4 h_p5 b_p5 l_p1 l_p2 l_p4 l_p5
  refine Lw.callF rfl rfl (mul_p a b _ h_a h_b) ?_
  rintro r w ⟨hn, r1, rfl, h_r1, -, hz⟩
  replace hB := hB.bs hn
  replace h_a := h_a.bs hn
  replace h_b := h_b.bs hn
  replace h_c := h_c.bs hn
  replace bl := bl.bs hn
  replace b_a := b_a.bs hn
  replace b_b := b_b.bs hn
  replace b_c := b_c.bs hn
  replace h_p3 := h_p3.bs hn
  replace b_p3 := b_p3.bs hn
  clear hn
  have e0 := e2_no t_a t_b (s_b.trans s_a.symm)
  obtain ⟨q1, l_r1, -⟩ := hz e0
  rw [e0]
  clear hz e0
  have s_r1 := q1.trans s_a
  rw [s_a] at l_r1
  have t_r1 : tok r1.s r1.l = true := by rw [s_r1, l_r1]; exact z2_tok hok
  clear q1
  refine Lw.val (Ex.move rfl) rfl ?_
  refine Lw.val (Ex.extract (i := 0) rfl rfl) rfl ?_
  refine Lw.val (Ex.extract (i := 1) rfl rfl) rfl ?_
  refine Lw.valW (Xw.new it_25) rfl ?_
  rintro _ w ⟨rfl, b', hn, -⟩
  refine Lw.unit (Xu.stA (cs := [r1.x, r1.y]) rfl rfl rfl rfl h_r1.one b' rfl) ?_
  rintro w ⟨b_r1, hg, -⟩
  have hn := hn.grown hg (below_size hn) (by rintro _ ⟨⟩; exact Nat.le_refl _)
  clear hg b'
  replace hB := hB.bs hn
  replace h_a := h_a.bs hn
  replace h_b := h_b.bs hn
  replace h_c := h_c.bs hn
  replace bl := bl.bs hn
  replace b_a := b_a.bs hn
  replace b_b := b_b.bs hn
  replace b_c := b_c.bs hn
  replace h_p3 := h_p3.bs hn
  replace b_p3 := b_p3.bs hn
  replace h_r1 := h_r1.bs hn
  clear hn
  refine Lw.val (Ex.assign rfl) rfl ?_
  refine Lw.nil ?_
  refine Pw.thenN (Cw.out ?_)
  refine Cw.seq ?_
  refine Cw.region ?_
  refine Lw.val (Ex.ldA (ag_25 _) (sz_25 _) rfl rfl (by assumption)) rfl ?_
  refine Lw.val (Ex.ldA (ag_25 _) (sz_25 _) rfl rfl (by assumption)) rfl ?_
  refine Lw.callF rfl rfl (mul_p b a _ h_b h_a) ?_
  rintro r w ⟨hn, r2, rfl, h_r2, -, hz⟩
  replace hB := hB.bs hn
  replace h_a := h_a.bs hn
  replace h_b := h_b.bs hn
  replace h_c := h_c.bs hn
  replace bl := bl.bs hn
  replace b_a := b_a.bs hn
  replace b_b := b_b.bs hn
  replace b_c := b_c.bs hn
  replace h_p3 := h_p3.bs hn
  replace b_p3 := b_p3.bs hn
  replace h_r1 := h_r1.bs hn
  replace b_r1 := b_r1.bs hn
  clear hn
  have e0 := e2_no t_b t_a (s_a.trans s_b.symm)
  obtain ⟨q1, l_r2, -⟩ := hz e0
  rw [e0]
  clear hz e0
  have s_r2 := q1.trans s_b
  rw [s_b] at l_r2
  have t_r2 : tok r2.s r2.l = true := by rw [s_r2, l_r2]; exact z2_tok hok
  clear q1
  refine Lw.val (Ex.move rfl) rfl ?_
  refine Lw.val (Ex.extract (i := 0) rfl rfl) rfl ?_
  refine Lw.val (Ex.extract (i := 1) rfl rfl) rfl ?_
  refine Lw.valW (Xw.new it_25) rfl ?_
  rintro _ w ⟨rfl, b', hn, -⟩
  refine Lw.unit (Xu.stA (cs := [r2.x, r2.y]) rfl rfl rfl rfl h_r2.one b' rfl) ?_
  rintro w ⟨b_r2, hg, -⟩
  have hn := hn.grown hg (below_size hn) (by rintro _ ⟨⟩; exact Nat.le_refl _)
  clear hg b'
  replace hB := hB.bs hn
  replace h_a := h_a.bs hn
  replace h_b := h_b.bs hn
  replace h_c := h_c.bs hn
  replace bl := bl.bs hn
  replace b_a := b_a.bs hn
  replace b_b := b_b.bs hn
  replace b_c := b_c.bs hn
  replace h_p3 := h_p3.bs hn
  replace b_p3 := b_p3.bs hn
  replace h_r1 := h_r1.bs hn
  replace b_r1 := b_r1.bs hn
  replace h_r2 := h_r2.bs hn
  clear hn
  refine Lw.val (Ex.assign rfl) rfl ?_
  refine Lw.nil ?_
  refine Pw.thenN (Cw.out ?_)
  refine Cw.seq ?_
  refine Cw.region ?_
  refine Lw.val (Ex.ldA (ag_25 _) (sz_25 _) rfl rfl (by assumption)) rfl ?_
  refine Lw.val (Ex.ldA (ag_25 _) (sz_25 _) rfl rfl (by assumption)) rfl ?_
  refine Lw.callF rfl rfl (mul_p a c _ h_a h_c) ?_
  rintro r w ⟨hn, r3, rfl, h_r3, -, hz⟩
  replace hB := hB.bs hn
  replace h_a := h_a.bs hn
  replace h_b := h_b.bs hn
  replace h_c := h_c.bs hn
  replace bl := bl.bs hn
  replace b_a := b_a.bs hn
  replace b_b := b_b.bs hn
  replace b_c := b_c.bs hn
  replace h_p3 := h_p3.bs hn
  replace b_p3 := b_p3.bs hn
  replace h_r1 := h_r1.bs hn
  replace b_r1 := b_r1.bs hn
  replace h_r2 := h_r2.bs hn
  replace b_r2 := b_r2.bs hn
  clear hn
  have e0 := e2_no t_a t_c (s_c.trans s_a.symm)
  obtain ⟨q1, l_r3, -⟩ := hz e0
  rw [e0]
  clear hz e0
  have s_r3 := q1.trans s_a
  rw [s_a] at l_r3
  have t_r3 : tok r3.s r3.l = true := by rw [s_r3, l_r3]; exact z2_tok hok
  clear q1
  refine Lw.val (Ex.move rfl) rfl ?_
  refine Lw.val (Ex.extract (i := 0) rfl rfl) rfl ?_
  refine Lw.val (Ex.extract (i := 1) rfl rfl) rfl ?_
  refine Lw.valW (Xw.new it_25) rfl ?_
  rintro _ w ⟨rfl, b', hn, -⟩
  refine Lw.unit (Xu.stA (cs := [r3.x, r3.y]) rfl rfl rfl rfl h_r3.one b' rfl) ?_
  rintro w ⟨b_r3, hg, -⟩
  have hn := hn.grown hg (below_size hn) (by rintro _ ⟨⟩; exact Nat.le_refl _)
  clear hg b'
  replace hB := hB.bs hn
  replace h_a := h_a.bs hn
  replace h_b := h_b.bs hn
  replace h_c := h_c.bs hn
  replace bl := bl.bs hn
  replace b_a := b_a.bs hn
  replace b_b := b_b.bs hn
  replace b_c := b_c.bs hn
  replace h_p3 := h_p3.bs hn
  replace b_p3 := b_p3.bs hn
  replace h_r1 := h_r1.bs hn
  replace b_r1 := b_r1.bs hn
  replace h_r2 := h_r2.bs hn
  replace b_r2 := b_r2.bs hn
  replace h_r3 := h_r3.bs hn
  clear hn
  refine Lw.val (Ex.assign rfl) rfl ?_
  refine Lw.nil ?_
  refine Pw.thenN (Cw.out ?_)
  refine Cw.seq ?_
  refine Cw.region ?_
  refine Lw.val (Ex.ldA (ag_25 _) (sz_25 _) rfl rfl (by assumption)) rfl ?_
  refine Lw.val (Ex.ldA (ag_25 _) (sz_25 _) rfl rfl (by assumption)) rfl ?_
  refine Lw.callF rfl rfl (mul_p a p3 _ h_a h_p3) ?_
  rintro r w ⟨hn, r4, rfl, h_r4, -, hz⟩
  replace hB := hB.bs hn
  replace h_a := h_a.bs hn
  replace h_b := h_b.bs hn
  replace h_c := h_c.bs hn
  replace bl := bl.bs hn
  replace b_a := b_a.bs hn
  replace b_b := b_b.bs hn
  replace b_c := b_c.bs hn
  replace h_p3 := h_p3.bs hn
  replace b_p3 := b_p3.bs hn
  replace h_r1 := h_r1.bs hn
  replace b_r1 := b_r1.bs hn
  replace h_r2 := h_r2.bs hn
  replace b_r2 := b_r2.bs hn
  replace h_r3 := h_r3.bs hn
  replace b_r3 := b_r3.bs hn
  clear hn
  have e0 := e2_no t_a t_p3 (s_p3.trans s_a.symm)
  obtain ⟨q1, l_r4, -⟩ := hz e0
  rw [e0]
  clear hz e0
  have s_r4 := q1.trans s_a
  rw [s_a] at l_r4
  have t_r4 : tok r4.s r4.l = true := by rw [s_r4, l_r4]; exact z2_tok hok
  clear q1
  refine Lw.val (Ex.move rfl) rfl ?_
  refine Lw.val (Ex.extract (i := 0) rfl rfl) rfl ?_
  refine Lw.val (Ex.extract (i := 1) rfl rfl) rfl ?_
  refine Lw.valW (Xw.new it_25) rfl ?_
  rintro _ w ⟨rfl, b', hn, -⟩
  refine Lw.unit (Xu.stA (cs := [r4.x, r4.y]) rfl rfl rfl rfl h_r4.one b' rfl) ?_
  rintro w ⟨b_r4, hg, -⟩
  have hn := hn.grown hg (below_size hn) (by rintro _ ⟨⟩; exact Nat.le_refl _)
  clear hg b'
  replace hB := hB.bs hn
  replace h_a := h_a.bs hn
  replace h_b := h_b.bs hn
  replace h_c := h_c.bs hn
  replace bl := bl.bs hn
  replace b_a := b_a.bs hn
  replace b_b := b_b.bs hn
  replace b_c := b_c.bs hn
  replace h_p3 := h_p3.bs hn
  replace b_p3 := b_p3.bs hn
  replace h_r1 := h_r1.bs hn
  replace b_r1 := b_r1.bs hn
  replace h_r2 := h_r2.bs hn
  replace b_r2 := b_r2.bs hn
  replace h_r3 := h_r3.bs hn
  replace b_r3 := b_r3.bs hn
  replace h_r4 := h_r4.bs hn
  clear hn
  refine Lw.val (Ex.assign rfl) rfl ?_
  refine Lw.nil ?_
  refine Pw.thenN (Cw.out ?_)
  refine Cw.seq ?_
  refine Cw.region ?_
  refine Lw.val (Ex.ldA (ag_25 _) (sz_25 _) rfl rfl (by assumption)) rfl ?_
  refine Lw.val (Ex.ldA (ag_25 _) (sz_25 _) rfl rfl (by assumption)) rfl ?_
  refine Lw.callF rfl rfl (add_p r1 r3 _ h_r1 h_r3) ?_
  rintro r w ⟨hn, r5, rfl, h_r5, -, hz⟩
  replace hB := hB.bs hn
  replace h_a := h_a.bs hn
  replace h_b := h_b.bs hn
  replace h_c := h_c.bs hn
  replace bl := bl.bs hn
  replace b_a := b_a.bs hn
  replace b_b := b_b.bs hn
  replace b_c := b_c.bs hn
  replace h_p3 := h_p3.bs hn
  replace b_p3 := b_p3.bs hn
  replace h_r1 := h_r1.bs hn
  replace b_r1 := b_r1.bs hn
  replace h_r2 := h_r2.bs hn
  replace b_r2 := b_r2.bs hn
  replace h_r3 := h_r3.bs hn
  replace b_r3 := b_r3.bs hn
  replace h_r4 := h_r4.bs hn
  replace b_r4 := b_r4.bs hn
  clear hn
  have e0 := e2_no t_r1 t_r3 (s_r3.trans s_r1.symm)
  obtain ⟨q1, l_r5, -⟩ := hz e0
  rw [e0]
  clear hz e0
  have s_r5 := q1.trans s_r1
  rw [s_r1] at l_r5
  have t_r5 : tok r5.s r5.l = true := by rw [s_r5, l_r5]; exact z2_tok hok
  clear q1
  refine Lw.val (Ex.move rfl) rfl ?_
  refine Lw.val (Ex.extract (i := 0) rfl rfl) rfl ?_
  refine Lw.val (Ex.extract (i := 1) rfl rfl) rfl ?_
  refine Lw.valW (Xw.new it_25) rfl ?_
  rintro _ w ⟨rfl, b', hn, -⟩
  refine Lw.unit (Xu.stA (cs := [r5.x, r5.y]) rfl rfl rfl rfl h_r5.one b' rfl) ?_
  rintro w ⟨b_r5, hg, -⟩
  have hn := hn.grown hg (below_size hn) (by rintro _ ⟨⟩; exact Nat.le_refl _)
  clear hg b'
  replace hB := hB.bs hn
  replace h_a := h_a.bs hn
  replace h_b := h_b.bs hn
  replace h_c := h_c.bs hn
  replace bl := bl.bs hn
  replace b_a := b_a.bs hn
  replace b_b := b_b.bs hn
  replace b_c := b_c.bs hn
  replace h_p3 := h_p3.bs hn
  replace b_p3 := b_p3.bs hn
  replace h_r1 := h_r1.bs hn
  replace b_r1 := b_r1.bs hn
  replace h_r2 := h_r2.bs hn
  replace b_r2 := b_r2.bs hn
  replace h_r3 := h_r3.bs hn
  replace b_r3 := b_r3.bs hn
  replace h_r4 := h_r4.bs hn
  replace b_r4 := b_r4.bs hn
  replace h_r5 := h_r5.bs hn
  clear hn
  refine Lw.val (Ex.assign rfl) rfl ?_
  refine Lw.nil ?_
  refine Pw.thenN (Cw.out ?_)
  refine Cw.seq ?_
  refine Cw.region ?_
  refine Lw.val (Ex.ldA (ag_25 _) (sz_25 _) rfl rfl (by assumption)) rfl ?_
  refine Lw.val (Ex.ldA (ag_25 _) (sz_25 _) rfl rfl (by assumption)) rfl ?_
  refine Lw.callF rfl rfl (mul_p r1 c _ h_r1 h_c) ?_
  rintro r w ⟨hn, r6, rfl, h_r6, -, hz⟩
  replace hB := hB.bs hn
  replace h_a := h_a.bs hn
  replace h_b := h_b.bs hn
  replace h_c := h_c.bs hn
  replace bl := bl.bs hn
  replace b_a := b_a.bs hn
  replace b_b := b_b.bs hn
  replace b_c := b_c.bs hn
  replace h_p3 := h_p3.bs hn
  replace b_p3 := b_p3.bs hn
  replace h_r1 := h_r1.bs hn
  replace b_r1 := b_r1.bs hn
  replace h_r2 := h_r2.bs hn
  replace b_r2 := b_r2.bs hn
  replace h_r3 := h_r3.bs hn
  replace b_r3 := b_r3.bs hn
  replace h_r4 := h_r4.bs hn
  replace b_r4 := b_r4.bs hn
  replace h_r5 := h_r5.bs hn
  replace b_r5 := b_r5.bs hn
  clear hn
  have e0 := e2_no t_r1 t_c (s_c.trans s_r1.symm)
  obtain ⟨q1, l_r6, -⟩ := hz e0
  rw [e0]
  clear hz e0
  have s_r6 := q1.trans s_r1
  rw [s_r1] at l_r6
  have t_r6 : tok r6.s r6.l = true := by rw [s_r6, l_r6]; exact z2_tok hok
  clear q1
  refine Lw.val (Ex.move rfl) rfl ?_
  refine Lw.val (Ex.extract (i := 0) rfl rfl) rfl ?_
  refine Lw.val (Ex.extract (i := 1) rfl rfl) rfl ?_
  refine Lw.valW (Xw.new it_25) rfl ?_
  rintro _ w ⟨rfl, b', hn, -⟩
  refine Lw.unit (Xu.stA (cs := [r6.x, r6.y]) rfl rfl rfl rfl h_r6.one b' rfl) ?_
  rintro w ⟨b_r6, hg, -⟩
  have hn := hn.grown hg (below_size hn) (by rintro _ ⟨⟩; exact Nat.le_refl _)
  clear hg b'
  replace hB := hB.bs hn
  replace h_a := h_a.bs hn
  replace h_b := h_b.bs hn
  replace h_c := h_c.bs hn
  replace bl := bl.bs hn
  replace b_a := b_a.bs hn
  replace b_b := b_b.bs hn
  replace b_c := b_c.bs hn
  replace h_p3 := h_p3.bs hn
  replace b_p3 := b_p3.bs hn
  replace h_r1 := h_r1.bs hn
  replace b_r1 := b_r1.bs hn
  replace h_r2 := h_r2.bs hn
  replace b_r2 := b_r2.bs hn
  replace h_r3 := h_r3.bs hn
  replace b_r3 := b_r3.bs hn
  replace h_r4 := h_r4.bs hn
  replace b_r4 := b_r4.bs hn
  replace h_r5 := h_r5.bs hn
  replace b_r5 := b_r5.bs hn
  replace h_r6 := h_r6.bs hn
  clear hn
  refine Lw.val (Ex.assign rfl) rfl ?_
  refine Lw.nil ?_
  refine Pw.thenN (Cw.out ?_)
  refine Cw.seq ?_
  refine Cw.region ?_
  refine Lw.val (Ex.ldA (ag_25 _) (sz_25 _) rfl rfl (by assumption)) rfl ?_
  refine Lw.val (Ex.ldA (ag_25 _) (sz_25 _) rfl rfl (by assumption)) rfl ?_
  refine Lw.callF rfl rfl (mul_p b c _ h_b h_c) ?_
  rintro r w ⟨hn, r7, rfl, h_r7, -, hz⟩
  replace hB := hB.bs hn
  replace h_a := h_a.bs hn
  replace h_b := h_b.bs hn
  replace h_c := h_c.bs hn
  replace bl := bl.bs hn
  replace b_a := b_a.bs hn
  replace b_b := b_b.bs hn
  replace b_c := b_c.bs hn
  replace h_p3 := h_p3.bs hn
  replace b_p3 := b_p3.bs hn
  replace h_r1 := h_r1.bs hn
  replace b_r1 := b_r1.bs hn
  replace h_r2 := h_r2.bs hn
  replace b_r2 := b_r2.bs hn
  replace h_r3 := h_r3.bs hn
  replace b_r3 := b_r3.bs hn
  replace h_r4 := h_r4.bs hn
  replace b_r4 := b_r4.bs hn
  replace h_r5 := h_r5.bs hn
  replace b_r5 := b_r5.bs hn
  replace h_r6 := h_r6.bs hn
  replace b_r6 := b_r6.bs hn
  clear hn
  have e0 := e2_no t_b t_c (s_c.trans s_b.symm)
  obtain ⟨q1, l_r7, -⟩ := hz e0
  rw [e0]
  clear hz e0
  have s_r7 := q1.trans s_b
  rw [s_b] at l_r7
  have t_r7 : tok r7.s r7.l = true := by rw [s_r7, l_r7]; exact z2_tok hok
  clear q1
  refine Lw.val (Ex.move rfl) rfl ?_
  refine Lw.val (Ex.extract (i := 0) rfl rfl) rfl ?_
  refine Lw.val (Ex.extract (i := 1) rfl rfl) rfl ?_
  refine Lw.valW (Xw.new it_25) rfl ?_
  rintro _ w ⟨rfl, b', hn, -⟩
  refine Lw.unit (Xu.stA (cs := [r7.x, r7.y]) rfl rfl rfl rfl h_r7.one b' rfl) ?_
  rintro w ⟨b_r7, hg, -⟩
  have hn := hn.grown hg (below_size hn) (by rintro _ ⟨⟩; exact Nat.le_refl _)
  clear hg b'
  replace hB := hB.bs hn
  replace h_a := h_a.bs hn
  replace h_b := h_b.bs hn
  replace h_c := h_c.bs hn
  replace bl := bl.bs hn
  replace b_a := b_a.bs hn
  replace b_b := b_b.bs hn
  replace b_c := b_c.bs hn
  replace h_p3 := h_p3.bs hn
  replace b_p3 := b_p3.bs hn
  replace h_r1 := h_r1.bs hn
  replace b_r1 := b_r1.bs hn
  replace h_r2 := h_r2.bs hn
  replace b_r2 := b_r2.bs hn
  replace h_r3 := h_r3.bs hn
  replace b_r3 := b_r3.bs hn
  replace h_r4 := h_r4.bs hn
  replace b_r4 := b_r4.bs hn
  replace h_r5 := h_r5.bs hn
  replace b_r5 := b_r5.bs hn
  replace h_r6 := h_r6.bs hn
  replace b_r6 := b_r6.bs hn
  replace h_r7 := h_r7.bs hn
  clear hn
  refine Lw.val (Ex.assign rfl) rfl ?_
  refine Lw.nil ?_
  refine Pw.thenN (Cw.out ?_)
  refine Cw.seq ?_
  refine Cw.region ?_
  refine Lw.val (Ex.ldA (ag_25 _) (sz_25 _) rfl rfl (by assumption)) rfl ?_
  refine Lw.val (Ex.ldA (ag_25 _) (sz_25 _) rfl rfl (by assumption)) rfl ?_
  refine Lw.callF rfl rfl (mul_p a r7 _ h_a h_r7) ?_
  rintro r w ⟨hn, r8, rfl, h_r8, -, hz⟩
  replace hB := hB.bs hn
  replace h_a := h_a.bs hn
  replace h_b := h_b.bs hn
  replace h_c := h_c.bs hn
  replace bl := bl.bs hn
  replace b_a := b_a.bs hn
  replace b_b := b_b.bs hn
  replace b_c := b_c.bs hn
  replace h_p3 := h_p3.bs hn
  replace b_p3 := b_p3.bs hn
  replace h_r1 := h_r1.bs hn
  replace b_r1 := b_r1.bs hn
  replace h_r2 := h_r2.bs hn
  replace b_r2 := b_r2.bs hn
  replace h_r3 := h_r3.bs hn
  replace b_r3 := b_r3.bs hn
  replace h_r4 := h_r4.bs hn
  replace b_r4 := b_r4.bs hn
  replace h_r5 := h_r5.bs hn
  replace b_r5 := b_r5.bs hn
  replace h_r6 := h_r6.bs hn
  replace b_r6 := b_r6.bs hn
  replace h_r7 := h_r7.bs hn
  replace b_r7 := b_r7.bs hn
  clear hn
  have e0 := e2_no t_a t_r7 (s_r7.trans s_a.symm)
  obtain ⟨q1, l_r8, -⟩ := hz e0
  rw [e0]
  clear hz e0
  have s_r8 := q1.trans s_a
  rw [s_a] at l_r8
  have t_r8 : tok r8.s r8.l = true := by rw [s_r8, l_r8]; exact z2_tok hok
  clear q1
  refine Lw.val (Ex.move rfl) rfl ?_
  refine Lw.val (Ex.extract (i := 0) rfl rfl) rfl ?_
  refine Lw.val (Ex.extract (i := 1) rfl rfl) rfl ?_
  refine Lw.valW (Xw.new it_25) rfl ?_
  rintro _ w ⟨rfl, b', hn, -⟩
  refine Lw.unit (Xu.stA (cs := [r8.x, r8.y]) rfl rfl rfl rfl h_r8.one b' rfl) ?_
  rintro w ⟨b_r8, hg, -⟩
  have hn := hn.grown hg (below_size hn) (by rintro _ ⟨⟩; exact Nat.le_refl _)
  clear hg b'
  replace hB := hB.bs hn
  replace h_a := h_a.bs hn
  replace h_b := h_b.bs hn
  replace h_c := h_c.bs hn
  replace bl := bl.bs hn
  replace b_a := b_a.bs hn
  replace b_b := b_b.bs hn
  replace b_c := b_c.bs hn
  replace h_p3 := h_p3.bs hn
  replace b_p3 := b_p3.bs hn
  replace h_r1 := h_r1.bs hn
  replace b_r1 := b_r1.bs hn
  replace h_r2 := h_r2.bs hn
  replace b_r2 := b_r2.bs hn
  replace h_r3 := h_r3.bs hn
  replace b_r3 := b_r3.bs hn
  replace h_r4 := h_r4.bs hn
  replace b_r4 := b_r4.bs hn
  replace h_r5 := h_r5.bs hn
  replace b_r5 := b_r5.bs hn
  replace h_r6 := h_r6.bs hn
  replace b_r6 := b_r6.bs hn
  replace h_r7 := h_r7.bs hn
  replace b_r7 := b_r7.bs hn
  replace h_r8 := h_r8.bs hn
  clear hn
  refine Lw.val (Ex.assign rfl) rfl ?_
  refine Lw.nil ?_
  refine Pw.thenN (Cw.out ?_)
  refine Cw.seq ?_
  refine Cw.region ?_
  refine Lw.val (Ex.move rfl) rfl ?_
  refine Lw.val (Ex.eql rfl rfl) rfl ?_
  refine Lw.val (Ex.move rfl) rfl ?_
  refine Lw.know 151 (v' := .bool true) rfl (congrArg Value.bool (rfl)) ?_
  refine Lw.take (dj := 151) rfl rfl ?_
  refine Lw.val (Ex.move rfl) rfl ?_
  refine Lw.take (dj := 151) rfl rfl ?_
  refine Lw.val (Ex.eql rfl rfl) rfl ?_
  refine Lw.val (Ex.pickT rfl rfl) rfl ?_
  refine Lw.val (Ex.move rfl) rfl ?_
  refine Lw.know 155 (v' := .bool true) rfl (congrArg Value.bool (rfl)) ?_
  refine Lw.take (dj := 155) rfl rfl ?_
  refine Lw.val (Ex.move rfl) rfl ?_
  refine Lw.take (dj := 155) rfl rfl ?_
  refine Lw.val (Ex.eql rfl rfl) rfl ?_
  refine Lw.val (Ex.pickT rfl rfl) rfl ?_
  refine Lw.val (Ex.move rfl) rfl ?_
  refine Lw.know 159 (v' := .bool true) rfl (congrArg Value.bool (rfl)) ?_
  refine Lw.take (dj := 159) rfl rfl ?_
  refine Lw.val (Ex.move rfl) rfl ?_
  refine Lw.take (dj := 159) rfl rfl ?_
  refine Lw.val (Ex.eql rfl rfl) rfl ?_
  refine Lw.val (Ex.pickT rfl rfl) rfl ?_
  refine Lw.val (Ex.move rfl) rfl ?_
  refine Lw.know 163 (v' := .bool true) rfl (congrArg Value.bool (rfl)) ?_
  refine Lw.take (dj := 163) rfl rfl ?_
  refine Lw.val (Ex.move rfl) rfl ?_
  refine Lw.take (dj := 163) rfl rfl ?_
  refine Lw.val (Ex.eql rfl rfl) rfl ?_
  refine Lw.val (Ex.pickT rfl rfl) rfl ?_
  refine Lw.val (Ex.move rfl) rfl ?_
  refine Lw.know 167 (v' := .bool true) rfl (congrArg Value.bool (rfl)) ?_
  refine Lw.take (dj := 167) rfl rfl ?_
  refine Lw.val (Ex.move rfl) rfl ?_
  refine Lw.take (dj := 167) rfl rfl ?_
  refine Lw.val (Ex.eql rfl rfl) rfl ?_
  refine Lw.val (Ex.pickT rfl rfl) rfl ?_
  refine Lw.val (Ex.move rfl) rfl ?_
  refine Lw.know 171 (v' := .bool true) rfl (congrArg Value.bool (rfl)) ?_
  refine Lw.take (dj := 171) rfl rfl ?_
  refine Lw.val (Ex.move rfl) rfl ?_
  refine Lw.take (dj := 171) rfl rfl ?_
  refine Lw.val (Ex.eql rfl rfl) rfl ?_
  refine Lw.val (Ex.pickT rfl rfl) rfl ?_
  refine Lw.val (Ex.move rfl) rfl ?_
  refine Lw.know 175 (v' := .bool true) rfl (congrArg Value.bool (rfl)) ?_
  refine Lw.take (dj := 175) rfl rfl ?_
  refine Lw.val (Ex.move rfl) rfl ?_
  refine Lw.take (dj := 175) rfl rfl ?_
  refine Lw.val (Ex.eql rfl rfl) rfl ?_
  refine Lw.val (Ex.pickT rfl rfl) rfl ?_
  refine Lw.val (Ex.move rfl) rfl ?_
  refine Lw.know 179 (v' := .bool true) rfl (congrArg Value.bool (rfl)) ?_
  refine Lw.take (dj := 179) rfl rfl ?_
  refine Lw.val (Ex.ldA (ag_25 _) (sz_25 _) rfl rfl (by assumption)) rfl ?_
  refine Lw.take (dj := 179) rfl rfl ?_
  refine Lw.val (Ex.ldA (ag_25 _) (sz_25 _) rfl rfl (by assumption)) rfl ?_
  refine Lw.take (dj := 179) rfl rfl ?_
  refine Lw.callF rfl rfl (same_c _ _ _ _ _ _ _ _ _ h_r1.1 h_r1.2 h_r2.1 h_r2.2) ?_
  rintro _ w ⟨rfl, hn⟩
  replace hB := hB.bs hn
  replace h_a := h_a.bs hn
  replace h_b := h_b.bs hn
  replace h_c := h_c.bs hn
  replace bl := bl.bs hn
  replace b_a := b_a.bs hn
  replace b_b := b_b.bs hn
  replace b_c := b_c.bs hn
  replace h_p3 := h_p3.bs hn
  replace b_p3 := b_p3.bs hn
  replace h_r1 := h_r1.bs hn
  replace b_r1 := b_r1.bs hn
  replace h_r2 := h_r2.bs hn
  replace b_r2 := b_r2.bs hn
  replace h_r3 := h_r3.bs hn
  replace b_r3 := b_r3.bs hn
  replace h_r4 := h_r4.bs hn
  replace b_r4 := b_r4.bs hn
  replace h_r5 := h_r5.bs hn
  replace b_r5 := b_r5.bs hn
  replace h_r6 := h_r6.bs hn
  replace b_r6 := b_r6.bs hn
  replace h_r7 := h_r7.bs hn
  replace b_r7 := b_r7.bs hn
  replace h_r8 := h_r8.bs hn
  replace b_r8 := b_r8.bs hn
  clear hn
  refine Lw.val (Ex.pickT rfl rfl) rfl ?_
  refine Lw.val (Ex.move rfl) rfl ?_
  refine Lw.know 184 (v' := .bool true) rfl (congrArg Value.bool (same_yes (s_r1.trans s_r2.symm) (by rw [l_r1, l_r2]; exact z2_eq fun i _ => BitVec.mul_comm _ _))) ?_
  refine Lw.take (dj := 184) rfl rfl ?_
  refine Lw.val (Ex.ldA (ag_25 _) (sz_25 _) rfl rfl (by assumption)) rfl ?_
  refine Lw.take (dj := 184) rfl rfl ?_
  refine Lw.val (Ex.ldA (ag_25 _) (sz_25 _) rfl rfl (by assumption)) rfl ?_
  refine Lw.take (dj := 184) rfl rfl ?_
  refine Lw.callF rfl rfl (same_c _ _ _ _ _ _ _ _ _ h_r4.1 h_r4.2 h_r5.1 h_r5.2) ?_
  rintro _ w ⟨rfl, hn⟩
  replace hB := hB.bs hn
  replace h_a := h_a.bs hn
  replace h_b := h_b.bs hn
  replace h_c := h_c.bs hn
  replace bl := bl.bs hn
  replace b_a := b_a.bs hn
  replace b_b := b_b.bs hn
  replace b_c := b_c.bs hn
  replace h_p3 := h_p3.bs hn
  replace b_p3 := b_p3.bs hn
  replace h_r1 := h_r1.bs hn
  replace b_r1 := b_r1.bs hn
  replace h_r2 := h_r2.bs hn
  replace b_r2 := b_r2.bs hn
  replace h_r3 := h_r3.bs hn
  replace b_r3 := b_r3.bs hn
  replace h_r4 := h_r4.bs hn
  replace b_r4 := b_r4.bs hn
  replace h_r5 := h_r5.bs hn
  replace b_r5 := b_r5.bs hn
  replace h_r6 := h_r6.bs hn
  replace b_r6 := b_r6.bs hn
  replace h_r7 := h_r7.bs hn
  replace b_r7 := b_r7.bs hn
  replace h_r8 := h_r8.bs hn
  replace b_r8 := b_r8.bs hn
  clear hn
  refine Lw.val (Ex.pickT rfl rfl) rfl ?_
  refine Lw.val (Ex.move rfl) rfl ?_
  refine Lw.know 189 (v' := .bool true) rfl (congrArg Value.bool (same_yes (s_r4.trans s_r5.symm) (by rw [l_r4, l_r5, l_r1, l_r3, l_p3]; exact z2_eq fun i hi => by rw [z2_at hi, z2_at hi, z2_at hi]; exact BitVec.mul_add))) ?_
  refine Lw.take (dj := 189) rfl rfl ?_
  refine Lw.val (Ex.ldA (ag_25 _) (sz_25 _) rfl rfl (by assumption)) rfl ?_
  refine Lw.take (dj := 189) rfl rfl ?_
  refine Lw.val (Ex.ldA (ag_25 _) (sz_25 _) rfl rfl (by assumption)) rfl ?_
  refine Lw.take (dj := 189) rfl rfl ?_
  refine Lw.callF rfl rfl (same_c _ _ _ _ _ _ _ _ _ h_r6.1 h_r6.2 h_r8.1 h_r8.2) ?_
  rintro _ w ⟨rfl, hn⟩
  replace hB := hB.bs hn
  replace h_a := h_a.bs hn
  replace h_b := h_b.bs hn
  replace h_c := h_c.bs hn
  replace bl := bl.bs hn
  replace b_a := b_a.bs hn
  replace b_b := b_b.bs hn
  replace b_c := b_c.bs hn
  replace h_p3 := h_p3.bs hn
  replace b_p3 := b_p3.bs hn
  replace h_r1 := h_r1.bs hn
  replace b_r1 := b_r1.bs hn
  replace h_r2 := h_r2.bs hn
  replace b_r2 := b_r2.bs hn
  replace h_r3 := h_r3.bs hn
  replace b_r3 := b_r3.bs hn
  replace h_r4 := h_r4.bs hn
  replace b_r4 := b_r4.bs hn
  replace h_r5 := h_r5.bs hn
  replace b_r5 := b_r5.bs hn
  replace h_r6 := h_r6.bs hn
  replace b_r6 := b_r6.bs hn
  replace h_r7 := h_r7.bs hn
  replace b_r7 := b_r7.bs hn
  replace h_r8 := h_r8.bs hn
  replace b_r8 := b_r8.bs hn
  clear hn
  refine Lw.val (Ex.pickT rfl rfl) rfl ?_
  refine Lw.val (Ex.assign rfl) rfl ?_
  refine Lw.nil ?_
  refine Pw.thenN (Cw.out ?_)
  refine Cw.ret ?_
  refine Pw.ret1 rfl rfl ?_
  exact ⟨congrArg Value.bool (same_yes (s_r6.trans s_r8.symm) (by rw [l_r6, l_r8, l_r1, l_r7]; exact z2_eq fun i hi => by rw [z2_at hi, z2_at hi]; exact BitVec.mul_assoc _ _ _)), hB⟩

theorem six_of {α : Type} {l : List α} (h : l.length = 6) : ∃ a b c d e f, l = [a, b, c, d, e, f] := by
  match l, h with
  | [a, b, c, d, e, f], _ => exact ⟨a, b, c, d, e, f, rfl⟩

set_option maxRecDepth 100000 in
theorem mathsLaws_lifted (os : Os) (started : os.Started) (H : Type) (enc : TypeId × Value → H) :
    ReturnsInHanded {} Try.checked os 3 .any (Rows.mathsLawsSpec.pre6 enc Try.prog Try.f3 Rows.mathsLawsRow.domain false) (Rows.mathsLawsSpec.post enc Try.prog Try.f3 false true false false) := by
  refine returnsInHanded_of_change_sized (C := Try.checked) own started (by kernel_rfl) Try.func3
    (ChangeSpec.witness6 (enc := enc) (C := Try.checked) false ⟨#[], #[.agg #[.slice none 0 0, .slice none 0 0, .slice none 0 0, .slice none 0 0, .slice none 0 0, .slice none 0 0]], []⟩ 8 (by kernel_rfl) (by kernel_rfl) (by kernel_rfl) (by kernel_rfl)) ?_
  intro W base args ds gs before hval0 hW hcnd hsz0 _
  have hval : ∀ (j : Nat) t v, Try.f3.params[j]? = some t → args[j]? = some v → Value.okWide Try.prog W .any base t v := hval0
  have hW' := hW
  obtain ⟨p, q, hA0, hV, rfl, hfz, hnd⟩ := hW
  have hA : DataW.TrodAll enc Try.prog W 0 (fun _ => true) true Try.f3.params.toList args.toList ds p := hA0
  have hsz : (DataW.weightsEach Try.prog (Try.f3.params.toList ++ Rows.mathsLawsSpec.plain.varTypes Try.prog) (ds ++ gs)).all (· ≤ reachBytes) = true := hsz0
  rw [Try.params3] at hA hval hsz
  obtain ⟨v0, vs0, d0, ds0, p0, q0, hargs, rfl, rfl, h0, r0⟩ := trodAll_cons hA
  obtain ⟨rfl, rfl, rfl⟩ := trodAll_nil r0
  obtain rfl : args = #[v0] := by cases args; simp_all
  obtain ⟨rfl, rfl⟩ := trodVars_none hV
  have k0 := h0
  have lt0 : ∀ x ∈ p0, x.block < W.heap.size := by obtain ⟨m, hm⟩ := k0; exact DataW.trod_lt m _ _ _ hm
  have i0 := in_of (j := 0) (t := 26) hsz rfl rfl h0
  have o0 := hval 0 26 v0 rfl rfl
  clear hA0 hval0 hsz0 hsz
  obtain ⟨cs, rfl, hin⟩ := arg_array un_26 o0 i0
  obtain ⟨hlen, hel⟩ := hin.array un_26
  have c3 : Try.prog.cellsOf 26 = 6 := by kernel_rfl
  have c1 : Try.prog.cellsOf 25 = 2 := by kernel_rfl
  rw [c3] at hlen
  rw [c1] at hel
  obtain ⟨u0, u1, u2, u3, u4, u5, rfl⟩ := six_of hlen
  obtain ⟨a, e0, ha, a1, a2⟩ := in_ten (hel 0 (by decide))
  obtain ⟨b, e1, hb, a3, a4⟩ := in_ten (hel 1 (by decide))
  obtain ⟨c, e2, hc, a5, a6⟩ := in_ten (hel 2 (by decide))
  simp at e0 e1 e2
  obtain ⟨rfl, rfl⟩ := e0
  obtain ⟨rfl, rfl⟩ := e1
  obtain ⟨rfl, rfl⟩ := e2
  refine (law_calls (mathsLaws_w a b c W ha hb hc (fun t ht => by simp at ht; rcases ht with rfl | rfl | rfl <;> omega) (fun t ht => by simp at ht; rcases ht with rfl | rfl | rfl <;> omega))).mono fun e W' ⟨he, bel⟩ => ?_
  subst he
  exact ⟨_, rfl, _, _, _, [], _, [], hW', trodAll_mk1 (shut_bool un_4 _), (trodAll_cons_mk (Below.trod laidOut (by kernel_rfl) (of_decide_eq_true (by kernel_rfl)) k0 bel lt0) trodAll_mk0), rfl, bel.frame _, fun h => by cases h⟩

/-- The statement. -/
theorem mathsLaws_proved : Rows.MathsLawsSaid :=
  OpenClaim.holds_of_wide 3 Try.f3 rfl rfl rfl rfl rfl rfl rfl ⟨rfl, rfl, rfl, rfl, rfl⟩ rfl rfl rfl rfl rfl (by kernel_rfl) Try.func3 (by kernel_rfl)
    (of_decide_eq_true (by kernel_rfl)) (by unfold Func.isWrapper; first | (rw [if_pos (by decide +kernel)]; kernel_rfl) | (rw [if_neg (by decide +kernel)]; exact ⟨rfl, rfl⟩))
    (fun os started H enc _ => mathsLaws_lifted os started H enc)
#print axioms mathsLaws_proved
end Go.Proofs.Ythgckokpdgiilaa
