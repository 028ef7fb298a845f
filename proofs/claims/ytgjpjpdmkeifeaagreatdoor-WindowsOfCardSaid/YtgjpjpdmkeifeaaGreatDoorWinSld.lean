/- A picture and windows as a card's argument. -/
import Derived.Test.YtgjpjpdmkeifeaaGreatDoorWinPool
import Derived.Test.YtgjpjpdmkeifeaaGreatDoorTensorsArg
import Derived.Test.YtgjpjpdmkeifeaaGreatDoorSub
namespace Go.Proofs.YtgjpjpdmkeifeaaGreatDoor
open Go Go.Dd Go.RowKit Go.ChangeShapes Go.WideShapes Go.ChangeAt
set_option maxRecDepth 100000

/-- A picture, windows, and how they slide. -/
structure Sld where
  T : T4
  W : T4
  step : Int
  pad : Int
  wide : Int
abbrev Sld.c (z : Sld) : List Value := [z.T.x, z.T.y, z.W.x, z.W.y, .int .i64 z.step, .int .i64 z.pad, .int .i64 z.wide]
abbrev Sld.v (z : Sld) : Value := .agg #[z.T.x, z.T.y, z.W.x, z.W.y, .int .i64 z.step, .int .i64 z.pad, .int .i64 z.wide]
def gr (z : Sld) : Bool := bey 0 [tsz z.T.s z.T.l, tsz z.W.s z.W.l] || decide (600 < (z.W.l.length : Int)) || decide (4096 < (z.T.l.length : Int))
theorem tsz_b8 {s : List Int} {l : List (BitVec 32)} (h1 : s.length ≤ 1125899906842624) (h2 : l.length ≤ 1125899906842624) : 0 ≤ tsz s l ∧ tsz s l ≤ 4503599627370496 := by unfold tsz; split <;> omega
/-- Lists that are not longer than any machine's. -/
def few (a : T4) : Prop := a.s.length ≤ 1125899906842624 ∧ a.l.length ≤ 1125899906842624
theorem great_c (z : Sld) (W : World) (h_t : z.T.at W) (h_w : z.W.at W) (f_t : few z.T) (f_w : few z.W) : Fnc Tryz.prog 5 [z.v] W (fun r w' => r = .bool (gr z) ∧ Below W.heap.size W w') := by
  have hB := Below.refl W.heap.size W
  have l1 := f_t.2
  have l2 := f_w.2
  refine Fnc.enter (n := 25) Tryz.func5 (by kernel_rfl) rfl rfl rfl ?_
  refine Cw.seq ?_
  refine Cw.region ?_
  refine Lw.boxV (cs := z.c) rfl rfl rfl ?_
  rintro A_z w eA_z b_z hn -
  replace hB := hB.bs hn
  replace h_t := h_t.bs hn
  replace h_w := h_w.bs hn
  clear hn
  refine Lw.val (Ex.assign rfl) rfl ?_
  refine Lw.nil ?_
  refine Pw.thenN (Cw.out ?_)
  refine Cw.seq ?_
  refine Cw.tail 6 mixed (by kernel_rfl) ?_
  refine Qw.val (fun w1 hq => Ex.fieldAddr (q := 1) Tryz.underlying27 rfl (sz_25 _) rfl) rfl ?_
  refine Qw.val (fun w1 hq => Ex.ldAt (ds := [z.T.x, z.T.y]) (ag_25 _) (sz_25 _) rfl rfl (Blk.bs (by assumption) hq) rfl) rfl ?_
  refine Qw.callF rfl rfl (fun w1 hq => (tsize_c z.T w1 (h_t.bs hq) f_t.1 f_t.2).q hq) ?_
  refine Qw.val (fun w1 hq => Ex.fieldAddr (q := 1) Tryz.underlying27 rfl (sz_25 _) rfl) rfl ?_
  refine Qw.val (fun w1 hq => Ex.ldAt (ds := [z.W.x, z.W.y]) (ag_25 _) (sz_25 _) rfl rfl (Blk.bs (by assumption) hq) rfl) rfl ?_
  refine Qw.callF rfl rfl (fun w1 hq => (tsize_c z.W w1 (h_w.bs hq) f_w.1 f_w.2).q hq) ?_
  refine Qw.done (fun w2 hq => ?_)
  replace hB := hB.bs hq
  replace h_t := h_t.bs hq
  replace h_w := h_w.bs hq
  replace b_z := b_z.bs hq
  clear hq
  refine Lw.valW (Xw.lit (vs := [tsz z.T.s z.T.l, tsz z.W.s z.W.l].map (Value.int .i64)) st_22 it_3 rfl rfl rfl rfl rfl) rfl ?_
  rintro u w ⟨ho, -, hn, -⟩
  replace hB := hB.bs hn
  replace h_t := h_t.bs hn
  replace h_w := h_w.bs hn
  replace b_z := b_z.bs hn
  clear hn
  have h_w2 := h_w.2
  have h_t2 := h_t.2
  refine Lw.callF rfl rfl (beyond_c u [tsz z.T.s z.T.l, tsz z.W.s z.W.l] w (own_slT ho) (by intro x hx; simp at hx; rcases hx with rfl | rfl; exact tsz_b8 f_t.1 f_t.2; exact tsz_b8 f_w.1 f_w.2)) ?_
  rintro _ w ⟨rfl, hn⟩
  replace hB := hB.bs hn
  replace h_t := h_t.bs hn
  replace h_w := h_w.bs hn
  replace b_z := b_z.bs hn
  replace h_w2 := h_w2.bs hn
  replace h_t2 := h_t2.bs hn
  clear hn
  refine Lw.val (Ex.move rfl) rfl ?_
  refine Lw.part 11 rfl ?_ ?_
  · intro g
    refine Lw.pass (dj := 11) rfl rfl rfl rfl ?_
    refine Lw.pass (dj := 11) rfl rfl rfl rfl ?_
    refine Lw.pass (dj := 11) rfl rfl rfl rfl ?_
    refine Lw.pass (dj := 11) rfl rfl rfl rfl ?_
    refine Lw.pass (dj := 11) rfl rfl rfl rfl ?_
    refine Lw.val (Ex.pickT rfl rfl) rfl ?_
    refine Lw.val (Ex.move rfl) rfl ?_
    refine Lw.pass (dj := 18) rfl rfl rfl rfl ?_
    refine Lw.pass (dj := 18) rfl rfl rfl rfl ?_
    refine Lw.pass (dj := 18) rfl rfl rfl rfl ?_
    refine Lw.pass (dj := 18) rfl rfl rfl rfl ?_
    refine Lw.pass (dj := 18) rfl rfl rfl rfl ?_
    refine Lw.val (Ex.pickT rfl rfl) rfl ?_
    refine Lw.val (Ex.assign rfl) rfl ?_
    refine Lw.nil ?_
    refine Pw.thenN (Cw.out ?_)
    refine Cw.ret ?_
    refine Pw.ret1 rfl rfl ?_
    exact ⟨by simp [gr, g], hB⟩
  intro g
  refine Lw.take (dj := 11) rfl rfl ?_
  refine Lw.val (Ex.fieldAddr (q := 1) Tryz.underlying27 rfl (sz_25 _) rfl) rfl ?_
  refine Lw.take (dj := 11) rfl rfl ?_
  refine Lw.val (Ex.fieldAddr (q := 0) Tryz.underlying25 rfl (sz_23 _) rfl) rfl ?_
  refine Lw.take (dj := 11) rfl rfl ?_
  refine Lw.val (Ex.ldB (ag_23 _) rfl (by assumption) rfl) rfl ?_
  refine Lw.take (dj := 11) rfl rfl ?_
  refine Lw.val (Ex.lenS st_23 rfl (by assumption)) rfl ?_
  refine Lw.take (dj := 11) rfl rfl ?_
  refine Lw.val (Ex.gtr rfl rfl) rfl ?_
  refine Lw.val (Ex.pickF rfl rfl) rfl ?_
  refine Lw.val (Ex.move rfl) rfl ?_
  refine Lw.part 18 rfl ?_ ?_
  · intro g2
    refine Lw.pass (dj := 18) rfl rfl rfl rfl ?_
    refine Lw.pass (dj := 18) rfl rfl rfl rfl ?_
    refine Lw.pass (dj := 18) rfl rfl rfl rfl ?_
    refine Lw.pass (dj := 18) rfl rfl rfl rfl ?_
    refine Lw.pass (dj := 18) rfl rfl rfl rfl ?_
    refine Lw.val (Ex.pickT rfl rfl) rfl ?_
    refine Lw.val (Ex.assign rfl) rfl ?_
    refine Lw.nil ?_
    refine Pw.thenN (Cw.out ?_)
    refine Cw.ret ?_
    refine Pw.ret1 rfl rfl ?_
    exact ⟨by simp [gr, g, g2], hB⟩
  intro g2
  refine Lw.take (dj := 18) rfl rfl ?_
  refine Lw.val (Ex.fieldAddr (q := 1) Tryz.underlying27 rfl (sz_25 _) rfl) rfl ?_
  refine Lw.take (dj := 18) rfl rfl ?_
  refine Lw.val (Ex.fieldAddr (q := 0) Tryz.underlying25 rfl (sz_23 _) rfl) rfl ?_
  refine Lw.take (dj := 18) rfl rfl ?_
  refine Lw.val (Ex.ldB (ag_23 _) rfl (by assumption) rfl) rfl ?_
  refine Lw.take (dj := 18) rfl rfl ?_
  refine Lw.val (Ex.lenS st_23 rfl (by assumption)) rfl ?_
  refine Lw.take (dj := 18) rfl rfl ?_
  refine Lw.val (Ex.gtr rfl rfl) rfl ?_
  refine Lw.val (Ex.pickF rfl rfl) rfl ?_
  refine Lw.val (Ex.assign rfl) rfl ?_
  refine Lw.nil ?_
  refine Pw.thenN (Cw.out ?_)
  refine Cw.ret ?_
  refine Pw.ret1 rfl rfl ?_
  exact ⟨by simp [gr, g, g2], hB⟩
theorem gr_no {z : Sld} (h : gr z = false) (f_t : few z.T) (f_w : few z.W) : z.T.s.length ≤ 1048576 ∧ z.T.l.length ≤ 4096 ∧ z.W.s.length ≤ 1048576 ∧ z.W.l.length ≤ 600 := by
  simp only [gr, Bool.or_eq_false_iff, decide_eq_false_iff_not] at h
  obtain ⟨⟨h1, h2⟩, h3⟩ := h
  have hb := bey_no (Int.le_refl 0) (by intro x hx; simp at hx; rcases hx with rfl | rfl; exact (tsz_b8 f_t.1 f_t.2).1; exact (tsz_b8 f_w.1 f_w.2).1) h1
  have b1 := hb (tsz z.T.s z.T.l) (by simp)
  have b2 := hb (tsz z.W.s z.W.l) (by simp)
  unfold tsz at b1 b2
  refine ⟨?_, by omega, ?_, by omega⟩
  · split at b1 <;> omega
  · split at b2 <;> omega

theorem wofL_len (t w : T4) (step pad : Int) : (wofL t w step pad).length = (Shapes.size (wshS t.s w.s step pad)).toNat := by simp [wofL]
theorem wpoL_len (t : T4) (w : Int) : (wpoL t w).length = (Shapes.size (pshS t.s w)).toNat := by simp [wpoL, pooL]
theorem seven_of {α : Type} {l : List α} (h : l.length = 7) : ∃ a b c d e f g, l = [a, b, c, d, e, f, g] := by
  match l, h with
  | [a, b, c, d, e, f, g], _ => exact ⟨a, b, c, d, e, f, g, rfl⟩
theorem arg_sld {H : Type} {enc : TypeId × Value → H} {w : World} {base : Nat} {v : Value} (ho : Value.okWide Tryz.prog w .any base 27 v) (h : In enc Tryz.prog w 27 v.cells.toList) : ∃ z : Sld, v = z.v ∧ z.T.at w ∧ z.W.at w ∧ few z.T ∧ few z.W := by
  obtain ⟨cs, rfl, hin⟩ := arg_struct Tryz.underlying27 ho h
  obtain ⟨hlen, hel⟩ := hin.struct Tryz.underlying27
  have c7 : Tryz.prog.cellsOf 27 = 7 := by kernel_rfl
  have c2 : Tryz.prog.cellsOf 25 = 2 := by kernel_rfl
  have c1 : Tryz.prog.cellsOf 3 = 1 := by kernel_rfl
  rw [c7] at hlen
  obtain ⟨u0, u1, u2, u3, u4, u5, u6, rfl⟩ := seven_of hlen
  obtain ⟨a, e0, h0, q0, q1⟩ := in_ten (hel 0 _ rfl)
  obtain ⟨b, e1, h1, q2, q3⟩ := in_ten (hel 1 _ rfl)
  obtain ⟨m2, e2, -⟩ := In.int un_3 (hel 2 _ rfl)
  obtain ⟨m3, e3, -⟩ := In.int un_3 (hel 3 _ rfl)
  obtain ⟨m4, e4, -⟩ := In.int un_3 (hel 4 _ rfl)
  simp [c1, c2] at e0 e1 e2 e3 e4
  obtain ⟨rfl, rfl⟩ := e0
  obtain ⟨rfl, rfl⟩ := e1
  subst e2 e3 e4
  exact ⟨⟨a, b, m2, m3, m4⟩, rfl, h0, h1, ⟨by show a.s.length ≤ _; omega, by show a.l.length ≤ _; omega⟩, ⟨by show b.s.length ≤ _; omega, by show b.l.length ≤ _; omega⟩⟩
end Go.Proofs.YtgjpjpdmkeifeaaGreatDoor
