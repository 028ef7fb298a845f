/- What the statements on windows share. -/
import Derived.Test.YtgjpjpdmkeifeaaWinPool
import Derived.Test.YtgjpjpdmkeifeaaTwins
import Derived.Test.YtgjpjpdmkeifeaaStr
import Derived.Test.YtgjpjpdmkeifeaaOpen
import Derived.Test.YtgjpjpdmkeifeaaRows
import Derived.Test.YtgjpjpdmkeifeaaSub
namespace Go.Proofs.Ytgjpjpdmkeifeaa
open Go Go.Dd Go.RowKit Go.ChangeShapes Go.WideShapes Go.ChangeAt

theorem own : ownKnob Try.prog.godebug = none := by kernel_rfl
theorem laidOut : laidOutB Try.prog = true := by kernel_rfl

/-- A picture, windows, and how they slide. -/
structure Sld where
  T : T4
  W : T4
  step : Int
  pad : Int
  wide : Int
abbrev Sld.c (z : Sld) : List Value := [z.T.x, z.T.y, z.W.x, z.W.y, .int .i64 z.step, .int .i64 z.pad, .int .i64 z.wide]
abbrev Sld.v (z : Sld) : Value := .agg #[z.T.x, z.T.y, z.W.x, z.W.y, .int .i64 z.step, .int .i64 z.pad, .int .i64 z.wide]
def gr (z : Sld) : Bool := bey 0 [tsz z.T.s z.T.l, tsz z.W.s z.W.l] || decide (600 < (z.W.l.length : Int)) || decide (4096 < (z.T.l.length : Int))
theorem tsz_bd {s : List Int} {l : List (BitVec 32)} (h1 : s.length ≤ 1125899906842624) (h2 : l.length ≤ 1125899906842624) : 0 ≤ tsz s l ∧ tsz s l ≤ 4503599627370496 := by unfold tsz; split <;> omega
/-- Lists that are not longer than any machine's. -/
def few (a : T4) : Prop := a.s.length ≤ 1125899906842624 ∧ a.l.length ≤ 1125899906842624
theorem great_c (z : Sld) (W : World) (h_t : z.T.at W) (h_w : z.W.at W) (f_t : few z.T) (f_w : few z.W) : Fnc Try.prog 18 [z.v] W (fun r w' => r = .bool (gr z) ∧ Below W.heap.size W w') := by
  have hB := Below.refl W.heap.size W
  have l1 := f_t.2
  have l2 := f_w.2
  refine Fnc.enter (n := 25) Try.func18 (by kernel_rfl) rfl rfl rfl ?_
  refine Cw.seq ?_
  refine Cw.region ?_
  refine Lw.boxV (cs := z.c) rfl rfl rfl ?_
  rintro A_z w eA_z b_z hn -
  replace hB := hB.bs hn
  replace h_t := h_t.bs hn
  replace h_w := h_w.bs hn
  clear hn
  refine Lw.val (Ex.assign rfl) rfl ?_
  refine Lw.nil ?_
  refine Pw.thenN (Cw.out ?_)
  refine Cw.seq ?_
  refine Cw.tail 6 mixed (by kernel_rfl) ?_
  refine Qw.val (fun w1 hq => Ex.fieldAddr (q := 1) Try.underlying42 rfl (sz_25 _) rfl) rfl ?_
  refine Qw.val (fun w1 hq => Ex.ldAt (ds := [z.T.x, z.T.y]) (ag_25 _) (sz_25 _) rfl rfl (Blk.bs (by assumption) hq) rfl) rfl ?_
  refine Qw.callF rfl rfl (fun w1 hq => (tsize_c z.T w1 (h_t.bs hq) f_t.1 f_t.2).q hq) ?_
  refine Qw.val (fun w1 hq => Ex.fieldAddr (q := 1) Try.underlying42 rfl (sz_25 _) rfl) rfl ?_
  refine Qw.val (fun w1 hq => Ex.ldAt (ds := [z.W.x, z.W.y]) (ag_25 _) (sz_25 _) rfl rfl (Blk.bs (by assumption) hq) rfl) rfl ?_
  refine Qw.callF rfl rfl (fun w1 hq => (tsize_c z.W w1 (h_w.bs hq) f_w.1 f_w.2).q hq) ?_
  refine Qw.done (fun w2 hq => ?_)
  replace hB := hB.bs hq
  replace h_t := h_t.bs hq
  replace h_w := h_w.bs hq
  replace b_z := b_z.bs hq
  clear hq
  refine Lw.valW (Xw.lit (vs := [tsz z.T.s z.T.l, tsz z.W.s z.W.l].map (Value.int .i64)) st_22 it_3 rfl rfl rfl rfl rfl) rfl ?_
  rintro u w ⟨ho, -, hn, -⟩
  replace hB := hB.bs hn
  replace h_t := h_t.bs hn
  replace h_w := h_w.bs hn
  replace b_z := b_z.bs hn
  clear hn
  have h_w2 := h_w.2
  have h_t2 := h_t.2
  refine Lw.callF rfl rfl (beyond_c u [tsz z.T.s z.T.l, tsz z.W.s z.W.l] w (own_slT ho) (by intro x hx; simp at hx; rcases hx with rfl | rfl; exact tsz_bd f_t.1 f_t.2; exact tsz_bd f_w.1 f_w.2)) ?_
  rintro _ w ⟨rfl, hn⟩
  replace hB := hB.bs hn
  replace h_t := h_t.bs hn
  replace h_w := h_w.bs hn
  replace b_z := b_z.bs hn
  replace h_w2 := h_w2.bs hn
  replace h_t2 := h_t2.bs hn
  clear hn
  refine Lw.val (Ex.move rfl) rfl ?_
  refine Lw.part 11 rfl ?_ ?_
  · intro g
    refine Lw.pass (dj := 11) rfl rfl rfl rfl ?_
    refine Lw.pass (dj := 11) rfl rfl rfl rfl ?_
    refine Lw.pass (dj := 11) rfl rfl rfl rfl ?_
    refine Lw.pass (dj := 11) rfl rfl rfl rfl ?_
    refine Lw.pass (dj := 11) rfl rfl rfl rfl ?_
    refine Lw.val (Ex.pickT rfl rfl) rfl ?_
    refine Lw.val (Ex.move rfl) rfl ?_
    refine Lw.pass (dj := 18) rfl rfl rfl rfl ?_
    refine Lw.pass (dj := 18) rfl rfl rfl rfl ?_
    refine Lw.pass (dj := 18) rfl rfl rfl rfl ?_
    refine Lw.pass (dj := 18) rfl rfl rfl rfl ?_
    refine Lw.pass (dj := 18) rfl rfl rfl rfl ?_
    refine Lw.val (Ex.pickT rfl rfl) rfl ?_
    refine Lw.val (Ex.assign rfl) rfl ?_
    refine Lw.nil ?_
    refine Pw.thenN (Cw.out ?_)
    refine Cw.ret ?_
    refine Pw.ret1 rfl rfl ?_
    exact ⟨by simp [gr, g], hB⟩
  intro g
  refine Lw.take (dj := 11) rfl rfl ?_
  refine Lw.val (Ex.fieldAddr (q := 1) Try.underlying42 rfl (sz_25 _) rfl) rfl ?_
  refine Lw.take (dj := 11) rfl rfl ?_
  refine Lw.val (Ex.fieldAddr (q := 0) Try.underlying25 rfl (sz_23 _) rfl) rfl ?_
  refine Lw.take (dj := 11) rfl rfl ?_
  refine Lw.val (Ex.ldB (ag_23 _) rfl (by assumption) rfl) rfl ?_
  refine Lw.take (dj := 11) rfl rfl ?_
  refine Lw.val (Ex.lenS st_23 rfl (by assumption)) rfl ?_
  refine Lw.take (dj := 11) rfl rfl ?_
  refine Lw.val (Ex.gtr rfl rfl) rfl ?_
  refine Lw.val (Ex.pickF rfl rfl) rfl ?_
  refine Lw.val (Ex.move rfl) rfl ?_
  refine Lw.part 18 rfl ?_ ?_
  · intro g2
    refine Lw.pass (dj := 18) rfl rfl rfl rfl ?_
    refine Lw.pass (dj := 18) rfl rfl rfl rfl ?_
    refine Lw.pass (dj := 18) rfl rfl rfl rfl ?_
    refine Lw.pass (dj := 18) rfl rfl rfl rfl ?_
    refine Lw.pass (dj := 18) rfl rfl rfl rfl ?_
    refine Lw.val (Ex.pickT rfl rfl) rfl ?_
    refine Lw.val (Ex.assign rfl) rfl ?_
    refine Lw.nil ?_
    refine Pw.thenN (Cw.out ?_)
    refine Cw.ret ?_
    refine Pw.ret1 rfl rfl ?_
    exact ⟨by simp [gr, g, g2], hB⟩
  intro g2
  refine Lw.take (dj := 18) rfl rfl ?_
  refine Lw.val (Ex.fieldAddr (q := 1) Try.underlying42 rfl (sz_25 _) rfl) rfl ?_
  refine Lw.take (dj := 18) rfl rfl ?_
  refine Lw.val (Ex.fieldAddr (q := 0) Try.underlying25 rfl (sz_23 _) rfl) rfl ?_
  refine Lw.take (dj := 18) rfl rfl ?_
  refine Lw.val (Ex.ldB (ag_23 _) rfl (by assumption) rfl) rfl ?_
  refine Lw.take (dj := 18) rfl rfl ?_
  refine Lw.val (Ex.lenS st_23 rfl (by assumption)) rfl ?_
  refine Lw.take (dj := 18) rfl rfl ?_
  refine Lw.val (Ex.gtr rfl rfl) rfl ?_
  refine Lw.val (Ex.pickF rfl rfl) rfl ?_
  refine Lw.val (Ex.assign rfl) rfl ?_
  refine Lw.nil ?_
  refine Pw.thenN (Cw.out ?_)
  refine Cw.ret ?_
  refine Pw.ret1 rfl rfl ?_
  exact ⟨by simp [gr, g, g2], hB⟩
theorem gr_no {z : Sld} (h : gr z = false) (f_t : few z.T) (f_w : few z.W) : z.T.s.length ≤ 1048576 ∧ z.T.l.length ≤ 4096 ∧ z.W.s.length ≤ 1048576 ∧ z.W.l.length ≤ 600 := by
  simp only [gr, Bool.or_eq_false_iff, decide_eq_false_iff_not] at h
  obtain ⟨⟨h1, h2⟩, h3⟩ := h
  have hb := bey_no (Int.le_refl 0) (by intro x hx; simp at hx; rcases hx with rfl | rfl; exact (tsz_bd f_t.1 f_t.2).1; exact (tsz_bd f_w.1 f_w.2).1) h1
  have b1 := hb (tsz z.T.s z.T.l) (by simp)
  have b2 := hb (tsz z.W.s z.W.l) (by simp)
  unfold tsz at b1 b2
  refine ⟨?_, by omega, ?_, by omega⟩
  · split at b1 <;> omega
  · split at b2 <;> omega

theorem of8_c (u v : Value) (s : List Int) (l : List (BitVec 32)) (W : World) (h_u : SlT (Value.int .i64) W u s) (h_v : SlT i32 W v l) : Fnc Try.prog 12 [u, v] W (fun r w' => ∃ a : T4, r = a.v ∧ a.s = s ∧ a.l = l ∧ a.at w' ∧ Below W.heap.size W w') := by
  have hB := Below.refl W.heap.size W
  have hu0 := h_u
  have hv0 := h_v
  refine Fnc.enter (n := 8) Try.func12 (by kernel_rfl) rfl rfl rfl ?_
  refine Cw.seq ?_
  refine Cw.region ?_
  refine Lw.newA it_25 rfl ?_
  rintro A_r w eA_r b_r hn -
  replace hB := hB.bs hn
  replace h_u := h_u.bs hn
  replace h_v := h_v.bs hn
  clear hn
  refine Lw.nil ?_
  refine Pw.thenN (Cw.out ?_)
  refine Cw.seq ?_
  refine Cw.region ?_
  refine Lw.val (Ex.move rfl) rfl ?_
  refine Lw.val (Ex.move rfl) rfl ?_
  have z := below_size hB
  refine Lw.val (Ex.build (vs := [(0, u), (1, v)]) (cs := [u, v]) rfl (bt_ten _ _ h_u.one h_v.one)) rfl ?_
  refine Lw.unit (Xu.stA (cs := [u, v]) rfl rfl rfl rfl (by simp [h_u.one', h_v.one']) b_r rfl) ?_
  rintro w3 ⟨b, hg, -⟩
  have hne : ∀ {α : Type} {enc : α → Value} {x : Value} {l : List α}, SlT enc W x l → SlT enc w x l → SlT enc w3 x l := fun h0 h1 => Sl.stay h1 fun k e hk => hg.block k (Sl.blk h1 hk k e) fun e2 => by
    have := Sl.blk h0 hk k e
    cases e2
    omega
  refine Lw.nil ?_
  refine Pw.thenN (Cw.out ?_)
  refine Cw.ret ?_
  refine Pw.retC rfl rfl (by assumption) (Try.underlying25) rfl rfl rfl ?_
  exact ⟨⟨u, v, s, l⟩, rfl, rfl, rfl, ⟨hne hu0 h_u, hne hv0 h_v⟩, hB.grown hg (below_size hB) (by rintro _ ⟨⟩; omega)⟩
theorem same8_c (a b : T4) (e f : Int) (W : World) (h_a : a.at W) (h_b : b.at W) : Fnc Try.prog 17 [a.v, b.v, .int .i64 e, .int .i64 f] W (fun r w' => r = .bool (decide (e = f) && (decide (a.s = b.s) && decide (a.l = b.l))) ∧ Below W.heap.size W w') := by
  have hB := Below.refl W.heap.size W
  refine Fnc.enter (n := 17) Try.func17 (by kernel_rfl) rfl rfl rfl ?_
  refine Cw.seq ?_
  refine Cw.region ?_
  refine Lw.boxV (cs := [a.x, a.y]) rfl rfl rfl ?_
  rintro A_a w eA_a b_a hn -
  replace hB := hB.bs hn
  replace h_a := h_a.bs hn
  replace h_b := h_b.bs hn
  clear hn
  refine Lw.boxV (cs := [b.x, b.y]) rfl rfl rfl ?_
  rintro A_b w eA_b b_b hn -
  replace hB := hB.bs hn
  replace h_a := h_a.bs hn
  replace h_b := h_b.bs hn
  replace b_a := b_a.bs hn
  clear hn
  refine Lw.val (Ex.assign rfl) rfl ?_
  refine Lw.nil ?_
  refine Pw.thenN (Cw.out ?_)
  refine Cw.seq ?_
  refine Cw.region ?_
  refine Lw.val (Ex.move rfl) rfl ?_
  refine Lw.val (Ex.move rfl) rfl ?_
  refine Lw.val (Ex.eql rfl rfl) rfl ?_
  refine Lw.val (Ex.move rfl) rfl ?_
  refine Lw.part 12 rfl ?_ ?_
  · intro g
    refine Lw.take (dj := 12) rfl rfl ?_
    refine Lw.val (Ex.ldA (ag_25 _) (sz_25 _) rfl rfl (by assumption)) rfl ?_
    refine Lw.take (dj := 12) rfl rfl ?_
    refine Lw.val (Ex.ldA (ag_25 _) (sz_25 _) rfl rfl (by assumption)) rfl ?_
    refine Lw.take (dj := 12) rfl rfl ?_
    refine Lw.callF rfl rfl (same_c _ _ _ _ _ _ _ _ _ h_a.1 h_a.2 h_b.1 h_b.2) ?_
    rintro _ w ⟨rfl, hn⟩
    replace hB := hB.bs hn
    replace h_a := h_a.bs hn
    replace h_b := h_b.bs hn
    replace b_a := b_a.bs hn
    replace b_b := b_b.bs hn
    clear hn
    refine Lw.val (Ex.pickT rfl rfl) rfl ?_
    refine Lw.val (Ex.assign rfl) rfl ?_
    refine Lw.nil ?_
    refine Pw.thenN (Cw.out ?_)
    refine Cw.ret ?_
    refine Pw.ret1 rfl rfl ?_
    exact ⟨by rw [g]; rfl, hB⟩
  intro g
  refine Lw.pass (dj := 12) rfl rfl rfl rfl ?_
  refine Lw.pass (dj := 12) rfl rfl rfl rfl ?_
  refine Lw.pass (dj := 12) rfl rfl rfl rfl ?_
  refine Lw.val (Ex.pickF rfl rfl) rfl ?_
  refine Lw.val (Ex.assign rfl) rfl ?_
  refine Lw.nil ?_
  refine Pw.thenN (Cw.out ?_)
  refine Cw.ret ?_
  refine Pw.ret1 rfl rfl ?_
  exact ⟨by rw [g]; rfl, hB⟩
theorem krow_ne {w : World} {base A : Nat} {e T : TypeId} {sz n : Nat} {v : Value} {xs cs : List Value} (h : KRow w base e sz v n xs) (k : Blk w A T cs) (hne : e ≠ T) : v.ownBlock ≠ some A := by
  rcases h with h | ⟨g, cur, rfl, _, hb, _⟩
  · exact fun e2 => blk_own_ne h k hne e2.symm
  · intro e2
    simp only [Value.ownBlock, Option.some.injEq] at e2
    exact blk_ne hb k hne e2
theorem made_apart {W w w' : World} {x y : Value} {s : List Int} {l : List (BitVec 32)} {A T : Nat} {cs : List Value} (h : Made1 W w x y s l) (k : Blk w A T cs) (h1 : 3 ≠ T) (h2 : 21 ≠ T) (g : w.grownBy w' (some A)) : Made1 W w' x y s l :=
  ⟨h.row.by' g (.inr fun e => krow_ne h.row k h1 e), own_apart h.own k h2 g, h.apart⟩
theorem alive_c (w0 : World) : Fnc Try.prog 8 [] w0 (fun r w' => r = .bool true ∧ Below w0.heap.size w0 w') := by
  have hB := Below.refl w0.heap.size w0
  refine Fnc.enter (n := 98) Try.func8 (by kernel_rfl) rfl rfl rfl ?_
  refine Cw.seq ?_
  refine Cw.region ?_
  refine Lw.val (Ex.assign rfl) rfl ?_
  refine Lw.nil ?_
  refine Pw.thenN (Cw.out ?_)
  refine Cw.seq ?_
  refine Cw.region ?_
  refine Lw.valW (Xw.lit (vs := ([1, 3, 3] : List Int).map (Value.int .i64)) st_22 it_3 rfl rfl rfl rfl rfl) rfl ?_
  rintro u1 w ⟨ho, -, hn, -⟩
  have t_u1 := own_slT ho
  clear ho
  replace hB := hB.bs hn
  clear hn
  refine Lw.valW (Xw.lit (vs := ([1#32, 2#32, 3#32, 4#32, 5#32, 6#32, 7#32, 8#32, 9#32] : List (BitVec 32)).map i32) st_23 it_21 rfl (by kernel_rfl) rfl rfl rfl) rfl ?_
  rintro u2 w ⟨ho, -, hn, -⟩
  have t_u2 := own_slT ho
  clear ho
  replace hB := hB.bs hn
  replace t_u1 := t_u1.bs hn
  clear hn
  refine Lw.callF rfl rfl (of8_c u1 u2 [1, 3, 3] [1#32, 2#32, 3#32, 4#32, 5#32, 6#32, 7#32, 8#32, 9#32] _ t_u1 t_u2) ?_
  rintro _ w ⟨t, rfl, s_t, l_t, h_t, hn⟩
  replace hB := hB.bs hn
  replace t_u1 := t_u1.bs hn
  replace t_u2 := t_u2.bs hn
  clear hn
  clear t_u1 t_u2
  refine Lw.boxed (cs := [t.x, t.y]) it_25 rfl rfl rfl rfl (fun _ => rfl) (h_t.one) ?_
  rintro A_t w eA_t b_t hn -
  replace hB := hB.bs hn
  replace h_t := h_t.bs hn
  clear hn
  refine Lw.nil ?_
  refine Pw.thenN (Cw.out ?_)
  refine Cw.seq ?_
  rename World => w1
  refine Cw.midS (St := T4 × Nat) (fun z => [(1, .pointer (some ⟨A_t, 0, none⟩)), (2, .pointer (some ⟨z.2, 0, none⟩)), (3, .int .i64 0)]) (fun z w' => Below w1.heap.size w1 w' ∧ z.1.at w' ∧ Blk w' z.2 25 [z.1.x, z.1.y] ∧ z.1.s = [1, 2, 2] ∧ z.1.l = [12#32, 16#32, 24#32, 28#32]) ?_ ?_
  · refine Cw.any mixed (fun w hcw _ => ?_)
    refine Aw.cls (fun w' => Below w1.heap.size w1 w') (fun hC => ?_) (hcw)
    refine AwC.take (i := 0) NoP.midS rfl (by kernel_rfl) (by kernel_rfl) (by kernel_rfl) (fun w1 hc => Ex.ldA (ag_25 _) (sz_25 _) rfl rfl (Blk.bs (by assumption) hc)) rfl ?_
    refine AwC.three (by assumption) (i0 := 1) (i1 := 2) (i2 := 8) (by kernel_rfl) rfl rfl rfl ?_ ?_ ?_
    refine Lw.valW (Xw.lit (vs := ([1, 1, 2, 2] : List Int).map (Value.int .i64)) st_22 it_3 rfl rfl rfl rfl rfl) rfl ?_
    rintro u w ⟨ho, -, hn, -⟩
    have t_u := own_slT ho
    clear ho
    replace hcw := hcw.bs hn
    clear hn
    refine AwC.back ?_
    refine AwC.two (by assumption) (i := 2) (j := 8) (by kernel_rfl) rfl rfl ?_ ?_
    refine Lw.valW (Xw.lit (vs := ([1#32, 1#32, 1#32, 1#32] : List (BitVec 32)).map i32) st_23 it_21 rfl (by kernel_rfl) rfl rfl rfl) rfl ?_
    rintro v w ⟨ho, -, hn, -⟩
    have t_v := own_slT ho
    clear ho
    replace hcw := hcw.bs hn
    replace t_u := t_u.bs hn
    clear hn
    refine AwC.back ?_
    refine AwC.two (by assumption) (i := 3) (j := 8) (by kernel_rfl) rfl rfl ?_ ?_
    refine Lw.callF rfl rfl (of8_c u v [1, 1, 2, 2] [1#32, 1#32, 1#32, 1#32] _ t_u t_v) ?_
    rintro _ w ⟨c, rfl, s_c, l_c, h_c, hn⟩
    replace hcw := hcw.bs hn
    replace t_u := t_u.bs hn
    replace t_v := t_v.bs hn
    clear hn
    refine AwC.back ?_
    refine AwC.two (by assumption) (i := 4) (j := 8) (by kernel_rfl) rfl rfl ?_ ?_
    refine Lw.callF rfl rfl (wof_c t c 1 0 _ (h_t.bs hcw) h_c) ?_
    rintro _ w ⟨hn, r, rfl, h_r, -, hz⟩
    have e_r : wofE t c 1 0 = 0 := by unfold wofE; rw [s_t, l_t, s_c, l_c]; kernel_rfl
    rw [e_r]
    obtain ⟨s_r, l_r, m_r⟩ := hz e_r
    rw [← s_r, ← l_r] at m_r
    replace s_r : r.s = [1, 2, 2] := by rw [s_r, s_t, s_c]; kernel_rfl
    replace l_r : r.l = [12#32, 16#32, 24#32, 28#32] := by rw [l_r]; unfold wofL wofF wofN; rw [s_t, l_t, s_c, l_c]; kernel_rfl
    clear hz e_r h_r
    replace hcw := hcw.bs hn
    replace t_u := t_u.bs hn
    replace t_v := t_v.bs hn
    replace h_c := h_c.bs hn
    clear hn
    refine AwC.back ?_
    refine AwC.take (i := 5) NoP.midS rfl (by kernel_rfl) (by kernel_rfl) (by kernel_rfl) (fun w1 hc => Ex.move rfl) rfl ?_
    refine AwC.take (i := 6) NoP.midS rfl (by kernel_rfl) (by kernel_rfl) (by kernel_rfl) (fun w1 hc => Ex.extract (i := 0) rfl rfl) rfl ?_
    refine AwC.take (i := 7) NoP.midS rfl (by kernel_rfl) (by kernel_rfl) (by kernel_rfl) (fun w1 hc => Ex.extract (i := 1) rfl rfl) rfl ?_
    refine AwC.only (by assumption) (i := 8) (by kernel_rfl) rfl ?_
    refine Lw.newA it_25 rfl ?_
    rintro A_r w eA_r b_r hn -
    have g_r : w1.heap.size ≤ A_r := by have := hcw.size; omega
    replace hcw := hcw.bs hn
    replace t_u := t_u.bs hn
    replace t_v := t_v.bs hn
    replace h_c := h_c.bs hn
    replace m_r := m_r.bs hn
    clear hn
    refine AwC.back ?_
    refine AwC.only (by assumption) (i := 9) (by kernel_rfl) rfl ?_
    refine Lw.unit (Xu.stA (cs := [r.x, r.y]) rfl rfl rfl rfl m_r.one b_r rfl) ?_
    rintro w2 ⟨b_r2, hg, -⟩
    have m_r := made_apart m_r b_r (by decide) (by decide) hg
    have hcw := hcw.grown hg hcw.size (by rintro _ ⟨⟩; omega)
    refine AwC.back ?_
    refine AwC.take (i := 10) NoP.midS rfl (by kernel_rfl) (by kernel_rfl) (by kernel_rfl) (fun w1 hc => Ex.assign rfl) rfl ?_
    refine AwC.done (by assumption) (by kernel_rfl) ?_
    exact Pw.midS ((r, A_r)) ⟨rfl, rfl, rfl, trivial⟩ (⟨hcw, ⟨m_r.sh, own_sl m_r.own⟩, b_r2, s_r, l_r⟩)
    refine Lw.newA it_25 rfl ?_
    rintro A_r w eA_r b_r hn -
    have g_r : w1.heap.size ≤ A_r := by have := hcw.size; omega
    replace hcw := hcw.bs hn
    replace t_u := t_u.bs hn
    replace t_v := t_v.bs hn
    replace h_c := h_c.bs hn
    clear hn
    refine AwC.back ?_
    refine AwC.only (by assumption) (i := 4) (by kernel_rfl) rfl ?_
    refine Lw.callF rfl rfl (wof_c t c 1 0 _ (h_t.bs hcw) h_c) ?_
    rintro _ w ⟨hn, r, rfl, h_r, -, hz⟩
    have e_r : wofE t c 1 0 = 0 := by unfold wofE; rw [s_t, l_t, s_c, l_c]; kernel_rfl
    rw [e_r]
    obtain ⟨s_r, l_r, m_r⟩ := hz e_r
    rw [← s_r, ← l_r] at m_r
    replace s_r : r.s = [1, 2, 2] := by rw [s_r, s_t, s_c]; kernel_rfl
    replace l_r : r.l = [12#32, 16#32, 24#32, 28#32] := by rw [l_r]; unfold wofL wofF wofN; rw [s_t, l_t, s_c, l_c]; kernel_rfl
    clear hz e_r h_r
    replace hcw := hcw.bs hn
    replace t_u := t_u.bs hn
    replace t_v := t_v.bs hn
    replace h_c := h_c.bs hn
    replace b_r := b_r.bs hn
    clear hn
    refine AwC.back ?_
    refine AwC.take (i := 5) NoP.midS rfl (by kernel_rfl) (by kernel_rfl) (by kernel_rfl) (fun w1 hc => Ex.move rfl) rfl ?_
    refine AwC.take (i := 6) NoP.midS rfl (by kernel_rfl) (by kernel_rfl) (by kernel_rfl) (fun w1 hc => Ex.extract (i := 0) rfl rfl) rfl ?_
    refine AwC.take (i := 7) NoP.midS rfl (by kernel_rfl) (by kernel_rfl) (by kernel_rfl) (fun w1 hc => Ex.extract (i := 1) rfl rfl) rfl ?_
    refine AwC.only (by assumption) (i := 9) (by kernel_rfl) rfl ?_
    refine Lw.unit (Xu.stA (cs := [r.x, r.y]) rfl rfl rfl rfl m_r.one b_r rfl) ?_
    rintro w2 ⟨b_r2, hg, -⟩
    have m_r := made_apart m_r b_r (by decide) (by decide) hg
    have hcw := hcw.grown hg hcw.size (by rintro _ ⟨⟩; omega)
    refine AwC.back ?_
    refine AwC.take (i := 10) NoP.midS rfl (by kernel_rfl) (by kernel_rfl) (by kernel_rfl) (fun w1 hc => Ex.assign rfl) rfl ?_
    refine AwC.done (by assumption) (by kernel_rfl) ?_
    exact Pw.midS ((r, A_r)) ⟨rfl, rfl, rfl, trivial⟩ (⟨hcw, ⟨m_r.sh, own_sl m_r.own⟩, b_r2, s_r, l_r⟩)
    refine Lw.newA it_25 rfl ?_
    rintro A_r w eA_r b_r hn -
    have g_r : w1.heap.size ≤ A_r := by have := hcw.size; omega
    replace hcw := hcw.bs hn
    replace t_u := t_u.bs hn
    replace t_v := t_v.bs hn
    clear hn
    refine AwC.back ?_
    refine AwC.only (by assumption) (i := 3) (by kernel_rfl) rfl ?_
    refine Lw.callF rfl rfl (of8_c u v [1, 1, 2, 2] [1#32, 1#32, 1#32, 1#32] _ t_u t_v) ?_
    rintro _ w ⟨c, rfl, s_c, l_c, h_c, hn⟩
    replace hcw := hcw.bs hn
    replace t_u := t_u.bs hn
    replace t_v := t_v.bs hn
    replace b_r := b_r.bs hn
    clear hn
    refine AwC.back ?_
    refine AwC.only (by assumption) (i := 4) (by kernel_rfl) rfl ?_
    refine Lw.callF rfl rfl (wof_c t c 1 0 _ (h_t.bs hcw) h_c) ?_
    rintro _ w ⟨hn, r, rfl, h_r, -, hz⟩
    have e_r : wofE t c 1 0 = 0 := by unfold wofE; rw [s_t, l_t, s_c, l_c]; kernel_rfl
    rw [e_r]
    obtain ⟨s_r, l_r, m_r⟩ := hz e_r
    rw [← s_r, ← l_r] at m_r
    replace s_r : r.s = [1, 2, 2] := by rw [s_r, s_t, s_c]; kernel_rfl
    replace l_r : r.l = [12#32, 16#32, 24#32, 28#32] := by rw [l_r]; unfold wofL wofF wofN; rw [s_t, l_t, s_c, l_c]; kernel_rfl
    clear hz e_r h_r
    replace hcw := hcw.bs hn
    replace t_u := t_u.bs hn
    replace t_v := t_v.bs hn
    replace b_r := b_r.bs hn
    replace h_c := h_c.bs hn
    clear hn
    refine AwC.back ?_
    refine AwC.take (i := 5) NoP.midS rfl (by kernel_rfl) (by kernel_rfl) (by kernel_rfl) (fun w1 hc => Ex.move rfl) rfl ?_
    refine AwC.take (i := 6) NoP.midS rfl (by kernel_rfl) (by kernel_rfl) (by kernel_rfl) (fun w1 hc => Ex.extract (i := 0) rfl rfl) rfl ?_
    refine AwC.take (i := 7) NoP.midS rfl (by kernel_rfl) (by kernel_rfl) (by kernel_rfl) (fun w1 hc => Ex.extract (i := 1) rfl rfl) rfl ?_
    refine AwC.only (by assumption) (i := 9) (by kernel_rfl) rfl ?_
    refine Lw.unit (Xu.stA (cs := [r.x, r.y]) rfl rfl rfl rfl m_r.one b_r rfl) ?_
    rintro w2 ⟨b_r2, hg, -⟩
    have m_r := made_apart m_r b_r (by decide) (by decide) hg
    have hcw := hcw.grown hg hcw.size (by rintro _ ⟨⟩; omega)
    refine AwC.back ?_
    refine AwC.take (i := 10) NoP.midS rfl (by kernel_rfl) (by kernel_rfl) (by kernel_rfl) (fun w1 hc => Ex.assign rfl) rfl ?_
    refine AwC.done (by assumption) (by kernel_rfl) ?_
    exact Pw.midS ((r, A_r)) ⟨rfl, rfl, rfl, trivial⟩ (⟨hcw, ⟨m_r.sh, own_sl m_r.own⟩, b_r2, s_r, l_r⟩)
    refine Lw.newA it_25 rfl ?_
    rintro A_r w eA_r b_r hn -
    have g_r : w1.heap.size ≤ A_r := by have := hcw.size; omega
    replace hcw := hcw.bs hn
    replace t_u := t_u.bs hn
    clear hn
    refine AwC.back ?_
    refine AwC.only (by assumption) (i := 2) (by kernel_rfl) rfl ?_
    refine Lw.valW (Xw.lit (vs := ([1#32, 1#32, 1#32, 1#32] : List (BitVec 32)).map i32) st_23 it_21 rfl (by kernel_rfl) rfl rfl rfl) rfl ?_
    rintro v w ⟨ho, -, hn, -⟩
    have t_v := own_slT ho
    clear ho
    replace hcw := hcw.bs hn
    replace t_u := t_u.bs hn
    replace b_r := b_r.bs hn
    clear hn
    refine AwC.back ?_
    refine AwC.only (by assumption) (i := 3) (by kernel_rfl) rfl ?_
    refine Lw.callF rfl rfl (of8_c u v [1, 1, 2, 2] [1#32, 1#32, 1#32, 1#32] _ t_u t_v) ?_
    rintro _ w ⟨c, rfl, s_c, l_c, h_c, hn⟩
    replace hcw := hcw.bs hn
    replace t_u := t_u.bs hn
    replace b_r := b_r.bs hn
    replace t_v := t_v.bs hn
    clear hn
    refine AwC.back ?_
    refine AwC.only (by assumption) (i := 4) (by kernel_rfl) rfl ?_
    refine Lw.callF rfl rfl (wof_c t c 1 0 _ (h_t.bs hcw) h_c) ?_
    rintro _ w ⟨hn, r, rfl, h_r, -, hz⟩
    have e_r : wofE t c 1 0 = 0 := by unfold wofE; rw [s_t, l_t, s_c, l_c]; kernel_rfl
    rw [e_r]
    obtain ⟨s_r, l_r, m_r⟩ := hz e_r
    rw [← s_r, ← l_r] at m_r
    replace s_r : r.s = [1, 2, 2] := by rw [s_r, s_t, s_c]; kernel_rfl
    replace l_r : r.l = [12#32, 16#32, 24#32, 28#32] := by rw [l_r]; unfold wofL wofF wofN; rw [s_t, l_t, s_c, l_c]; kernel_rfl
    clear hz e_r h_r
    replace hcw := hcw.bs hn
    replace t_u := t_u.bs hn
    replace b_r := b_r.bs hn
    replace t_v := t_v.bs hn
    replace h_c := h_c.bs hn
    clear hn
    refine AwC.back ?_
    refine AwC.take (i := 5) NoP.midS rfl (by kernel_rfl) (by kernel_rfl) (by kernel_rfl) (fun w1 hc => Ex.move rfl) rfl ?_
    refine AwC.take (i := 6) NoP.midS rfl (by kernel_rfl) (by kernel_rfl) (by kernel_rfl) (fun w1 hc => Ex.extract (i := 0) rfl rfl) rfl ?_
    refine AwC.take (i := 7) NoP.midS rfl (by kernel_rfl) (by kernel_rfl) (by kernel_rfl) (fun w1 hc => Ex.extract (i := 1) rfl rfl) rfl ?_
    refine AwC.only (by assumption) (i := 9) (by kernel_rfl) rfl ?_
    refine Lw.unit (Xu.stA (cs := [r.x, r.y]) rfl rfl rfl rfl m_r.one b_r rfl) ?_
    rintro w2 ⟨b_r2, hg, -⟩
    have m_r := made_apart m_r b_r (by decide) (by decide) hg
    have hcw := hcw.grown hg hcw.size (by rintro _ ⟨⟩; omega)
    refine AwC.back ?_
    refine AwC.take (i := 10) NoP.midS rfl (by kernel_rfl) (by kernel_rfl) (by kernel_rfl) (fun w1 hc => Ex.assign rfl) rfl ?_
    refine AwC.done (by assumption) (by kernel_rfl) ?_
    exact Pw.midS ((r, A_r)) ⟨rfl, rfl, rfl, trivial⟩ (⟨hcw, ⟨m_r.sh, own_sl m_r.own⟩, b_r2, s_r, l_r⟩)
    refine Lw.valW (Xw.lit (vs := ([1#32, 1#32, 1#32, 1#32] : List (BitVec 32)).map i32) st_23 it_21 rfl (by kernel_rfl) rfl rfl rfl) rfl ?_
    rintro v w ⟨ho, -, hn, -⟩
    have t_v := own_slT ho
    clear ho
    replace hcw := hcw.bs hn
    clear hn
    refine AwC.back ?_
    refine AwC.two (by assumption) (i := 1) (j := 8) (by kernel_rfl) rfl rfl ?_ ?_
    refine Lw.valW (Xw.lit (vs := ([1, 1, 2, 2] : List Int).map (Value.int .i64)) st_22 it_3 rfl rfl rfl rfl rfl) rfl ?_
    rintro u w ⟨ho, -, hn, -⟩
    have t_u := own_slT ho
    clear ho
    replace hcw := hcw.bs hn
    replace t_v := t_v.bs hn
    clear hn
    refine AwC.back ?_
    refine AwC.two (by assumption) (i := 3) (j := 8) (by kernel_rfl) rfl rfl ?_ ?_
    refine Lw.callF rfl rfl (of8_c u v [1, 1, 2, 2] [1#32, 1#32, 1#32, 1#32] _ t_u t_v) ?_
    rintro _ w ⟨c, rfl, s_c, l_c, h_c, hn⟩
    replace hcw := hcw.bs hn
    replace t_v := t_v.bs hn
    replace t_u := t_u.bs hn
    clear hn
    refine AwC.back ?_
    refine AwC.two (by assumption) (i := 4) (j := 8) (by kernel_rfl) rfl rfl ?_ ?_
    refine Lw.callF rfl rfl (wof_c t c 1 0 _ (h_t.bs hcw) h_c) ?_
    rintro _ w ⟨hn, r, rfl, h_r, -, hz⟩
    have e_r : wofE t c 1 0 = 0 := by unfold wofE; rw [s_t, l_t, s_c, l_c]; kernel_rfl
    rw [e_r]
    obtain ⟨s_r, l_r, m_r⟩ := hz e_r
    rw [← s_r, ← l_r] at m_r
    replace s_r : r.s = [1, 2, 2] := by rw [s_r, s_t, s_c]; kernel_rfl
    replace l_r : r.l = [12#32, 16#32, 24#32, 28#32] := by rw [l_r]; unfold wofL wofF wofN; rw [s_t, l_t, s_c, l_c]; kernel_rfl
    clear hz e_r h_r
    replace hcw := hcw.bs hn
    replace t_v := t_v.bs hn
    replace t_u := t_u.bs hn
    replace h_c := h_c.bs hn
    clear hn
    refine AwC.back ?_
    refine AwC.take (i := 5) NoP.midS rfl (by kernel_rfl) (by kernel_rfl) (by kernel_rfl) (fun w1 hc => Ex.move rfl) rfl ?_
    refine AwC.take (i := 6) NoP.midS rfl (by kernel_rfl) (by kernel_rfl) (by kernel_rfl) (fun w1 hc => Ex.extract (i := 0) rfl rfl) rfl ?_
    refine AwC.take (i := 7) NoP.midS rfl (by kernel_rfl) (by kernel_rfl) (by kernel_rfl) (fun w1 hc => Ex.extract (i := 1) rfl rfl) rfl ?_
    refine AwC.only (by assumption) (i := 8) (by kernel_rfl) rfl ?_
    refine Lw.newA it_25 rfl ?_
    rintro A_r w eA_r b_r hn -
    have g_r : w1.heap.size ≤ A_r := by have := hcw.size; omega
    replace hcw := hcw.bs hn
    replace t_v := t_v.bs hn
    replace t_u := t_u.bs hn
    replace h_c := h_c.bs hn
    replace m_r := m_r.bs hn
    clear hn
    refine AwC.back ?_
    refine AwC.only (by assumption) (i := 9) (by kernel_rfl) rfl ?_
    refine Lw.unit (Xu.stA (cs := [r.x, r.y]) rfl rfl rfl rfl m_r.one b_r rfl) ?_
    rintro w2 ⟨b_r2, hg, -⟩
    have m_r := made_apart m_r b_r (by decide) (by decide) hg
    have hcw := hcw.grown hg hcw.size (by rintro _ ⟨⟩; omega)
    refine AwC.back ?_
    refine AwC.take (i := 10) NoP.midS rfl (by kernel_rfl) (by kernel_rfl) (by kernel_rfl) (fun w1 hc => Ex.assign rfl) rfl ?_
    refine AwC.done (by assumption) (by kernel_rfl) ?_
    exact Pw.midS ((r, A_r)) ⟨rfl, rfl, rfl, trivial⟩ (⟨hcw, ⟨m_r.sh, own_sl m_r.own⟩, b_r2, s_r, l_r⟩)
    refine Lw.newA it_25 rfl ?_
    rintro A_r w eA_r b_r hn -
    have g_r : w1.heap.size ≤ A_r := by have := hcw.size; omega
    replace hcw := hcw.bs hn
    replace t_v := t_v.bs hn
    replace t_u := t_u.bs hn
    replace h_c := h_c.bs hn
    clear hn
    refine AwC.back ?_
    refine AwC.only (by assumption) (i := 4) (by kernel_rfl) rfl ?_
    refine Lw.callF rfl rfl (wof_c t c 1 0 _ (h_t.bs hcw) h_c) ?_
    rintro _ w ⟨hn, r, rfl, h_r, -, hz⟩
    have e_r : wofE t c 1 0 = 0 := by unfold wofE; rw [s_t, l_t, s_c, l_c]; kernel_rfl
    rw [e_r]
    obtain ⟨s_r, l_r, m_r⟩ := hz e_r
    rw [← s_r, ← l_r] at m_r
    replace s_r : r.s = [1, 2, 2] := by rw [s_r, s_t, s_c]; kernel_rfl
    replace l_r : r.l = [12#32, 16#32, 24#32, 28#32] := by rw [l_r]; unfold wofL wofF wofN; rw [s_t, l_t, s_c, l_c]; kernel_rfl
    clear hz e_r h_r
    replace hcw := hcw.bs hn
    replace t_v := t_v.bs hn
    replace t_u := t_u.bs hn
    replace h_c := h_c.bs hn
    replace b_r := b_r.bs hn
    clear hn
    refine AwC.back ?_
    refine AwC.take (i := 5) NoP.midS rfl (by kernel_rfl) (by kernel_rfl) (by kernel_rfl) (fun w1 hc => Ex.move rfl) rfl ?_
    refine AwC.take (i := 6) NoP.midS rfl (by kernel_rfl) (by kernel_rfl) (by kernel_rfl) (fun w1 hc => Ex.extract (i := 0) rfl rfl) rfl ?_
    refine AwC.take (i := 7) NoP.midS rfl (by kernel_rfl) (by kernel_rfl) (by kernel_rfl) (fun w1 hc => Ex.extract (i := 1) rfl rfl) rfl ?_
    refine AwC.only (by assumption) (i := 9) (by kernel_rfl) rfl ?_
    refine Lw.unit (Xu.stA (cs := [r.x, r.y]) rfl rfl rfl rfl m_r.one b_r rfl) ?_
    rintro w2 ⟨b_r2, hg, -⟩
    have m_r := made_apart m_r b_r (by decide) (by decide) hg
    have hcw := hcw.grown hg hcw.size (by rintro _ ⟨⟩; omega)
    refine AwC.back ?_
    refine AwC.take (i := 10) NoP.midS rfl (by kernel_rfl) (by kernel_rfl) (by kernel_rfl) (fun w1 hc => Ex.assign rfl) rfl ?_
    refine AwC.done (by assumption) (by kernel_rfl) ?_
    exact Pw.midS ((r, A_r)) ⟨rfl, rfl, rfl, trivial⟩ (⟨hcw, ⟨m_r.sh, own_sl m_r.own⟩, b_r2, s_r, l_r⟩)
    refine Lw.newA it_25 rfl ?_
    rintro A_r w eA_r b_r hn -
    have g_r : w1.heap.size ≤ A_r := by have := hcw.size; omega
    replace hcw := hcw.bs hn
    replace t_v := t_v.bs hn
    replace t_u := t_u.bs hn
    clear hn
    refine AwC.back ?_
    refine AwC.only (by assumption) (i := 3) (by kernel_rfl) rfl ?_
    refine Lw.callF rfl rfl (of8_c u v [1, 1, 2, 2] [1#32, 1#32, 1#32, 1#32] _ t_u t_v) ?_
    rintro _ w ⟨c, rfl, s_c, l_c, h_c, hn⟩
    replace hcw := hcw.bs hn
    replace t_v := t_v.bs hn
    replace t_u := t_u.bs hn
    replace b_r := b_r.bs hn
    clear hn
    refine AwC.back ?_
    refine AwC.only (by assumption) (i := 4) (by kernel_rfl) rfl ?_
    refine Lw.callF rfl rfl (wof_c t c 1 0 _ (h_t.bs hcw) h_c) ?_
    rintro _ w ⟨hn, r, rfl, h_r, -, hz⟩
    have e_r : wofE t c 1 0 = 0 := by unfold wofE; rw [s_t, l_t, s_c, l_c]; kernel_rfl
    rw [e_r]
    obtain ⟨s_r, l_r, m_r⟩ := hz e_r
    rw [← s_r, ← l_r] at m_r
    replace s_r : r.s = [1, 2, 2] := by rw [s_r, s_t, s_c]; kernel_rfl
    replace l_r : r.l = [12#32, 16#32, 24#32, 28#32] := by rw [l_r]; unfold wofL wofF wofN; rw [s_t, l_t, s_c, l_c]; kernel_rfl
    clear hz e_r h_r
    replace hcw := hcw.bs hn
    replace t_v := t_v.bs hn
    replace t_u := t_u.bs hn
    replace b_r := b_r.bs hn
    replace h_c := h_c.bs hn
    clear hn
    refine AwC.back ?_
    refine AwC.take (i := 5) NoP.midS rfl (by kernel_rfl) (by kernel_rfl) (by kernel_rfl) (fun w1 hc => Ex.move rfl) rfl ?_
    refine AwC.take (i := 6) NoP.midS rfl (by kernel_rfl) (by kernel_rfl) (by kernel_rfl) (fun w1 hc => Ex.extract (i := 0) rfl rfl) rfl ?_
    refine AwC.take (i := 7) NoP.midS rfl (by kernel_rfl) (by kernel_rfl) (by kernel_rfl) (fun w1 hc => Ex.extract (i := 1) rfl rfl) rfl ?_
    refine AwC.only (by assumption) (i := 9) (by kernel_rfl) rfl ?_
    refine Lw.unit (Xu.stA (cs := [r.x, r.y]) rfl rfl rfl rfl m_r.one b_r rfl) ?_
    rintro w2 ⟨b_r2, hg, -⟩
    have m_r := made_apart m_r b_r (by decide) (by decide) hg
    have hcw := hcw.grown hg hcw.size (by rintro _ ⟨⟩; omega)
    refine AwC.back ?_
    refine AwC.take (i := 10) NoP.midS rfl (by kernel_rfl) (by kernel_rfl) (by kernel_rfl) (fun w1 hc => Ex.assign rfl) rfl ?_
    refine AwC.done (by assumption) (by kernel_rfl) ?_
    exact Pw.midS ((r, A_r)) ⟨rfl, rfl, rfl, trivial⟩ (⟨hcw, ⟨m_r.sh, own_sl m_r.own⟩, b_r2, s_r, l_r⟩)
    refine Lw.newA it_25 rfl ?_
    rintro A_r w eA_r b_r hn -
    have g_r : w1.heap.size ≤ A_r := by have := hcw.size; omega
    replace hcw := hcw.bs hn
    replace t_v := t_v.bs hn
    clear hn
    refine AwC.back ?_
    refine AwC.only (by assumption) (i := 1) (by kernel_rfl) rfl ?_
    refine Lw.valW (Xw.lit (vs := ([1, 1, 2, 2] : List Int).map (Value.int .i64)) st_22 it_3 rfl rfl rfl rfl rfl) rfl ?_
    rintro u w ⟨ho, -, hn, -⟩
    have t_u := own_slT ho
    clear ho
    replace hcw := hcw.bs hn
    replace t_v := t_v.bs hn
    replace b_r := b_r.bs hn
    clear hn
    refine AwC.back ?_
    refine AwC.only (by assumption) (i := 3) (by kernel_rfl) rfl ?_
    refine Lw.callF rfl rfl (of8_c u v [1, 1, 2, 2] [1#32, 1#32, 1#32, 1#32] _ t_u t_v) ?_
    rintro _ w ⟨c, rfl, s_c, l_c, h_c, hn⟩
    replace hcw := hcw.bs hn
    replace t_v := t_v.bs hn
    replace b_r := b_r.bs hn
    replace t_u := t_u.bs hn
    clear hn
    refine AwC.back ?_
    refine AwC.only (by assumption) (i := 4) (by kernel_rfl) rfl ?_
    refine Lw.callF rfl rfl (wof_c t c 1 0 _ (h_t.bs hcw) h_c) ?_
    rintro _ w ⟨hn, r, rfl, h_r, -, hz⟩
    have e_r : wofE t c 1 0 = 0 := by unfold wofE; rw [s_t, l_t, s_c, l_c]; kernel_rfl
    rw [e_r]
    obtain ⟨s_r, l_r, m_r⟩ := hz e_r
    rw [← s_r, ← l_r] at m_r
    replace s_r : r.s = [1, 2, 2] := by rw [s_r, s_t, s_c]; kernel_rfl
    replace l_r : r.l = [12#32, 16#32, 24#32, 28#32] := by rw [l_r]; unfold wofL wofF wofN; rw [s_t, l_t, s_c, l_c]; kernel_rfl
    clear hz e_r h_r
    replace hcw := hcw.bs hn
    replace t_v := t_v.bs hn
    replace b_r := b_r.bs hn
    replace t_u := t_u.bs hn
    replace h_c := h_c.bs hn
    clear hn
    refine AwC.back ?_
    refine AwC.take (i := 5) NoP.midS rfl (by kernel_rfl) (by kernel_rfl) (by kernel_rfl) (fun w1 hc => Ex.move rfl) rfl ?_
    refine AwC.take (i := 6) NoP.midS rfl (by kernel_rfl) (by kernel_rfl) (by kernel_rfl) (fun w1 hc => Ex.extract (i := 0) rfl rfl) rfl ?_
    refine AwC.take (i := 7) NoP.midS rfl (by kernel_rfl) (by kernel_rfl) (by kernel_rfl) (fun w1 hc => Ex.extract (i := 1) rfl rfl) rfl ?_
    refine AwC.only (by assumption) (i := 9) (by kernel_rfl) rfl ?_
    refine Lw.unit (Xu.stA (cs := [r.x, r.y]) rfl rfl rfl rfl m_r.one b_r rfl) ?_
    rintro w2 ⟨b_r2, hg, -⟩
    have m_r := made_apart m_r b_r (by decide) (by decide) hg
    have hcw := hcw.grown hg hcw.size (by rintro _ ⟨⟩; omega)
    refine AwC.back ?_
    refine AwC.take (i := 10) NoP.midS rfl (by kernel_rfl) (by kernel_rfl) (by kernel_rfl) (fun w1 hc => Ex.assign rfl) rfl ?_
    refine AwC.done (by assumption) (by kernel_rfl) ?_
    exact Pw.midS ((r, A_r)) ⟨rfl, rfl, rfl, trivial⟩ (⟨hcw, ⟨m_r.sh, own_sl m_r.own⟩, b_r2, s_r, l_r⟩)
    refine Lw.newA it_25 rfl ?_
    rintro A_r w eA_r b_r hn -
    have g_r : w1.heap.size ≤ A_r := by have := hcw.size; omega
    replace hcw := hcw.bs hn
    clear hn
    refine AwC.back ?_
    refine AwC.two (by assumption) (i := 1) (j := 2) (by kernel_rfl) rfl rfl ?_ ?_
    refine Lw.valW (Xw.lit (vs := ([1, 1, 2, 2] : List Int).map (Value.int .i64)) st_22 it_3 rfl rfl rfl rfl rfl) rfl ?_
    rintro u w ⟨ho, -, hn, -⟩
    have t_u := own_slT ho
    clear ho
    replace hcw := hcw.bs hn
    replace b_r := b_r.bs hn
    clear hn
    refine AwC.back ?_
    refine AwC.only (by assumption) (i := 2) (by kernel_rfl) rfl ?_
    refine Lw.valW (Xw.lit (vs := ([1#32, 1#32, 1#32, 1#32] : List (BitVec 32)).map i32) st_23 it_21 rfl (by kernel_rfl) rfl rfl rfl) rfl ?_
    rintro v w ⟨ho, -, hn, -⟩
    have t_v := own_slT ho
    clear ho
    replace hcw := hcw.bs hn
    replace b_r := b_r.bs hn
    replace t_u := t_u.bs hn
    clear hn
    refine AwC.back ?_
    refine AwC.only (by assumption) (i := 3) (by kernel_rfl) rfl ?_
    refine Lw.callF rfl rfl (of8_c u v [1, 1, 2, 2] [1#32, 1#32, 1#32, 1#32] _ t_u t_v) ?_
    rintro _ w ⟨c, rfl, s_c, l_c, h_c, hn⟩
    replace hcw := hcw.bs hn
    replace b_r := b_r.bs hn
    replace t_u := t_u.bs hn
    replace t_v := t_v.bs hn
    clear hn
    refine AwC.back ?_
    refine AwC.only (by assumption) (i := 4) (by kernel_rfl) rfl ?_
    refine Lw.callF rfl rfl (wof_c t c 1 0 _ (h_t.bs hcw) h_c) ?_
    rintro _ w ⟨hn, r, rfl, h_r, -, hz⟩
    have e_r : wofE t c 1 0 = 0 := by unfold wofE; rw [s_t, l_t, s_c, l_c]; kernel_rfl
    rw [e_r]
    obtain ⟨s_r, l_r, m_r⟩ := hz e_r
    rw [← s_r, ← l_r] at m_r
    replace s_r : r.s = [1, 2, 2] := by rw [s_r, s_t, s_c]; kernel_rfl
    replace l_r : r.l = [12#32, 16#32, 24#32, 28#32] := by rw [l_r]; unfold wofL wofF wofN; rw [s_t, l_t, s_c, l_c]; kernel_rfl
    clear hz e_r h_r
    replace hcw := hcw.bs hn
    replace b_r := b_r.bs hn
    replace t_u := t_u.bs hn
    replace t_v := t_v.bs hn
    replace h_c := h_c.bs hn
    clear hn
    refine AwC.back ?_
    refine AwC.take (i := 5) NoP.midS rfl (by kernel_rfl) (by kernel_rfl) (by kernel_rfl) (fun w1 hc => Ex.move rfl) rfl ?_
    refine AwC.take (i := 6) NoP.midS rfl (by kernel_rfl) (by kernel_rfl) (by kernel_rfl) (fun w1 hc => Ex.extract (i := 0) rfl rfl) rfl ?_
    refine AwC.take (i := 7) NoP.midS rfl (by kernel_rfl) (by kernel_rfl) (by kernel_rfl) (fun w1 hc => Ex.extract (i := 1) rfl rfl) rfl ?_
    refine AwC.only (by assumption) (i := 9) (by kernel_rfl) rfl ?_
    refine Lw.unit (Xu.stA (cs := [r.x, r.y]) rfl rfl rfl rfl m_r.one b_r rfl) ?_
    rintro w2 ⟨b_r2, hg, -⟩
    have m_r := made_apart m_r b_r (by decide) (by decide) hg
    have hcw := hcw.grown hg hcw.size (by rintro _ ⟨⟩; omega)
    refine AwC.back ?_
    refine AwC.take (i := 10) NoP.midS rfl (by kernel_rfl) (by kernel_rfl) (by kernel_rfl) (fun w1 hc => Ex.assign rfl) rfl ?_
    refine AwC.done (by assumption) (by kernel_rfl) ?_
    exact Pw.midS ((r, A_r)) ⟨rfl, rfl, rfl, trivial⟩ (⟨hcw, ⟨m_r.sh, own_sl m_r.own⟩, b_r2, s_r, l_r⟩)
    refine Lw.valW (Xw.lit (vs := ([1#32, 1#32, 1#32, 1#32] : List (BitVec 32)).map i32) st_23 it_21 rfl (by kernel_rfl) rfl rfl rfl) rfl ?_
    rintro v w ⟨ho, -, hn, -⟩
    have t_v := own_slT ho
    clear ho
    replace hcw := hcw.bs hn
    replace b_r := b_r.bs hn
    clear hn
    refine AwC.back ?_
    refine AwC.only (by assumption) (i := 1) (by kernel_rfl) rfl ?_
    refine Lw.valW (Xw.lit (vs := ([1, 1, 2, 2] : List Int).map (Value.int .i64)) st_22 it_3 rfl rfl rfl rfl rfl) rfl ?_
    rintro u w ⟨ho, -, hn, -⟩
    have t_u := own_slT ho
    clear ho
    replace hcw := hcw.bs hn
    replace b_r := b_r.bs hn
    replace t_v := t_v.bs hn
    clear hn
    refine AwC.back ?_
    refine AwC.only (by assumption) (i := 3) (by kernel_rfl) rfl ?_
    refine Lw.callF rfl rfl (of8_c u v [1, 1, 2, 2] [1#32, 1#32, 1#32, 1#32] _ t_u t_v) ?_
    rintro _ w ⟨c, rfl, s_c, l_c, h_c, hn⟩
    replace hcw := hcw.bs hn
    replace b_r := b_r.bs hn
    replace t_v := t_v.bs hn
    replace t_u := t_u.bs hn
    clear hn
    refine AwC.back ?_
    refine AwC.only (by assumption) (i := 4) (by kernel_rfl) rfl ?_
    refine Lw.callF rfl rfl (wof_c t c 1 0 _ (h_t.bs hcw) h_c) ?_
    rintro _ w ⟨hn, r, rfl, h_r, -, hz⟩
    have e_r : wofE t c 1 0 = 0 := by unfold wofE; rw [s_t, l_t, s_c, l_c]; kernel_rfl
    rw [e_r]
    obtain ⟨s_r, l_r, m_r⟩ := hz e_r
    rw [← s_r, ← l_r] at m_r
    replace s_r : r.s = [1, 2, 2] := by rw [s_r, s_t, s_c]; kernel_rfl
    replace l_r : r.l = [12#32, 16#32, 24#32, 28#32] := by rw [l_r]; unfold wofL wofF wofN; rw [s_t, l_t, s_c, l_c]; kernel_rfl
    clear hz e_r h_r
    replace hcw := hcw.bs hn
    replace b_r := b_r.bs hn
    replace t_v := t_v.bs hn
    replace t_u := t_u.bs hn
    replace h_c := h_c.bs hn
    clear hn
    refine AwC.back ?_
    refine AwC.take (i := 5) NoP.midS rfl (by kernel_rfl) (by kernel_rfl) (by kernel_rfl) (fun w1 hc => Ex.move rfl) rfl ?_
    refine AwC.take (i := 6) NoP.midS rfl (by kernel_rfl) (by kernel_rfl) (by kernel_rfl) (fun w1 hc => Ex.extract (i := 0) rfl rfl) rfl ?_
    refine AwC.take (i := 7) NoP.midS rfl (by kernel_rfl) (by kernel_rfl) (by kernel_rfl) (fun w1 hc => Ex.extract (i := 1) rfl rfl) rfl ?_
    refine AwC.only (by assumption) (i := 9) (by kernel_rfl) rfl ?_
    refine Lw.unit (Xu.stA (cs := [r.x, r.y]) rfl rfl rfl rfl m_r.one b_r rfl) ?_
    rintro w2 ⟨b_r2, hg, -⟩
    have m_r := made_apart m_r b_r (by decide) (by decide) hg
    have hcw := hcw.grown hg hcw.size (by rintro _ ⟨⟩; omega)
    refine AwC.back ?_
    refine AwC.take (i := 10) NoP.midS rfl (by kernel_rfl) (by kernel_rfl) (by kernel_rfl) (fun w1 hc => Ex.assign rfl) rfl ?_
    refine AwC.done (by assumption) (by kernel_rfl) ?_
    exact Pw.midS ((r, A_r)) ⟨rfl, rfl, rfl, trivial⟩ (⟨hcw, ⟨m_r.sh, own_sl m_r.own⟩, b_r2, s_r, l_r⟩)
  rintro ⟨a, A_a⟩ w ⟨hn, h_a, b_a, s_a, l_a⟩
  dsimp only at h_a b_a s_a l_a ⊢
  refine Cw.out ?_
  replace hB := hB.bs hn
  replace h_t := h_t.bs hn
  replace b_t := b_t.bs hn
  clear hn
  refine Cw.seq ?_
  rename World => w1
  refine Cw.midS (St := T4 × Nat) (fun z => [(1, .pointer (some ⟨A_t, 0, none⟩)), (2, .pointer (some ⟨A_a, 0, none⟩)), (3, .int .i64 0), (4, .pointer (some ⟨z.2, 0, none⟩)), (5, .int .i64 0)]) (fun z w' => Below w1.heap.size w1 w' ∧ z.1.at w' ∧ Blk w' z.2 25 [z.1.x, z.1.y] ∧ z.1.s = [1, 3, 3] ∧ z.1.l = [0#32, 0#32, 0#32, 0#32, 5#32, 0#32, 0#32, 0#32, 0#32]) ?_ ?_
  · refine Cw.any mixed (fun w hcw _ => ?_)
    refine Aw.cls (fun w' => Below w1.heap.size w1 w') (fun hC => ?_) (hcw)
    refine AwC.take (i := 0) NoP.midS rfl (by kernel_rfl) (by kernel_rfl) (by kernel_rfl) (fun w1 hc => Ex.ldA (ag_25 _) (sz_25 _) rfl rfl (Blk.bs (by assumption) hc)) rfl ?_
    refine AwC.three (by assumption) (i0 := 1) (i1 := 2) (i2 := 8) (by kernel_rfl) rfl rfl rfl ?_ ?_ ?_
    refine Lw.valW (Xw.lit (vs := ([1, 1, 1, 1] : List Int).map (Value.int .i64)) st_22 it_3 rfl rfl rfl rfl rfl) rfl ?_
    rintro u w ⟨ho, -, hn, -⟩
    have t_u := own_slT ho
    clear ho
    replace hcw := hcw.bs hn
    clear hn
    refine AwC.back ?_
    refine AwC.two (by assumption) (i := 2) (j := 8) (by kernel_rfl) rfl rfl ?_ ?_
    refine Lw.valW (Xw.lit (vs := ([1#32] : List (BitVec 32)).map i32) st_23 it_21 rfl (by kernel_rfl) rfl rfl rfl) rfl ?_
    rintro v w ⟨ho, -, hn, -⟩
    have t_v := own_slT ho
    clear ho
    replace hcw := hcw.bs hn
    replace t_u := t_u.bs hn
    clear hn
    refine AwC.back ?_
    refine AwC.two (by assumption) (i := 3) (j := 8) (by kernel_rfl) rfl rfl ?_ ?_
    refine Lw.callF rfl rfl (of8_c u v [1, 1, 1, 1] [1#32] _ t_u t_v) ?_
    rintro _ w ⟨c, rfl, s_c, l_c, h_c, hn⟩
    replace hcw := hcw.bs hn
    replace t_u := t_u.bs hn
    replace t_v := t_v.bs hn
    clear hn
    refine AwC.back ?_
    refine AwC.two (by assumption) (i := 4) (j := 8) (by kernel_rfl) rfl rfl ?_ ?_
    refine Lw.callF rfl rfl (wof_c t c 2 1 _ (h_t.bs hcw) h_c) ?_
    rintro _ w ⟨hn, r, rfl, h_r, -, hz⟩
    have e_r : wofE t c 2 1 = 0 := by unfold wofE; rw [s_t, l_t, s_c, l_c]; kernel_rfl
    rw [e_r]
    obtain ⟨s_r, l_r, m_r⟩ := hz e_r
    rw [← s_r, ← l_r] at m_r
    replace s_r : r.s = [1, 3, 3] := by rw [s_r, s_t, s_c]; kernel_rfl
    replace l_r : r.l = [0#32, 0#32, 0#32, 0#32, 5#32, 0#32, 0#32, 0#32, 0#32] := by rw [l_r]; unfold wofL wofF wofN; rw [s_t, l_t, s_c, l_c]; kernel_rfl
    clear hz e_r h_r
    replace hcw := hcw.bs hn
    replace t_u := t_u.bs hn
    replace t_v := t_v.bs hn
    replace h_c := h_c.bs hn
    clear hn
    refine AwC.back ?_
    refine AwC.take (i := 5) NoP.midS rfl (by kernel_rfl) (by kernel_rfl) (by kernel_rfl) (fun w1 hc => Ex.move rfl) rfl ?_
    refine AwC.take (i := 6) NoP.midS rfl (by kernel_rfl) (by kernel_rfl) (by kernel_rfl) (fun w1 hc => Ex.extract (i := 0) rfl rfl) rfl ?_
    refine AwC.take (i := 7) NoP.midS rfl (by kernel_rfl) (by kernel_rfl) (by kernel_rfl) (fun w1 hc => Ex.extract (i := 1) rfl rfl) rfl ?_
    refine AwC.only (by assumption) (i := 8) (by kernel_rfl) rfl ?_
    refine Lw.newA it_25 rfl ?_
    rintro A_r w eA_r b_r hn -
    have g_r : w1.heap.size ≤ A_r := by have := hcw.size; omega
    replace hcw := hcw.bs hn
    replace t_u := t_u.bs hn
    replace t_v := t_v.bs hn
    replace h_c := h_c.bs hn
    replace m_r := m_r.bs hn
    clear hn
    refine AwC.back ?_
    refine AwC.only (by assumption) (i := 9) (by kernel_rfl) rfl ?_
    refine Lw.unit (Xu.stA (cs := [r.x, r.y]) rfl rfl rfl rfl m_r.one b_r rfl) ?_
    rintro w2 ⟨b_r2, hg, -⟩
    have m_r := made_apart m_r b_r (by decide) (by decide) hg
    have hcw := hcw.grown hg hcw.size (by rintro _ ⟨⟩; omega)
    refine AwC.back ?_
    refine AwC.take (i := 10) NoP.midS rfl (by kernel_rfl) (by kernel_rfl) (by kernel_rfl) (fun w1 hc => Ex.assign rfl) rfl ?_
    refine AwC.done (by assumption) (by kernel_rfl) ?_
    exact Pw.midS ((r, A_r)) ⟨rfl, rfl, rfl, rfl, rfl, trivial⟩ (⟨hcw, ⟨m_r.sh, own_sl m_r.own⟩, b_r2, s_r, l_r⟩)
    refine Lw.newA it_25 rfl ?_
    rintro A_r w eA_r b_r hn -
    have g_r : w1.heap.size ≤ A_r := by have := hcw.size; omega
    replace hcw := hcw.bs hn
    replace t_u := t_u.bs hn
    replace t_v := t_v.bs hn
    replace h_c := h_c.bs hn
    clear hn
    refine AwC.back ?_
    refine AwC.only (by assumption) (i := 4) (by kernel_rfl) rfl ?_
    refine Lw.callF rfl rfl (wof_c t c 2 1 _ (h_t.bs hcw) h_c) ?_
    rintro _ w ⟨hn, r, rfl, h_r, -, hz⟩
    have e_r : wofE t c 2 1 = 0 := by unfold wofE; rw [s_t, l_t, s_c, l_c]; kernel_rfl
    rw [e_r]
    obtain ⟨s_r, l_r, m_r⟩ := hz e_r
    rw [← s_r, ← l_r] at m_r
    replace s_r : r.s = [1, 3, 3] := by rw [s_r, s_t, s_c]; kernel_rfl
    replace l_r : r.l = [0#32, 0#32, 0#32, 0#32, 5#32, 0#32, 0#32, 0#32, 0#32] := by rw [l_r]; unfold wofL wofF wofN; rw [s_t, l_t, s_c, l_c]; kernel_rfl
    clear hz e_r h_r
    replace hcw := hcw.bs hn
    replace t_u := t_u.bs hn
    replace t_v := t_v.bs hn
    replace h_c := h_c.bs hn
    replace b_r := b_r.bs hn
    clear hn
    refine AwC.back ?_
    refine AwC.take (i := 5) NoP.midS rfl (by kernel_rfl) (by kernel_rfl) (by kernel_rfl) (fun w1 hc => Ex.move rfl) rfl ?_
    refine AwC.take (i := 6) NoP.midS rfl (by kernel_rfl) (by kernel_rfl) (by kernel_rfl) (fun w1 hc => Ex.extract (i := 0) rfl rfl) rfl ?_
    refine AwC.take (i := 7) NoP.midS rfl (by kernel_rfl) (by kernel_rfl) (by kernel_rfl) (fun w1 hc => Ex.extract (i := 1) rfl rfl) rfl ?_
    refine AwC.only (by assumption) (i := 9) (by kernel_rfl) rfl ?_
    refine Lw.unit (Xu.stA (cs := [r.x, r.y]) rfl rfl rfl rfl m_r.one b_r rfl) ?_
    rintro w2 ⟨b_r2, hg, -⟩
    have m_r := made_apart m_r b_r (by decide) (by decide) hg
    have hcw := hcw.grown hg hcw.size (by rintro _ ⟨⟩; omega)
    refine AwC.back ?_
    refine AwC.take (i := 10) NoP.midS rfl (by kernel_rfl) (by kernel_rfl) (by kernel_rfl) (fun w1 hc => Ex.assign rfl) rfl ?_
    refine AwC.done (by assumption) (by kernel_rfl) ?_
    exact Pw.midS ((r, A_r)) ⟨rfl, rfl, rfl, rfl, rfl, trivial⟩ (⟨hcw, ⟨m_r.sh, own_sl m_r.own⟩, b_r2, s_r, l_r⟩)
    refine Lw.newA it_25 rfl ?_
    rintro A_r w eA_r b_r hn -
    have g_r : w1.heap.size ≤ A_r := by have := hcw.size; omega
    replace hcw := hcw.bs hn
    replace t_u := t_u.bs hn
    replace t_v := t_v.bs hn
    clear hn
    refine AwC.back ?_
    refine AwC.only (by assumption) (i := 3) (by kernel_rfl) rfl ?_
    refine Lw.callF rfl rfl (of8_c u v [1, 1, 1, 1] [1#32] _ t_u t_v) ?_
    rintro _ w ⟨c, rfl, s_c, l_c, h_c, hn⟩
    replace hcw := hcw.bs hn
    replace t_u := t_u.bs hn
    replace t_v := t_v.bs hn
    replace b_r := b_r.bs hn
    clear hn
    refine AwC.back ?_
    refine AwC.only (by assumption) (i := 4) (by kernel_rfl) rfl ?_
    refine Lw.callF rfl rfl (wof_c t c 2 1 _ (h_t.bs hcw) h_c) ?_
    rintro _ w ⟨hn, r, rfl, h_r, -, hz⟩
    have e_r : wofE t c 2 1 = 0 := by unfold wofE; rw [s_t, l_t, s_c, l_c]; kernel_rfl
    rw [e_r]
    obtain ⟨s_r, l_r, m_r⟩ := hz e_r
    rw [← s_r, ← l_r] at m_r
    replace s_r : r.s = [1, 3, 3] := by rw [s_r, s_t, s_c]; kernel_rfl
    replace l_r : r.l = [0#32, 0#32, 0#32, 0#32, 5#32, 0#32, 0#32, 0#32, 0#32] := by rw [l_r]; unfold wofL wofF wofN; rw [s_t, l_t, s_c, l_c]; kernel_rfl
    clear hz e_r h_r
    replace hcw := hcw.bs hn
    replace t_u := t_u.bs hn
    replace t_v := t_v.bs hn
    replace b_r := b_r.bs hn
    replace h_c := h_c.bs hn
    clear hn
    refine AwC.back ?_
    refine AwC.take (i := 5) NoP.midS rfl (by kernel_rfl) (by kernel_rfl) (by kernel_rfl) (fun w1 hc => Ex.move rfl) rfl ?_
    refine AwC.take (i := 6) NoP.midS rfl (by kernel_rfl) (by kernel_rfl) (by kernel_rfl) (fun w1 hc => Ex.extract (i := 0) rfl rfl) rfl ?_
    refine AwC.take (i := 7) NoP.midS rfl (by kernel_rfl) (by kernel_rfl) (by kernel_rfl) (fun w1 hc => Ex.extract (i := 1) rfl rfl) rfl ?_
    refine AwC.only (by assumption) (i := 9) (by kernel_rfl) rfl ?_
    refine Lw.unit (Xu.stA (cs := [r.x, r.y]) rfl rfl rfl rfl m_r.one b_r rfl) ?_
    rintro w2 ⟨b_r2, hg, -⟩
    have m_r := made_apart m_r b_r (by decide) (by decide) hg
    have hcw := hcw.grown hg hcw.size (by rintro _ ⟨⟩; omega)
    refine AwC.back ?_
    refine AwC.take (i := 10) NoP.midS rfl (by kernel_rfl) (by kernel_rfl) (by kernel_rfl) (fun w1 hc => Ex.assign rfl) rfl ?_
    refine AwC.done (by assumption) (by kernel_rfl) ?_
    exact Pw.midS ((r, A_r)) ⟨rfl, rfl, rfl, rfl, rfl, trivial⟩ (⟨hcw, ⟨m_r.sh, own_sl m_r.own⟩, b_r2, s_r, l_r⟩)
    refine Lw.newA it_25 rfl ?_
    rintro A_r w eA_r b_r hn -
    have g_r : w1.heap.size ≤ A_r := by have := hcw.size; omega
    replace hcw := hcw.bs hn
    replace t_u := t_u.bs hn
    clear hn
    refine AwC.back ?_
    refine AwC.only (by assumption) (i := 2) (by kernel_rfl) rfl ?_
    refine Lw.valW (Xw.lit (vs := ([1#32] : List (BitVec 32)).map i32) st_23 it_21 rfl (by kernel_rfl) rfl rfl rfl) rfl ?_
    rintro v w ⟨ho, -, hn, -⟩
    have t_v := own_slT ho
    clear ho
    replace hcw := hcw.bs hn
    replace t_u := t_u.bs hn
    replace b_r := b_r.bs hn
    clear hn
    refine AwC.back ?_
    refine AwC.only (by assumption) (i := 3) (by kernel_rfl) rfl ?_
    refine Lw.callF rfl rfl (of8_c u v [1, 1, 1, 1] [1#32] _ t_u t_v) ?_
    rintro _ w ⟨c, rfl, s_c, l_c, h_c, hn⟩
    replace hcw := hcw.bs hn
    replace t_u := t_u.bs hn
    replace b_r := b_r.bs hn
    replace t_v := t_v.bs hn
    clear hn
    refine AwC.back ?_
    refine AwC.only (by assumption) (i := 4) (by kernel_rfl) rfl ?_
    refine Lw.callF rfl rfl (wof_c t c 2 1 _ (h_t.bs hcw) h_c) ?_
    rintro _ w ⟨hn, r, rfl, h_r, -, hz⟩
    have e_r : wofE t c 2 1 = 0 := by unfold wofE; rw [s_t, l_t, s_c, l_c]; kernel_rfl
    rw [e_r]
    obtain ⟨s_r, l_r, m_r⟩ := hz e_r
    rw [← s_r, ← l_r] at m_r
    replace s_r : r.s = [1, 3, 3] := by rw [s_r, s_t, s_c]; kernel_rfl
    replace l_r : r.l = [0#32, 0#32, 0#32, 0#32, 5#32, 0#32, 0#32, 0#32, 0#32] := by rw [l_r]; unfold wofL wofF wofN; rw [s_t, l_t, s_c, l_c]; kernel_rfl
    clear hz e_r h_r
    replace hcw := hcw.bs hn
    replace t_u := t_u.bs hn
    replace b_r := b_r.bs hn
    replace t_v := t_v.bs hn
    replace h_c := h_c.bs hn
    clear hn
    refine AwC.back ?_
    refine AwC.take (i := 5) NoP.midS rfl (by kernel_rfl) (by kernel_rfl) (by kernel_rfl) (fun w1 hc => Ex.move rfl) rfl ?_
    refine AwC.take (i := 6) NoP.midS rfl (by kernel_rfl) (by kernel_rfl) (by kernel_rfl) (fun w1 hc => Ex.extract (i := 0) rfl rfl) rfl ?_
    refine AwC.take (i := 7) NoP.midS rfl (by kernel_rfl) (by kernel_rfl) (by kernel_rfl) (fun w1 hc => Ex.extract (i := 1) rfl rfl) rfl ?_
    refine AwC.only (by assumption) (i := 9) (by kernel_rfl) rfl ?_
    refine Lw.unit (Xu.stA (cs := [r.x, r.y]) rfl rfl rfl rfl m_r.one b_r rfl) ?_
    rintro w2 ⟨b_r2, hg, -⟩
    have m_r := made_apart m_r b_r (by decide) (by decide) hg
    have hcw := hcw.grown hg hcw.size (by rintro _ ⟨⟩; omega)
    refine AwC.back ?_
    refine AwC.take (i := 10) NoP.midS rfl (by kernel_rfl) (by kernel_rfl) (by kernel_rfl) (fun w1 hc => Ex.assign rfl) rfl ?_
    refine AwC.done (by assumption) (by kernel_rfl) ?_
    exact Pw.midS ((r, A_r)) ⟨rfl, rfl, rfl, rfl, rfl, trivial⟩ (⟨hcw, ⟨m_r.sh, own_sl m_r.own⟩, b_r2, s_r, l_r⟩)
    refine Lw.valW (Xw.lit (vs := ([1#32] : List (BitVec 32)).map i32) st_23 it_21 rfl (by kernel_rfl) rfl rfl rfl) rfl ?_
    rintro v w ⟨ho, -, hn, -⟩
    have t_v := own_slT ho
    clear ho
    replace hcw := hcw.bs hn
    clear hn
    refine AwC.back ?_
    refine AwC.two (by assumption) (i := 1) (j := 8) (by kernel_rfl) rfl rfl ?_ ?_
    refine Lw.valW (Xw.lit (vs := ([1, 1, 1, 1] : List Int).map (Value.int .i64)) st_22 it_3 rfl rfl rfl rfl rfl) rfl ?_
    rintro u w ⟨ho, -, hn, -⟩
    have t_u := own_slT ho
    clear ho
    replace hcw := hcw.bs hn
    replace t_v := t_v.bs hn
    clear hn
    refine AwC.back ?_
    refine AwC.two (by assumption) (i := 3) (j := 8) (by kernel_rfl) rfl rfl ?_ ?_
    refine Lw.callF rfl rfl (of8_c u v [1, 1, 1, 1] [1#32] _ t_u t_v) ?_
    rintro _ w ⟨c, rfl, s_c, l_c, h_c, hn⟩
    replace hcw := hcw.bs hn
    replace t_v := t_v.bs hn
    replace t_u := t_u.bs hn
    clear hn
    refine AwC.back ?_
    refine AwC.two (by assumption) (i := 4) (j := 8) (by kernel_rfl) rfl rfl ?_ ?_
    refine Lw.callF rfl rfl (wof_c t c 2 1 _ (h_t.bs hcw) h_c) ?_
    rintro _ w ⟨hn, r, rfl, h_r, -, hz⟩
    have e_r : wofE t c 2 1 = 0 := by unfold wofE; rw [s_t, l_t, s_c, l_c]; kernel_rfl
    rw [e_r]
    obtain ⟨s_r, l_r, m_r⟩ := hz e_r
    rw [← s_r, ← l_r] at m_r
    replace s_r : r.s = [1, 3, 3] := by rw [s_r, s_t, s_c]; kernel_rfl
    replace l_r : r.l = [0#32, 0#32, 0#32, 0#32, 5#32, 0#32, 0#32, 0#32, 0#32] := by rw [l_r]; unfold wofL wofF wofN; rw [s_t, l_t, s_c, l_c]; kernel_rfl
    clear hz e_r h_r
    replace hcw := hcw.bs hn
    replace t_v := t_v.bs hn
    replace t_u := t_u.bs hn
    replace h_c := h_c.bs hn
    clear hn
    refine AwC.back ?_
    refine AwC.take (i := 5) NoP.midS rfl (by kernel_rfl) (by kernel_rfl) (by kernel_rfl) (fun w1 hc => Ex.move rfl) rfl ?_
    refine AwC.take (i := 6) NoP.midS rfl (by kernel_rfl) (by kernel_rfl) (by kernel_rfl) (fun w1 hc => Ex.extract (i := 0) rfl rfl) rfl ?_
    refine AwC.take (i := 7) NoP.midS rfl (by kernel_rfl) (by kernel_rfl) (by kernel_rfl) (fun w1 hc => Ex.extract (i := 1) rfl rfl) rfl ?_
    refine AwC.only (by assumption) (i := 8) (by kernel_rfl) rfl ?_
    refine Lw.newA it_25 rfl ?_
    rintro A_r w eA_r b_r hn -
    have g_r : w1.heap.size ≤ A_r := by have := hcw.size; omega
    replace hcw := hcw.bs hn
    replace t_v := t_v.bs hn
    replace t_u := t_u.bs hn
    replace h_c := h_c.bs hn
    replace m_r := m_r.bs hn
    clear hn
    refine AwC.back ?_
    refine AwC.only (by assumption) (i := 9) (by kernel_rfl) rfl ?_
    refine Lw.unit (Xu.stA (cs := [r.x, r.y]) rfl rfl rfl rfl m_r.one b_r rfl) ?_
    rintro w2 ⟨b_r2, hg, -⟩
    have m_r := made_apart m_r b_r (by decide) (by decide) hg
    have hcw := hcw.grown hg hcw.size (by rintro _ ⟨⟩; omega)
    refine AwC.back ?_
    refine AwC.take (i := 10) NoP.midS rfl (by kernel_rfl) (by kernel_rfl) (by kernel_rfl) (fun w1 hc => Ex.assign rfl) rfl ?_
    refine AwC.done (by assumption) (by kernel_rfl) ?_
    exact Pw.midS ((r, A_r)) ⟨rfl, rfl, rfl, rfl, rfl, trivial⟩ (⟨hcw, ⟨m_r.sh, own_sl m_r.own⟩, b_r2, s_r, l_r⟩)
    refine Lw.newA it_25 rfl ?_
    rintro A_r w eA_r b_r hn -
    have g_r : w1.heap.size ≤ A_r := by have := hcw.size; omega
    replace hcw := hcw.bs hn
    replace t_v := t_v.bs hn
    replace t_u := t_u.bs hn
    replace h_c := h_c.bs hn
    clear hn
    refine AwC.back ?_
    refine AwC.only (by assumption) (i := 4) (by kernel_rfl) rfl ?_
    refine Lw.callF rfl rfl (wof_c t c 2 1 _ (h_t.bs hcw) h_c) ?_
    rintro _ w ⟨hn, r, rfl, h_r, -, hz⟩
    have e_r : wofE t c 2 1 = 0 := by unfold wofE; rw [s_t, l_t, s_c, l_c]; kernel_rfl
    rw [e_r]
    obtain ⟨s_r, l_r, m_r⟩ := hz e_r
    rw [← s_r, ← l_r] at m_r
    replace s_r : r.s = [1, 3, 3] := by rw [s_r, s_t, s_c]; kernel_rfl
    replace l_r : r.l = [0#32, 0#32, 0#32, 0#32, 5#32, 0#32, 0#32, 0#32, 0#32] := by rw [l_r]; unfold wofL wofF wofN; rw [s_t, l_t, s_c, l_c]; kernel_rfl
    clear hz e_r h_r
    replace hcw := hcw.bs hn
    replace t_v := t_v.bs hn
    replace t_u := t_u.bs hn
    replace h_c := h_c.bs hn
    replace b_r := b_r.bs hn
    clear hn
    refine AwC.back ?_
    refine AwC.take (i := 5) NoP.midS rfl (by kernel_rfl) (by kernel_rfl) (by kernel_rfl) (fun w1 hc => Ex.move rfl) rfl ?_
    refine AwC.take (i := 6) NoP.midS rfl (by kernel_rfl) (by kernel_rfl) (by kernel_rfl) (fun w1 hc => Ex.extract (i := 0) rfl rfl) rfl ?_
    refine AwC.take (i := 7) NoP.midS rfl (by kernel_rfl) (by kernel_rfl) (by kernel_rfl) (fun w1 hc => Ex.extract (i := 1) rfl rfl) rfl ?_
    refine AwC.only (by assumption) (i := 9) (by kernel_rfl) rfl ?_
    refine Lw.unit (Xu.stA (cs := [r.x, r.y]) rfl rfl rfl rfl m_r.one b_r rfl) ?_
    rintro w2 ⟨b_r2, hg, -⟩
    have m_r := made_apart m_r b_r (by decide) (by decide) hg
    have hcw := hcw.grown hg hcw.size (by rintro _ ⟨⟩; omega)
    refine AwC.back ?_
    refine AwC.take (i := 10) NoP.midS rfl (by kernel_rfl) (by kernel_rfl) (by kernel_rfl) (fun w1 hc => Ex.assign rfl) rfl ?_
    refine AwC.done (by assumption) (by kernel_rfl) ?_
    exact Pw.midS ((r, A_r)) ⟨rfl, rfl, rfl, rfl, rfl, trivial⟩ (⟨hcw, ⟨m_r.sh, own_sl m_r.own⟩, b_r2, s_r, l_r⟩)
    refine Lw.newA it_25 rfl ?_
    rintro A_r w eA_r b_r hn -
    have g_r : w1.heap.size ≤ A_r := by have := hcw.size; omega
    replace hcw := hcw.bs hn
    replace t_v := t_v.bs hn
    replace t_u := t_u.bs hn
    clear hn
    refine AwC.back ?_
    refine AwC.only (by assumption) (i := 3) (by kernel_rfl) rfl ?_
    refine Lw.callF rfl rfl (of8_c u v [1, 1, 1, 1] [1#32] _ t_u t_v) ?_
    rintro _ w ⟨c, rfl, s_c, l_c, h_c, hn⟩
    replace hcw := hcw.bs hn
    replace t_v := t_v.bs hn
    replace t_u := t_u.bs hn
    replace b_r := b_r.bs hn
    clear hn
    refine AwC.back ?_
    refine AwC.only (by assumption) (i := 4) (by kernel_rfl) rfl ?_
    refine Lw.callF rfl rfl (wof_c t c 2 1 _ (h_t.bs hcw) h_c) ?_
    rintro _ w ⟨hn, r, rfl, h_r, -, hz⟩
    have e_r : wofE t c 2 1 = 0 := by unfold wofE; rw [s_t, l_t, s_c, l_c]; kernel_rfl
    rw [e_r]
    obtain ⟨s_r, l_r, m_r⟩ := hz e_r
    rw [← s_r, ← l_r] at m_r
    replace s_r : r.s = [1, 3, 3] := by rw [s_r, s_t, s_c]; kernel_rfl
    replace l_r : r.l = [0#32, 0#32, 0#32, 0#32, 5#32, 0#32, 0#32, 0#32, 0#32] := by rw [l_r]; unfold wofL wofF wofN; rw [s_t, l_t, s_c, l_c]; kernel_rfl
    clear hz e_r h_r
    replace hcw := hcw.bs hn
    replace t_v := t_v.bs hn
    replace t_u := t_u.bs hn
    replace b_r := b_r.bs hn
    replace h_c := h_c.bs hn
    clear hn
    refine AwC.back ?_
    refine AwC.take (i := 5) NoP.midS rfl (by kernel_rfl) (by kernel_rfl) (by kernel_rfl) (fun w1 hc => Ex.move rfl) rfl ?_
    refine AwC.take (i := 6) NoP.midS rfl (by kernel_rfl) (by kernel_rfl) (by kernel_rfl) (fun w1 hc => Ex.extract (i := 0) rfl rfl) rfl ?_
    refine AwC.take (i := 7) NoP.midS rfl (by kernel_rfl) (by kernel_rfl) (by kernel_rfl) (fun w1 hc => Ex.extract (i := 1) rfl rfl) rfl ?_
    refine AwC.only (by assumption) (i := 9) (by kernel_rfl) rfl ?_
    refine Lw.unit (Xu.stA (cs := [r.x, r.y]) rfl rfl rfl rfl m_r.one b_r rfl) ?_
    rintro w2 ⟨b_r2, hg, -⟩
    have m_r := made_apart m_r b_r (by decide) (by decide) hg
    have hcw := hcw.grown hg hcw.size (by rintro _ ⟨⟩; omega)
    refine AwC.back ?_
    refine AwC.take (i := 10) NoP.midS rfl (by kernel_rfl) (by kernel_rfl) (by kernel_rfl) (fun w1 hc => Ex.assign rfl) rfl ?_
    refine AwC.done (by assumption) (by kernel_rfl) ?_
    exact Pw.midS ((r, A_r)) ⟨rfl, rfl, rfl, rfl, rfl, trivial⟩ (⟨hcw, ⟨m_r.sh, own_sl m_r.own⟩, b_r2, s_r, l_r⟩)
    refine Lw.newA it_25 rfl ?_
    rintro A_r w eA_r b_r hn -
    have g_r : w1.heap.size ≤ A_r := by have := hcw.size; omega
    replace hcw := hcw.bs hn
    replace t_v := t_v.bs hn
    clear hn
    refine AwC.back ?_
    refine AwC.only (by assumption) (i := 1) (by kernel_rfl) rfl ?_
    refine Lw.valW (Xw.lit (vs := ([1, 1, 1, 1] : List Int).map (Value.int .i64)) st_22 it_3 rfl rfl rfl rfl rfl) rfl ?_
    rintro u w ⟨ho, -, hn, -⟩
    have t_u := own_slT ho
    clear ho
    replace hcw := hcw.bs hn
    replace t_v := t_v.bs hn
    replace b_r := b_r.bs hn
    clear hn
    refine AwC.back ?_
    refine AwC.only (by assumption) (i := 3) (by kernel_rfl) rfl ?_
    refine Lw.callF rfl rfl (of8_c u v [1, 1, 1, 1] [1#32] _ t_u t_v) ?_
    rintro _ w ⟨c, rfl, s_c, l_c, h_c, hn⟩
    replace hcw := hcw.bs hn
    replace t_v := t_v.bs hn
    replace b_r := b_r.bs hn
    replace t_u := t_u.bs hn
    clear hn
    refine AwC.back ?_
    refine AwC.only (by assumption) (i := 4) (by kernel_rfl) rfl ?_
    refine Lw.callF rfl rfl (wof_c t c 2 1 _ (h_t.bs hcw) h_c) ?_
    rintro _ w ⟨hn, r, rfl, h_r, -, hz⟩
    have e_r : wofE t c 2 1 = 0 := by unfold wofE; rw [s_t, l_t, s_c, l_c]; kernel_rfl
    rw [e_r]
    obtain ⟨s_r, l_r, m_r⟩ := hz e_r
    rw [← s_r, ← l_r] at m_r
    replace s_r : r.s = [1, 3, 3] := by rw [s_r, s_t, s_c]; kernel_rfl
    replace l_r : r.l = [0#32, 0#32, 0#32, 0#32, 5#32, 0#32, 0#32, 0#32, 0#32] := by rw [l_r]; unfold wofL wofF wofN; rw [s_t, l_t, s_c, l_c]; kernel_rfl
    clear hz e_r h_r
    replace hcw := hcw.bs hn
    replace t_v := t_v.bs hn
    replace b_r := b_r.bs hn
    replace t_u := t_u.bs hn
    replace h_c := h_c.bs hn
    clear hn
    refine AwC.back ?_
    refine AwC.take (i := 5) NoP.midS rfl (by kernel_rfl) (by kernel_rfl) (by kernel_rfl) (fun w1 hc => Ex.move rfl) rfl ?_
    refine AwC.take (i := 6) NoP.midS rfl (by kernel_rfl) (by kernel_rfl) (by kernel_rfl) (fun w1 hc => Ex.extract (i := 0) rfl rfl) rfl ?_
    refine AwC.take (i := 7) NoP.midS rfl (by kernel_rfl) (by kernel_rfl) (by kernel_rfl) (fun w1 hc => Ex.extract (i := 1) rfl rfl) rfl ?_
    refine AwC.only (by assumption) (i := 9) (by kernel_rfl) rfl ?_
    refine Lw.unit (Xu.stA (cs := [r.x, r.y]) rfl rfl rfl rfl m_r.one b_r rfl) ?_
    rintro w2 ⟨b_r2, hg, -⟩
    have m_r := made_apart m_r b_r (by decide) (by decide) hg
    have hcw := hcw.grown hg hcw.size (by rintro _ ⟨⟩; omega)
    refine AwC.back ?_
    refine AwC.take (i := 10) NoP.midS rfl (by kernel_rfl) (by kernel_rfl) (by kernel_rfl) (fun w1 hc => Ex.assign rfl) rfl ?_
    refine AwC.done (by assumption) (by kernel_rfl) ?_
    exact Pw.midS ((r, A_r)) ⟨rfl, rfl, rfl, rfl, rfl, trivial⟩ (⟨hcw, ⟨m_r.sh, own_sl m_r.own⟩, b_r2, s_r, l_r⟩)
    refine Lw.newA it_25 rfl ?_
    rintro A_r w eA_r b_r hn -
    have g_r : w1.heap.size ≤ A_r := by have := hcw.size; omega
    replace hcw := hcw.bs hn
    clear hn
    refine AwC.back ?_
    refine AwC.two (by assumption) (i := 1) (j := 2) (by kernel_rfl) rfl rfl ?_ ?_
    refine Lw.valW (Xw.lit (vs := ([1, 1, 1, 1] : List Int).map (Value.int .i64)) st_22 it_3 rfl rfl rfl rfl rfl) rfl ?_
    rintro u w ⟨ho, -, hn, -⟩
    have t_u := own_slT ho
    clear ho
    replace hcw := hcw.bs hn
    replace b_r := b_r.bs hn
    clear hn
    refine AwC.back ?_
    refine AwC.only (by assumption) (i := 2) (by kernel_rfl) rfl ?_
    refine Lw.valW (Xw.lit (vs := ([1#32] : List (BitVec 32)).map i32) st_23 it_21 rfl (by kernel_rfl) rfl rfl rfl) rfl ?_
    rintro v w ⟨ho, -, hn, -⟩
    have t_v := own_slT ho
    clear ho
    replace hcw := hcw.bs hn
    replace b_r := b_r.bs hn
    replace t_u := t_u.bs hn
    clear hn
    refine AwC.back ?_
    refine AwC.only (by assumption) (i := 3) (by kernel_rfl) rfl ?_
    refine Lw.callF rfl rfl (of8_c u v [1, 1, 1, 1] [1#32] _ t_u t_v) ?_
    rintro _ w ⟨c, rfl, s_c, l_c, h_c, hn⟩
    replace hcw := hcw.bs hn
    replace b_r := b_r.bs hn
    replace t_u := t_u.bs hn
    replace t_v := t_v.bs hn
    clear hn
    refine AwC.back ?_
    refine AwC.only (by assumption) (i := 4) (by kernel_rfl) rfl ?_
    refine Lw.callF rfl rfl (wof_c t c 2 1 _ (h_t.bs hcw) h_c) ?_
    rintro _ w ⟨hn, r, rfl, h_r, -, hz⟩
    have e_r : wofE t c 2 1 = 0 := by unfold wofE; rw [s_t, l_t, s_c, l_c]; kernel_rfl
    rw [e_r]
    obtain ⟨s_r, l_r, m_r⟩ := hz e_r
    rw [← s_r, ← l_r] at m_r
    replace s_r : r.s = [1, 3, 3] := by rw [s_r, s_t, s_c]; kernel_rfl
    replace l_r : r.l = [0#32, 0#32, 0#32, 0#32, 5#32, 0#32, 0#32, 0#32, 0#32] := by rw [l_r]; unfold wofL wofF wofN; rw [s_t, l_t, s_c, l_c]; kernel_rfl
    clear hz e_r h_r
    replace hcw := hcw.bs hn
    replace b_r := b_r.bs hn
    replace t_u := t_u.bs hn
    replace t_v := t_v.bs hn
    replace h_c := h_c.bs hn
    clear hn
    refine AwC.back ?_
    refine AwC.take (i := 5) NoP.midS rfl (by kernel_rfl) (by kernel_rfl) (by kernel_rfl) (fun w1 hc => Ex.move rfl) rfl ?_
    refine AwC.take (i := 6) NoP.midS rfl (by kernel_rfl) (by kernel_rfl) (by kernel_rfl) (fun w1 hc => Ex.extract (i := 0) rfl rfl) rfl ?_
    refine AwC.take (i := 7) NoP.midS rfl (by kernel_rfl) (by kernel_rfl) (by kernel_rfl) (fun w1 hc => Ex.extract (i := 1) rfl rfl) rfl ?_
    refine AwC.only (by assumption) (i := 9) (by kernel_rfl) rfl ?_
    refine Lw.unit (Xu.stA (cs := [r.x, r.y]) rfl rfl rfl rfl m_r.one b_r rfl) ?_
    rintro w2 ⟨b_r2, hg, -⟩
    have m_r := made_apart m_r b_r (by decide) (by decide) hg
    have hcw := hcw.grown hg hcw.size (by rintro _ ⟨⟩; omega)
    refine AwC.back ?_
    refine AwC.take (i := 10) NoP.midS rfl (by kernel_rfl) (by kernel_rfl) (by kernel_rfl) (fun w1 hc => Ex.assign rfl) rfl ?_
    refine AwC.done (by assumption) (by kernel_rfl) ?_
    exact Pw.midS ((r, A_r)) ⟨rfl, rfl, rfl, rfl, rfl, trivial⟩ (⟨hcw, ⟨m_r.sh, own_sl m_r.own⟩, b_r2, s_r, l_r⟩)
    refine Lw.valW (Xw.lit (vs := ([1#32] : List (BitVec 32)).map i32) st_23 it_21 rfl (by kernel_rfl) rfl rfl rfl) rfl ?_
    rintro v w ⟨ho, -, hn, -⟩
    have t_v := own_slT ho
    clear ho
    replace hcw := hcw.bs hn
    replace b_r := b_r.bs hn
    clear hn
    refine AwC.back ?_
    refine AwC.only (by assumption) (i := 1) (by kernel_rfl) rfl ?_
    refine Lw.valW (Xw.lit (vs := ([1, 1, 1, 1] : List Int).map (Value.int .i64)) st_22 it_3 rfl rfl rfl rfl rfl) rfl ?_
    rintro u w ⟨ho, -, hn, -⟩
    have t_u := own_slT ho
    clear ho
    replace hcw := hcw.bs hn
    replace b_r := b_r.bs hn
    replace t_v := t_v.bs hn
    clear hn
    refine AwC.back ?_
    refine AwC.only (by assumption) (i := 3) (by kernel_rfl) rfl ?_
    refine Lw.callF rfl rfl (of8_c u v [1, 1, 1, 1] [1#32] _ t_u t_v) ?_
    rintro _ w ⟨c, rfl, s_c, l_c, h_c, hn⟩
    replace hcw := hcw.bs hn
    replace b_r := b_r.bs hn
    replace t_v := t_v.bs hn
    replace t_u := t_u.bs hn
    clear hn
    refine AwC.back ?_
    refine AwC.only (by assumption) (i := 4) (by kernel_rfl) rfl ?_
    refine Lw.callF rfl rfl (wof_c t c 2 1 _ (h_t.bs hcw) h_c) ?_
    rintro _ w ⟨hn, r, rfl, h_r, -, hz⟩
    have e_r : wofE t c 2 1 = 0 := by unfold wofE; rw [s_t, l_t, s_c, l_c]; kernel_rfl
    rw [e_r]
    obtain ⟨s_r, l_r, m_r⟩ := hz e_r
    rw [← s_r, ← l_r] at m_r
    replace s_r : r.s = [1, 3, 3] := by rw [s_r, s_t, s_c]; kernel_rfl
    replace l_r : r.l = [0#32, 0#32, 0#32, 0#32, 5#32, 0#32, 0#32, 0#32, 0#32] := by rw [l_r]; unfold wofL wofF wofN; rw [s_t, l_t, s_c, l_c]; kernel_rfl
    clear hz e_r h_r
    replace hcw := hcw.bs hn
    replace b_r := b_r.bs hn
    replace t_v := t_v.bs hn
    replace t_u := t_u.bs hn
    replace h_c := h_c.bs hn
    clear hn
    refine AwC.back ?_
    refine AwC.take (i := 5) NoP.midS rfl (by kernel_rfl) (by kernel_rfl) (by kernel_rfl) (fun w1 hc => Ex.move rfl) rfl ?_
    refine AwC.take (i := 6) NoP.midS rfl (by kernel_rfl) (by kernel_rfl) (by kernel_rfl) (fun w1 hc => Ex.extract (i := 0) rfl rfl) rfl ?_
    refine AwC.take (i := 7) NoP.midS rfl (by kernel_rfl) (by kernel_rfl) (by kernel_rfl) (fun w1 hc => Ex.extract (i := 1) rfl rfl) rfl ?_
    refine AwC.only (by assumption) (i := 9) (by kernel_rfl) rfl ?_
    refine Lw.unit (Xu.stA (cs := [r.x, r.y]) rfl rfl rfl rfl m_r.one b_r rfl) ?_
    rintro w2 ⟨b_r2, hg, -⟩
    have m_r := made_apart m_r b_r (by decide) (by decide) hg
    have hcw := hcw.grown hg hcw.size (by rintro _ ⟨⟩; omega)
    refine AwC.back ?_
    refine AwC.take (i := 10) NoP.midS rfl (by kernel_rfl) (by kernel_rfl) (by kernel_rfl) (fun w1 hc => Ex.assign rfl) rfl ?_
    refine AwC.done (by assumption) (by kernel_rfl) ?_
    exact Pw.midS ((r, A_r)) ⟨rfl, rfl, rfl, rfl, rfl, trivial⟩ (⟨hcw, ⟨m_r.sh, own_sl m_r.own⟩, b_r2, s_r, l_r⟩)
  rintro ⟨b, A_b⟩ w ⟨hn, h_b, b_b, s_b, l_b⟩
  dsimp only at h_b b_b s_b l_b ⊢
  refine Cw.out ?_
  replace hB := hB.bs hn
  replace h_t := h_t.bs hn
  replace b_t := b_t.bs hn
  replace h_a := h_a.bs hn
  replace b_a := b_a.bs hn
  clear hn
  refine Cw.seq ?_
  refine Cw.region ?_
  refine Lw.val (Ex.ldA (ag_25 _) (sz_25 _) rfl rfl (by assumption)) rfl ?_
  have e_c : wpoE t 2 = 0 := by unfold wpoE; rw [s_t, l_t]; kernel_rfl
  refine Lw.callF rfl rfl (wpo_c t 2 _ h_t) ?_
  rintro r w ⟨hn, c, rfl, h_c, -, hz⟩
  rw [e_c]
  obtain ⟨s_c, l_c, -⟩ := hz e_c
  clear hz
  replace hB := hB.bs hn
  replace h_t := h_t.bs hn
  replace b_t := b_t.bs hn
  replace h_a := h_a.bs hn
  replace b_a := b_a.bs hn
  replace h_b := h_b.bs hn
  replace b_b := b_b.bs hn
  clear hn
  refine Lw.val (Ex.move rfl) rfl ?_
  refine Lw.val (Ex.extract (i := 0) rfl rfl) rfl ?_
  refine Lw.val (Ex.extract (i := 1) rfl rfl) rfl ?_
  refine Lw.boxed (cs := [c.x, c.y]) it_25 rfl rfl rfl rfl (fun _ => rfl) (h_c.one) ?_
  rintro A_c w eA_c b_c hn -
  replace hB := hB.bs hn
  replace h_t := h_t.bs hn
  replace b_t := b_t.bs hn
  replace h_a := h_a.bs hn
  replace b_a := b_a.bs hn
  replace h_b := h_b.bs hn
  replace b_b := b_b.bs hn
  replace h_c := h_c.bs hn
  clear hn
  refine Lw.val (Ex.assign rfl) rfl ?_
  refine Lw.nil ?_
  refine Pw.thenN (Cw.out ?_)
  refine Cw.seq ?_
  refine Cw.region ?_
  refine Lw.val (Ex.ldA (ag_25 _) (sz_25 _) rfl rfl (by assumption)) rfl ?_
  have s_c : c.s = [1, 1, 1] := by rw [s_c, s_t]; kernel_rfl
  have l_c : c.l = [5#32] := by rw [l_c]; unfold wpoL; rw [s_t, l_t]; kernel_rfl
  have e_d : wpoE t 4 = 10 := by unfold wpoE; rw [s_t, l_t]; kernel_rfl
  refine Lw.callF rfl rfl (wpo_c t 4 _ h_t) ?_
  rintro r w ⟨hn, d, rfl, h_d, -, -⟩
  rw [e_d]
  replace hB := hB.bs hn
  replace h_t := h_t.bs hn
  replace b_t := b_t.bs hn
  replace h_a := h_a.bs hn
  replace b_a := b_a.bs hn
  replace h_b := h_b.bs hn
  replace b_b := b_b.bs hn
  replace h_c := h_c.bs hn
  replace b_c := b_c.bs hn
  clear hn
  refine Lw.val (Ex.move rfl) rfl ?_
  refine Lw.val (Ex.extract (i := 0) rfl rfl) rfl ?_
  refine Lw.val (Ex.extract (i := 1) rfl rfl) rfl ?_
  refine Lw.boxed (cs := [d.x, d.y]) it_25 rfl rfl rfl rfl (fun _ => rfl) (h_d.one) ?_
  rintro A_d w eA_d b_d hn -
  replace hB := hB.bs hn
  replace h_t := h_t.bs hn
  replace b_t := b_t.bs hn
  replace h_a := h_a.bs hn
  replace b_a := b_a.bs hn
  replace h_b := h_b.bs hn
  replace b_b := b_b.bs hn
  replace h_c := h_c.bs hn
  replace b_c := b_c.bs hn
  clear hn
  refine Lw.val (Ex.assign rfl) rfl ?_
  refine Lw.nil ?_
  refine Pw.thenN (Cw.out ?_)
  refine Cw.seq ?_
  refine Cw.region ?_
  refine Lw.valW (Xw.lit (vs := ([1, 3, 3] : List Int).map (Value.int .i64)) st_22 it_3 rfl rfl rfl rfl rfl) rfl ?_
  rintro u1 w ⟨ho, -, hn, -⟩
  have t_u1 := own_slT ho
  clear ho
  replace hB := hB.bs hn
  replace h_t := h_t.bs hn
  replace b_t := b_t.bs hn
  replace h_a := h_a.bs hn
  replace b_a := b_a.bs hn
  replace h_b := h_b.bs hn
  replace b_b := b_b.bs hn
  replace h_c := h_c.bs hn
  replace b_c := b_c.bs hn
  replace b_d := b_d.bs hn
  clear hn
  refine Lw.valW (Xw.lit (vs := ([1, 1, 2, 2] : List Int).map (Value.int .i64)) st_22 it_3 rfl rfl rfl rfl rfl) rfl ?_
  rintro u2 w ⟨ho, -, hn, -⟩
  have t_u2 := own_slT ho
  clear ho
  replace hB := hB.bs hn
  replace h_t := h_t.bs hn
  replace b_t := b_t.bs hn
  replace h_a := h_a.bs hn
  replace b_a := b_a.bs hn
  replace h_b := h_b.bs hn
  replace b_b := b_b.bs hn
  replace h_c := h_c.bs hn
  replace b_c := b_c.bs hn
  replace b_d := b_d.bs hn
  replace t_u1 := t_u1.bs hn
  clear hn
  refine Lw.callF rfl rfl (wshape_c [1, 3, 3] [1, 1, 2, 2] 9 0 u1 u2 _ t_u1 t_u2) ?_
  rintro _ w ⟨hn, x, m, rfl, -, -, -⟩
  rw [show wshE [1, 3, 3] [1, 1, 2, 2] 9 0 = 1 by kernel_rfl]
  replace hB := hB.bs hn
  replace h_t := h_t.bs hn
  replace b_t := b_t.bs hn
  replace h_a := h_a.bs hn
  replace b_a := b_a.bs hn
  replace h_b := h_b.bs hn
  replace b_b := b_b.bs hn
  replace h_c := h_c.bs hn
  replace b_c := b_c.bs hn
  replace b_d := b_d.bs hn
  replace t_u1 := t_u1.bs hn
  replace t_u2 := t_u2.bs hn
  clear hn
  clear t_u1 t_u2
  refine Lw.val (Ex.move rfl) rfl ?_
  refine Lw.val (Ex.extract (i := 0) rfl rfl) rfl ?_
  refine Lw.val (Ex.extract (i := 1) rfl rfl) rfl ?_
  refine Lw.val (Ex.assign rfl) rfl ?_
  refine Lw.val (Ex.assign rfl) rfl ?_
  refine Lw.nil ?_
  refine Pw.thenN (Cw.out ?_)
  refine Cw.seq ?_
  refine Cw.region ?_
  refine Lw.valW (Xw.lit (vs := ([1, 3, 3] : List Int).map (Value.int .i64)) st_22 it_3 rfl rfl rfl rfl rfl) rfl ?_
  rintro u1 w ⟨ho, -, hn, -⟩
  have t_u1 := own_slT ho
  clear ho
  replace hB := hB.bs hn
  replace h_t := h_t.bs hn
  replace b_t := b_t.bs hn
  replace h_a := h_a.bs hn
  replace b_a := b_a.bs hn
  replace h_b := h_b.bs hn
  replace b_b := b_b.bs hn
  replace h_c := h_c.bs hn
  replace b_c := b_c.bs hn
  replace b_d := b_d.bs hn
  clear hn
  refine Lw.valW (Xw.lit (vs := ([1, 2, 2, 2] : List Int).map (Value.int .i64)) st_22 it_3 rfl rfl rfl rfl rfl) rfl ?_
  rintro u2 w ⟨ho, -, hn, -⟩
  have t_u2 := own_slT ho
  clear ho
  replace hB := hB.bs hn
  replace h_t := h_t.bs hn
  replace b_t := b_t.bs hn
  replace h_a := h_a.bs hn
  replace b_a := b_a.bs hn
  replace h_b := h_b.bs hn
  replace b_b := b_b.bs hn
  replace h_c := h_c.bs hn
  replace b_c := b_c.bs hn
  replace b_d := b_d.bs hn
  replace t_u1 := t_u1.bs hn
  clear hn
  refine Lw.callF rfl rfl (wshape_c [1, 3, 3] [1, 2, 2, 2] 1 0 u1 u2 _ t_u1 t_u2) ?_
  rintro _ w ⟨hn, x, m, rfl, -, -, -⟩
  rw [show wshE [1, 3, 3] [1, 2, 2, 2] 1 0 = 10 by kernel_rfl]
  replace hB := hB.bs hn
  replace h_t := h_t.bs hn
  replace b_t := b_t.bs hn
  replace h_a := h_a.bs hn
  replace b_a := b_a.bs hn
  replace h_b := h_b.bs hn
  replace b_b := b_b.bs hn
  replace h_c := h_c.bs hn
  replace b_c := b_c.bs hn
  replace b_d := b_d.bs hn
  replace t_u1 := t_u1.bs hn
  replace t_u2 := t_u2.bs hn
  clear hn
  clear t_u1 t_u2
  refine Lw.val (Ex.move rfl) rfl ?_
  refine Lw.val (Ex.extract (i := 0) rfl rfl) rfl ?_
  refine Lw.val (Ex.extract (i := 1) rfl rfl) rfl ?_
  refine Lw.val (Ex.assign rfl) rfl ?_
  refine Lw.val (Ex.assign rfl) rfl ?_
  refine Lw.nil ?_
  refine Pw.thenN (Cw.out ?_)
  refine Cw.seq ?_
  refine Cw.any mixed (fun w hd _ => ?_)
  replace hB := hB.bs hd
  replace h_t := h_t.bs hd
  replace b_t := b_t.bs hd
  replace h_a := h_a.bs hd
  replace b_a := b_a.bs hd
  replace h_b := h_b.bs hd
  replace b_b := b_b.bs hd
  replace h_c := h_c.bs hd
  replace b_c := b_c.bs hd
  replace b_d := b_d.bs hd
  clear hd
  refine Aw.take (i := 0) (NoP.thn NoP.ret) rfl (by kernel_rfl) (by kernel_rfl) (by kernel_rfl) (fun _ => Ex.move rfl) rfl ?_
  refine Aw.take (i := 1) (NoP.thn NoP.ret) rfl (by kernel_rfl) (by kernel_rfl) (by kernel_rfl) (fun _ => Ex.eql rfl rfl) rfl ?_
  refine Aw.take (i := 2) (NoP.thn NoP.ret) rfl (by kernel_rfl) (by kernel_rfl) (by kernel_rfl) (fun _ => Ex.move rfl) rfl ?_
  refine Aw.know 57 (v' := .bool true) rfl (congrArg Value.bool (rfl)) ?_
  refine Aw.takeG (i := 3) (dj := 57) (NoP.thn NoP.ret) rfl rfl rfl (by kernel_rfl) (by kernel_rfl) (by kernel_rfl) (fun _ => Ex.move rfl) rfl ?_
  refine Aw.takeG (i := 4) (dj := 57) (NoP.thn NoP.ret) rfl rfl rfl (by kernel_rfl) (by kernel_rfl) (by kernel_rfl) (fun _ => Ex.eql rfl rfl) rfl ?_
  refine Aw.take (i := 5) (NoP.thn NoP.ret) rfl (by kernel_rfl) (by kernel_rfl) (by kernel_rfl) (fun _ => Ex.pickT rfl rfl) rfl ?_
  refine Aw.take (i := 6) (NoP.thn NoP.ret) rfl (by kernel_rfl) (by kernel_rfl) (by kernel_rfl) (fun _ => Ex.move rfl) rfl ?_
  refine Aw.know 61 (v' := .bool true) rfl (congrArg Value.bool (rfl)) ?_
  refine Aw.takeG (i := 7) (dj := 61) (NoP.thn NoP.ret) rfl rfl rfl (by kernel_rfl) (by kernel_rfl) (by kernel_rfl) (fun _ => Ex.move rfl) rfl ?_
  refine Aw.takeG (i := 8) (dj := 61) (NoP.thn NoP.ret) rfl rfl rfl (by kernel_rfl) (by kernel_rfl) (by kernel_rfl) (fun _ => Ex.eql rfl rfl) rfl ?_
  refine Aw.take (i := 9) (NoP.thn NoP.ret) rfl (by kernel_rfl) (by kernel_rfl) (by kernel_rfl) (fun _ => Ex.pickT rfl rfl) rfl ?_
  refine Aw.take (i := 10) (NoP.thn NoP.ret) rfl (by kernel_rfl) (by kernel_rfl) (by kernel_rfl) (fun _ => Ex.move rfl) rfl ?_
  refine Aw.know 65 (v' := .bool true) rfl (congrArg Value.bool (rfl)) ?_
  refine Aw.seg (St := Unit) (g := 28) [11, 12, 13, 14, 15] 16 (fun s => [(4, .pointer (some ⟨A_b, 0, none⟩)), (6, .pointer (some ⟨A_c, 0, none⟩)), (9, .int .i64 10), (11, .int .i64 1), (13, .int .i64 10), (65, .bool true), (70, .bool true)]) (fun s w' => Below w.heap.size w w') (by kernel_rfl) rfl ?_ ?_
  · refine Aw.cls (fun w' => Below w.heap.size w w') (fun hC => ?_) (Below.refl _ _)
    refine AwC.takeG (i := 11) (dj := 65) (NoP.thn (NoP.thn NoP.ret)) rfl rfl rfl (by kernel_rfl) (by kernel_rfl) (by kernel_rfl) (fun w1 hc => Ex.ldA (ag_25 _) (sz_25 _) rfl rfl (Blk.bs (by assumption) hc)) rfl ?_
    refine AwC.two (by first | assumption | exact Below.refl _ _) (i := 12) (j := 13) (by kernel_rfl) rfl rfl ?_ ?_
    · refine Lw.take (dj := 65) rfl rfl ?_
      refine Lw.valW (Xw.lit (vs := ([1, 2, 2] : List Int).map (Value.int .i64)) st_22 it_3 rfl (by kernel_rfl) rfl rfl rfl) rfl ?_
      rintro y1 w2 ⟨hoy1, -, hn2, -⟩
      refine AwC.back ?_
      refine AwC.only (by first | assumption | exact Below.refl _ _) (i := 13) (by kernel_rfl) rfl ?_
      refine Lw.take (dj := 65) rfl rfl ?_
      refine Lw.valW (Xw.lit (vs := ([12#32, 16#32, 24#32, 28#32] : List (BitVec 32)).map i32) st_23 it_21 rfl (by kernel_rfl) rfl rfl rfl) rfl ?_
      rintro z1 w3 ⟨hoz1, -, hn3, -⟩
      have hn23 := bt hn2 hn3
      refine AwC.back ?_
      refine AwC.only (by first | assumption | exact Below.refl _ _) (i := 14) (by kernel_rfl) rfl ?_
      refine Lw.take (dj := 65) rfl rfl ?_
      refine Lw.callF rfl rfl (of8_c y1 z1 [1, 2, 2] [12#32, 16#32, 24#32, 28#32] w3 ((own_slT hoy1).bs hn3) (own_slT hoz1)) ?_
      rintro _ w4 ⟨q, rfl, s_q, l_q, h_q, hn⟩
      have hn4 := bt hn23 hn
      refine AwC.back ?_
      refine AwC.only (by first | assumption | exact Below.refl _ _) (i := 15) (by kernel_rfl) rfl ?_
      refine Lw.take (dj := 65) rfl rfl ?_
      refine Lw.callF rfl rfl (same_c _ _ _ _ _ _ _ _ _ (h_a.bs hn4).1 (h_a.bs hn4).2 h_q.1 h_q.2) ?_
      rintro _ w5 ⟨rfl, hn⟩
      have hn5 := bt hn4 hn
      refine AwC.back ?_
      refine AwC.done (by first | assumption | exact Below.refl _ _) (by kernel_rfl) ?_
      exact Pw.thenN (Pw.seg (()) ⟨rfl, rfl, rfl, rfl, rfl, rfl, congrArg (fun b => some (Value.bool b)) (by rw [s_a, s_q, l_a, l_q]; rfl), trivial⟩ (hn5))
    · refine Lw.take (dj := 65) rfl rfl ?_
      refine Lw.valW (Xw.lit (vs := ([12#32, 16#32, 24#32, 28#32] : List (BitVec 32)).map i32) st_23 it_21 rfl (by kernel_rfl) rfl rfl rfl) rfl ?_
      rintro z1 w2 ⟨hoz1, -, hn2, -⟩
      refine AwC.back ?_
      refine AwC.only (by first | assumption | exact Below.refl _ _) (i := 12) (by kernel_rfl) rfl ?_
      refine Lw.take (dj := 65) rfl rfl ?_
      refine Lw.valW (Xw.lit (vs := ([1, 2, 2] : List Int).map (Value.int .i64)) st_22 it_3 rfl (by kernel_rfl) rfl rfl rfl) rfl ?_
      rintro y1 w3 ⟨hoy1, -, hn3, -⟩
      have hn23 := bt hn2 hn3
      refine AwC.back ?_
      refine AwC.only (by first | assumption | exact Below.refl _ _) (i := 14) (by kernel_rfl) rfl ?_
      refine Lw.take (dj := 65) rfl rfl ?_
      refine Lw.callF rfl rfl (of8_c y1 z1 [1, 2, 2] [12#32, 16#32, 24#32, 28#32] w3 (own_slT hoy1) ((own_slT hoz1).bs hn3)) ?_
      rintro _ w4 ⟨q, rfl, s_q, l_q, h_q, hn⟩
      have hn4 := bt hn23 hn
      refine AwC.back ?_
      refine AwC.only (by first | assumption | exact Below.refl _ _) (i := 15) (by kernel_rfl) rfl ?_
      refine Lw.take (dj := 65) rfl rfl ?_
      refine Lw.callF rfl rfl (same_c _ _ _ _ _ _ _ _ _ (h_a.bs hn4).1 (h_a.bs hn4).2 h_q.1 h_q.2) ?_
      rintro _ w5 ⟨rfl, hn⟩
      have hn5 := bt hn4 hn
      refine AwC.back ?_
      refine AwC.done (by first | assumption | exact Below.refl _ _) (by kernel_rfl) ?_
      exact Pw.thenN (Pw.seg (()) ⟨rfl, rfl, rfl, rfl, rfl, rfl, congrArg (fun b => some (Value.bool b)) (by rw [s_a, s_q, l_a, l_q]; rfl), trivial⟩ (hn5))
  rintro _ w2 hn
  replace hB := hB.bs hn
  replace h_t := h_t.bs hn
  replace b_t := b_t.bs hn
  replace h_a := h_a.bs hn
  replace b_a := b_a.bs hn
  replace h_b := h_b.bs hn
  replace b_b := b_b.bs hn
  replace h_c := h_c.bs hn
  replace b_c := b_c.bs hn
  replace b_d := b_d.bs hn
  clear hn
  refine Aw.take (i := 16) (NoP.thn NoP.ret) rfl (by kernel_rfl) (by kernel_rfl) (by kernel_rfl) (fun _ => Ex.pickT rfl rfl) rfl ?_
  refine Aw.take (i := 17) (NoP.thn NoP.ret) rfl (by kernel_rfl) (by kernel_rfl) (by kernel_rfl) (fun _ => Ex.move rfl) rfl ?_
  rename World => w
  refine Aw.seg (St := Unit) (g := 21) [18, 19, 20, 21, 22] 23 (fun s => [(6, .pointer (some ⟨A_c, 0, none⟩)), (9, .int .i64 10), (11, .int .i64 1), (13, .int .i64 10), (72, .bool true), (77, .bool true)]) (fun s w' => Below w.heap.size w w') (by kernel_rfl) rfl ?_ ?_
  · refine Aw.cls (fun w' => Below w.heap.size w w') (fun hC => ?_) (Below.refl _ _)
    refine AwC.takeG (i := 18) (dj := 72) (NoP.thn (NoP.thn NoP.ret)) rfl rfl rfl (by kernel_rfl) (by kernel_rfl) (by kernel_rfl) (fun w1 hc => Ex.ldA (ag_25 _) (sz_25 _) rfl rfl (Blk.bs (by assumption) hc)) rfl ?_
    refine AwC.two (by first | assumption | exact Below.refl _ _) (i := 19) (j := 20) (by kernel_rfl) rfl rfl ?_ ?_
    · refine Lw.take (dj := 72) rfl rfl ?_
      refine Lw.valW (Xw.lit (vs := ([1, 3, 3] : List Int).map (Value.int .i64)) st_22 it_3 rfl (by kernel_rfl) rfl rfl rfl) rfl ?_
      rintro y1 w2 ⟨hoy1, -, hn2, -⟩
      refine AwC.back ?_
      refine AwC.only (by first | assumption | exact Below.refl _ _) (i := 20) (by kernel_rfl) rfl ?_
      refine Lw.take (dj := 72) rfl rfl ?_
      refine Lw.valW (Xw.lit (vs := ([0#32, 0#32, 0#32, 0#32, 5#32, 0#32, 0#32, 0#32, 0#32] : List (BitVec 32)).map i32) st_23 it_21 rfl (by kernel_rfl) rfl rfl rfl) rfl ?_
      rintro z1 w3 ⟨hoz1, -, hn3, -⟩
      have hn23 := bt hn2 hn3
      refine AwC.back ?_
      refine AwC.only (by first | assumption | exact Below.refl _ _) (i := 21) (by kernel_rfl) rfl ?_
      refine Lw.take (dj := 72) rfl rfl ?_
      refine Lw.callF rfl rfl (of8_c y1 z1 [1, 3, 3] [0#32, 0#32, 0#32, 0#32, 5#32, 0#32, 0#32, 0#32, 0#32] w3 ((own_slT hoy1).bs hn3) (own_slT hoz1)) ?_
      rintro _ w4 ⟨q, rfl, s_q, l_q, h_q, hn⟩
      have hn4 := bt hn23 hn
      refine AwC.back ?_
      refine AwC.only (by first | assumption | exact Below.refl _ _) (i := 22) (by kernel_rfl) rfl ?_
      refine Lw.take (dj := 72) rfl rfl ?_
      refine Lw.callF rfl rfl (same_c _ _ _ _ _ _ _ _ _ (h_b.bs hn4).1 (h_b.bs hn4).2 h_q.1 h_q.2) ?_
      rintro _ w5 ⟨rfl, hn⟩
      have hn5 := bt hn4 hn
      refine AwC.back ?_
      refine AwC.done (by first | assumption | exact Below.refl _ _) (by kernel_rfl) ?_
      exact Pw.thenN (Pw.seg (()) ⟨rfl, rfl, rfl, rfl, rfl, congrArg (fun b => some (Value.bool b)) (by rw [s_b, s_q, l_b, l_q]; rfl), trivial⟩ (hn5))
    · refine Lw.take (dj := 72) rfl rfl ?_
      refine Lw.valW (Xw.lit (vs := ([0#32, 0#32, 0#32, 0#32, 5#32, 0#32, 0#32, 0#32, 0#32] : List (BitVec 32)).map i32) st_23 it_21 rfl (by kernel_rfl) rfl rfl rfl) rfl ?_
      rintro z1 w2 ⟨hoz1, -, hn2, -⟩
      refine AwC.back ?_
      refine AwC.only (by first | assumption | exact Below.refl _ _) (i := 19) (by kernel_rfl) rfl ?_
      refine Lw.take (dj := 72) rfl rfl ?_
      refine Lw.valW (Xw.lit (vs := ([1, 3, 3] : List Int).map (Value.int .i64)) st_22 it_3 rfl (by kernel_rfl) rfl rfl rfl) rfl ?_
      rintro y1 w3 ⟨hoy1, -, hn3, -⟩
      have hn23 := bt hn2 hn3
      refine AwC.back ?_
      refine AwC.only (by first | assumption | exact Below.refl _ _) (i := 21) (by kernel_rfl) rfl ?_
      refine Lw.take (dj := 72) rfl rfl ?_
      refine Lw.callF rfl rfl (of8_c y1 z1 [1, 3, 3] [0#32, 0#32, 0#32, 0#32, 5#32, 0#32, 0#32, 0#32, 0#32] w3 (own_slT hoy1) ((own_slT hoz1).bs hn3)) ?_
      rintro _ w4 ⟨q, rfl, s_q, l_q, h_q, hn⟩
      have hn4 := bt hn23 hn
      refine AwC.back ?_
      refine AwC.only (by first | assumption | exact Below.refl _ _) (i := 22) (by kernel_rfl) rfl ?_
      refine Lw.take (dj := 72) rfl rfl ?_
      refine Lw.callF rfl rfl (same_c _ _ _ _ _ _ _ _ _ (h_b.bs hn4).1 (h_b.bs hn4).2 h_q.1 h_q.2) ?_
      rintro _ w5 ⟨rfl, hn⟩
      have hn5 := bt hn4 hn
      refine AwC.back ?_
      refine AwC.done (by first | assumption | exact Below.refl _ _) (by kernel_rfl) ?_
      exact Pw.thenN (Pw.seg (()) ⟨rfl, rfl, rfl, rfl, rfl, congrArg (fun b => some (Value.bool b)) (by rw [s_b, s_q, l_b, l_q]; rfl), trivial⟩ (hn5))
  rintro _ w2 hn
  replace hB := hB.bs hn
  replace h_t := h_t.bs hn
  replace b_t := b_t.bs hn
  replace h_a := h_a.bs hn
  replace b_a := b_a.bs hn
  replace h_b := h_b.bs hn
  replace b_b := b_b.bs hn
  replace h_c := h_c.bs hn
  replace b_c := b_c.bs hn
  replace b_d := b_d.bs hn
  clear hn
  refine Aw.take (i := 23) (NoP.thn NoP.ret) rfl (by kernel_rfl) (by kernel_rfl) (by kernel_rfl) (fun _ => Ex.pickT rfl rfl) rfl ?_
  refine Aw.take (i := 24) (NoP.thn NoP.ret) rfl (by kernel_rfl) (by kernel_rfl) (by kernel_rfl) (fun _ => Ex.move rfl) rfl ?_
  rename World => w
  refine Aw.seg (St := Unit) (g := 14) [25, 26, 27, 28, 29] 30 (fun s => [(9, .int .i64 10), (11, .int .i64 1), (13, .int .i64 10), (79, .bool true), (84, .bool true)]) (fun s w' => Below w.heap.size w w') (by kernel_rfl) rfl ?_ ?_
  · refine Aw.cls (fun w' => Below w.heap.size w w') (fun hC => ?_) (Below.refl _ _)
    refine AwC.takeG (i := 25) (dj := 79) (NoP.thn (NoP.thn NoP.ret)) rfl rfl rfl (by kernel_rfl) (by kernel_rfl) (by kernel_rfl) (fun w1 hc => Ex.ldA (ag_25 _) (sz_25 _) rfl rfl (Blk.bs (by assumption) hc)) rfl ?_
    refine AwC.two (by first | assumption | exact Below.refl _ _) (i := 26) (j := 27) (by kernel_rfl) rfl rfl ?_ ?_
    · refine Lw.take (dj := 79) rfl rfl ?_
      refine Lw.valW (Xw.lit (vs := ([1, 1, 1] : List Int).map (Value.int .i64)) st_22 it_3 rfl (by kernel_rfl) rfl rfl rfl) rfl ?_
      rintro y1 w2 ⟨hoy1, -, hn2, -⟩
      refine AwC.back ?_
      refine AwC.only (by first | assumption | exact Below.refl _ _) (i := 27) (by kernel_rfl) rfl ?_
      refine Lw.take (dj := 79) rfl rfl ?_
      refine Lw.valW (Xw.lit (vs := ([5#32] : List (BitVec 32)).map i32) st_23 it_21 rfl (by kernel_rfl) rfl rfl rfl) rfl ?_
      rintro z1 w3 ⟨hoz1, -, hn3, -⟩
      have hn23 := bt hn2 hn3
      refine AwC.back ?_
      refine AwC.only (by first | assumption | exact Below.refl _ _) (i := 28) (by kernel_rfl) rfl ?_
      refine Lw.take (dj := 79) rfl rfl ?_
      refine Lw.callF rfl rfl (of8_c y1 z1 [1, 1, 1] [5#32] w3 ((own_slT hoy1).bs hn3) (own_slT hoz1)) ?_
      rintro _ w4 ⟨q, rfl, s_q, l_q, h_q, hn⟩
      have hn4 := bt hn23 hn
      refine AwC.back ?_
      refine AwC.only (by first | assumption | exact Below.refl _ _) (i := 29) (by kernel_rfl) rfl ?_
      refine Lw.take (dj := 79) rfl rfl ?_
      refine Lw.callF rfl rfl (same_c _ _ _ _ _ _ _ _ _ (h_c.bs hn4).1 (h_c.bs hn4).2 h_q.1 h_q.2) ?_
      rintro _ w5 ⟨rfl, hn⟩
      have hn5 := bt hn4 hn
      refine AwC.back ?_
      refine AwC.done (by first | assumption | exact Below.refl _ _) (by kernel_rfl) ?_
      exact Pw.thenN (Pw.seg (()) ⟨rfl, rfl, rfl, rfl, congrArg (fun b => some (Value.bool b)) (by rw [s_c, s_q, l_c, l_q]; rfl), trivial⟩ (hn5))
    · refine Lw.take (dj := 79) rfl rfl ?_
      refine Lw.valW (Xw.lit (vs := ([5#32] : List (BitVec 32)).map i32) st_23 it_21 rfl (by kernel_rfl) rfl rfl rfl) rfl ?_
      rintro z1 w2 ⟨hoz1, -, hn2, -⟩
      refine AwC.back ?_
      refine AwC.only (by first | assumption | exact Below.refl _ _) (i := 26) (by kernel_rfl) rfl ?_
      refine Lw.take (dj := 79) rfl rfl ?_
      refine Lw.valW (Xw.lit (vs := ([1, 1, 1] : List Int).map (Value.int .i64)) st_22 it_3 rfl (by kernel_rfl) rfl rfl rfl) rfl ?_
      rintro y1 w3 ⟨hoy1, -, hn3, -⟩
      have hn23 := bt hn2 hn3
      refine AwC.back ?_
      refine AwC.only (by first | assumption | exact Below.refl _ _) (i := 28) (by kernel_rfl) rfl ?_
      refine Lw.take (dj := 79) rfl rfl ?_
      refine Lw.callF rfl rfl (of8_c y1 z1 [1, 1, 1] [5#32] w3 (own_slT hoy1) ((own_slT hoz1).bs hn3)) ?_
      rintro _ w4 ⟨q, rfl, s_q, l_q, h_q, hn⟩
      have hn4 := bt hn23 hn
      refine AwC.back ?_
      refine AwC.only (by first | assumption | exact Below.refl _ _) (i := 29) (by kernel_rfl) rfl ?_
      refine Lw.take (dj := 79) rfl rfl ?_
      refine Lw.callF rfl rfl (same_c _ _ _ _ _ _ _ _ _ (h_c.bs hn4).1 (h_c.bs hn4).2 h_q.1 h_q.2) ?_
      rintro _ w5 ⟨rfl, hn⟩
      have hn5 := bt hn4 hn
      refine AwC.back ?_
      refine AwC.done (by first | assumption | exact Below.refl _ _) (by kernel_rfl) ?_
      exact Pw.thenN (Pw.seg (()) ⟨rfl, rfl, rfl, rfl, congrArg (fun b => some (Value.bool b)) (by rw [s_c, s_q, l_c, l_q]; rfl), trivial⟩ (hn5))
  rintro _ w2 hn
  replace hB := hB.bs hn
  replace h_t := h_t.bs hn
  replace b_t := b_t.bs hn
  replace h_a := h_a.bs hn
  replace b_a := b_a.bs hn
  replace h_b := h_b.bs hn
  replace b_b := b_b.bs hn
  replace h_c := h_c.bs hn
  replace b_c := b_c.bs hn
  replace b_d := b_d.bs hn
  clear hn
  refine Aw.take (i := 30) (NoP.thn NoP.ret) rfl (by kernel_rfl) (by kernel_rfl) (by kernel_rfl) (fun _ => Ex.pickT rfl rfl) rfl ?_
  refine Aw.take (i := 31) (NoP.thn NoP.ret) rfl (by kernel_rfl) (by kernel_rfl) (by kernel_rfl) (fun _ => Ex.move rfl) rfl ?_
  refine Aw.takeG (i := 32) (dj := 86) (NoP.thn NoP.ret) rfl rfl rfl (by kernel_rfl) (by kernel_rfl) (by kernel_rfl) (fun _ => Ex.move rfl) rfl ?_
  refine Aw.takeG (i := 33) (dj := 86) (NoP.thn NoP.ret) rfl rfl rfl (by kernel_rfl) (by kernel_rfl) (by kernel_rfl) (fun _ => Ex.eql rfl rfl) rfl ?_
  refine Aw.take (i := 34) (NoP.thn NoP.ret) rfl (by kernel_rfl) (by kernel_rfl) (by kernel_rfl) (fun _ => Ex.pickT rfl rfl) rfl ?_
  refine Aw.take (i := 35) (NoP.thn NoP.ret) rfl (by kernel_rfl) (by kernel_rfl) (by kernel_rfl) (fun _ => Ex.move rfl) rfl ?_
  refine Aw.know 90 (v' := .bool true) rfl (congrArg Value.bool (rfl)) ?_
  refine Aw.takeG (i := 36) (dj := 90) (NoP.thn NoP.ret) rfl rfl rfl (by kernel_rfl) (by kernel_rfl) (by kernel_rfl) (fun _ => Ex.move rfl) rfl ?_
  refine Aw.takeG (i := 37) (dj := 90) (NoP.thn NoP.ret) rfl rfl rfl (by kernel_rfl) (by kernel_rfl) (by kernel_rfl) (fun _ => Ex.eql rfl rfl) rfl ?_
  refine Aw.take (i := 38) (NoP.thn NoP.ret) rfl (by kernel_rfl) (by kernel_rfl) (by kernel_rfl) (fun _ => Ex.pickT rfl rfl) rfl ?_
  refine Aw.take (i := 39) (NoP.thn NoP.ret) rfl (by kernel_rfl) (by kernel_rfl) (by kernel_rfl) (fun _ => Ex.move rfl) rfl ?_
  refine Aw.know 94 (v' := .bool true) rfl (congrArg Value.bool (rfl)) ?_
  refine Aw.takeG (i := 40) (dj := 94) (NoP.thn NoP.ret) rfl rfl rfl (by kernel_rfl) (by kernel_rfl) (by kernel_rfl) (fun _ => Ex.move rfl) rfl ?_
  refine Aw.takeG (i := 41) (dj := 94) (NoP.thn NoP.ret) rfl rfl rfl (by kernel_rfl) (by kernel_rfl) (by kernel_rfl) (fun _ => Ex.eql rfl rfl) rfl ?_
  refine Aw.take (i := 42) (NoP.thn NoP.ret) rfl (by kernel_rfl) (by kernel_rfl) (by kernel_rfl) (fun _ => Ex.pickT rfl rfl) rfl ?_
  refine Aw.take (i := 43) (NoP.thn NoP.ret) rfl (by kernel_rfl) (by kernel_rfl) (by kernel_rfl) (fun _ => Ex.assign rfl) rfl ?_
  refine Aw.done (by kernel_rfl) ?_
  refine Pw.thenN (Cw.out ?_)
  refine Cw.ret ?_
  refine Pw.ret1 rfl rfl ?_
  exact ⟨rfl, hB⟩
end Go.Proofs.Ytgjpjpdmkeifeaa
