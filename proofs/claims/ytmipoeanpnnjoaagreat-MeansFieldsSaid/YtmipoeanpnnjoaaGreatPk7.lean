/- Texts of this proof, one behind the other: MeansCode, MeansDeed, MeansTable, MeansDo, MeansAll, MeansPlain, MeansRun, MeansSame, MeansShape. -/
import Derived.Test.YtmipoeanpnnjoaaGreatPk6
import Derived.Test.YtmipoeanpnnjoaaGreatPk3
import Derived.Test.YtmipoeanpnnjoaaGreatPk4
import Derived.Test.YtmipoeanpnnjoaaGreatPk5
import Derived.Test.YtmipoeanpnnjoaaGreatPk2

/-! Contracts: what a kind does. -/
namespace Go.Proofs.YtmipoeanpnnjoaaGreat
open Go Go.Dd Go.RowKit
set_option maxRecDepth 100000

instance : Inhabited T4 := ⟨⟨.slice none 0 0, .slice none 0 0, [], []⟩⟩
theorem MadeK.mono {W W1 w : World} {x y : Value} {s : List Int} {l : List (BitVec 32)} (h : MadeK W1 w x y s l) (hb : W.heap.size ≤ W1.heap.size) : MadeK W w x y s l := ⟨h.row.mono hb, h.col.mono hb, h.apart⟩
/-- An answer: a tensor of one's own, or an empty one. -/
def AnsD (W w : World) (r : Value) (e : Int) (s : List Int) (l : List (BitVec 32)) : Prop :=
  ∃ c : T4, r = .tuple #[c.v, .int .i64 e] ∧ c.at w ∧ (e ≠ 0 → c.s = [] ∧ c.l = []) ∧ (e = 0 → c.s = s ∧ c.l = l ∧ MadeK W w c.x c.y s l)
theorem ansD_no {W w : World} {e : Int} {s : List Int} {l : List (BitVec 32)} (h : e ≠ 0) : AnsD W w (.tuple #[.agg #[.slice none 0 0, .slice none 0 0], .int .i64 e]) e s l := ⟨⟨.slice none 0 0, .slice none 0 0, [], []⟩, rfl, ⟨Sl.nil _ _, Sl.nil _ _⟩, fun _ => ⟨rfl, rfl⟩, fun h0 => absurd h0 h⟩
theorem Gets.d {W w : World} {r : Value} {e : Int} {s : List Int} {l : List (BitVec 32)} (h : Gets W w r e s l) : AnsD W w r e s l := by
  obtain ⟨c, h1, h2, h3, h4⟩ := h
  exact ⟨c, h1, h2, h3, fun he => ⟨(h4 he).1, (h4 he).2.1, (h4 he).2.2.k⟩⟩
theorem AnsK.d {W w : World} {r : Value} {e : Int} {s : List Int} {l : List (BitVec 32)} (h : AnsK W w r e s l) : AnsD W w r e s l := by
  obtain ⟨x, y, rfl, q1, q2⟩ := h
  by_cases he : e = 0
  · exact ⟨⟨x, y, s, l⟩, rfl, (q2 he).at, fun h => absurd he h, fun _ => ⟨rfl, rfl, q2 he⟩⟩
  · obtain ⟨rfl, rfl⟩ := q1 he
    exact ansD_no he
theorem AnsD.low {W W1 w : World} {r : Value} {e : Int} {s : List Int} {l : List (BitVec 32)} (h : AnsD W1 w r e s l) (hb : W.heap.size ≤ W1.heap.size) : AnsD W w r e s l := by
  obtain ⟨c, h1, h2, h3, h4⟩ := h
  exact ⟨c, h1, h2, h3, fun he => ⟨(h4 he).1, (h4 he).2.1, (h4 he).2.2.mono hb⟩⟩

/-- What an action comes to. -/
def actE (k : BitVec 8) (x : N5) (ts : List T4) : Int :=
  let a := ts.getD 0 default
  let b := ts.getD 1 default
  if k = 3#8 ∨ k = 4#8 then e2 a.s a.l b.s b.l else if k = 7#8 then prdE a b else if k = 5#8 then e1 a.s a.l else if k = 6#8 then eSh a.s a.l x.n
  else if k = 8#8 then wofE a b x.n x.p else if k = 9#8 then wpoE a x.n else if k = 10#8 then mvE a x.s else if k = 11#8 then tnE a x.s else if k = 12#8 then jnE ts x.n else suE a x.n
def actS (k : BitVec 8) (x : N5) (ts : List T4) : List Int :=
  let a := ts.getD 0 default
  let b := ts.getD 1 default
  if k = 3#8 ∨ k = 4#8 then a.s else if k = 7#8 then [a.s.getD 0 default, b.s.getD 1 default] else if k = 5#8 then a.s else if k = 6#8 then a.s
  else if k = 8#8 then wshS a.s b.s x.n x.p else if k = 9#8 then pshS a.s x.n else if k = 10#8 then x.s else if k = 11#8 then turn a.s x.s else if k = 12#8 then jnS ts x.n.toNat else without a.s x.n.toNat
def actL (k : BitVec 8) (x : N5) (ts : List T4) : List (BitVec 32) :=
  let a := ts.getD 0 default
  let b := ts.getD 1 default
  if k = 3#8 then z2 (· + ·) a.s a.l b.l else if k = 4#8 then z2 (· * ·) a.s a.l b.l else if k = 7#8 then prdL a b else if k = 5#8 then z1 reluB a.s a.l else if k = 6#8 then z1 (shB x.n.toNat) a.s a.l
  else if k = 8#8 then wofL a b x.n x.p else if k = 9#8 then wpoL a x.n else if k = 10#8 then a.l else if k = 11#8 then tuL a.s a.l x.s else if k = 12#8 then jnL ts x.n.toNat else suL a.s a.l x.n.toNat
theorem mord_c (v : Value) (l : List Int) (w : World) (hv : SlT (Value.int .i64) w v l) : Fnc Tryz.prog 92 [v] w (fun r w' => r = .bool (gord l) ∧ Below w.heap.size w w') := by
  have hle := hv.le
  refine Fnc.enter (n := 17) Tryz.func92 (by kernel_rfl) rfl rfl rfl ?_
  refine Cw.seq ?_
  refine Cw.region ?_
  refine Lw.val (Ex.assign rfl) rfl ?_
  refine Lw.nil ?_
  refine Pw.thenN (Cw.out ?_)
  refine Cw.seq ?_
  refine Cw.seq ?_
  refine Cw.region ?_
  refine Lw.val (Ex.move rfl) rfl ?_
  refine Lw.val (Ex.lenS st_26 rfl (by assumption)) rfl ?_
  refine Lw.val (Ex.move rfl) rfl ?_
  refine Lw.nil ?_
  refine Pw.thenN (Cw.out ?_)
  refine Cw.block ?_
  refine Cw.loop (S := Nat) (fun i => [(0, v), (5, .int .i64 (l.length : Int)), (6, .int .i64 (i : Int))]) (fun i w' => i ≤ l.length ∧ (∀ j, j < i → l.contains (j : Int) = true) ∧ Below w.heap.size w w') (fun i => l.length - i) (0) ⟨rfl, rfl, rfl, trivial⟩ ?_ ?_
  · exact ⟨Nat.zero_le _, fun _ h => by omega, Below.refl _ _⟩
  rintro i w1 ⟨hi, hC, hB⟩
  have hv1 := hv.bs hB
  refine Cw.seq ?_
  refine Cw.region ?_
  refine Lw.val (Ex.lss rfl rfl) rfl ?_
  refine Lw.nil ?_
  refine Pw.thenN (Cw.out ?_)
  refine Cw.seq ?_
  refine Cw.cond rfl ?_ ?_
  · intro h
    have hi' : i < l.length := by have := of_decide_eq_true h; omega
    refine Cw.skip ?_
    refine Pw.thenN (Cw.out ?_)
    refine Cw.seq ?_
    refine Cw.block ?_
    refine Cw.seq ?_
    refine Cw.region ?_
    refine Lw.val (Ex.move rfl) rfl ?_
    refine Lw.val (Ex.assign rfl) rfl ?_
    refine Lw.nil ?_
    refine Pw.thenN (Cw.out ?_)
    refine Cw.seq ?_
    refine Cw.region ?_
    refine Lw.val (Ex.move rfl) rfl ?_
    refine Lw.val (Ex.move rfl) rfl ?_
    refine Lw.callF rfl rfl (contains_c v l (i : Int) w1 hv1) ?_
    rintro _ w2 ⟨rfl, hn⟩
    have hB2 := hB.trans (hn.mono (below_size hB))
    refine Lw.val (Ex.not rfl) rfl ?_
    refine Lw.nil ?_
    refine Pw.thenN (Cw.out ?_)
    refine Cw.cond rfl ?_ ?_
    · intro g
      have g1 : l.contains (i : Int) = false := by simpa using g
      refine Cw.seq ?_
      refine Cw.region ?_
      refine Lw.val (Ex.assign rfl) rfl ?_
      refine Lw.nil ?_
      refine Pw.thenN (Cw.out ?_)
      refine Cw.ret ?_
      refine Pw.blkR ?_
      refine Pw.thenR ?_
      refine Pw.thenR ?_
      refine Pw.blkR ?_
      refine Pw.thenR ?_
      refine Pw.ret1 rfl rfl ?_
      refine ⟨?_, hB2⟩
      unfold gord; rw [cov_no hi' g1]; rfl
    intro g
    have g1 : l.contains (i : Int) = true := by simpa using g
    refine Cw.skip ?_
    refine Pw.blkN ?_
    refine Pw.thenN (Cw.out ?_)
    refine Cw.region ?_
    refine Lw.val (Ex.addI rfl rfl (by omega)) rfl ?_
    refine Lw.val (Ex.move rfl) rfl ?_
    refine Lw.nil ?_
    exact Pw.thenN (Pw.next (i + 1) ⟨rfl, rfl, rfl, trivial⟩ (⟨hi', fun j hj => (Nat.lt_succ_iff_lt_or_eq.1 hj).elim (hC j) (fun e => e ▸ g1), hB2⟩) (by omega))
  intro h
  have hi' : i = l.length := by have := of_decide_eq_false h; omega
  subst hi'
  have hok : cov l = true := cov_iff.2 hC
  refine Cw.exit ?_
  refine Pw.thenE ?_
  refine Pw.thenE ?_
  refine Pw.blkHit ?_
  refine Pw.thenN (Cw.out ?_)
  refine Cw.seq ?_
  refine Cw.region ?_
  refine Lw.val (Ex.move rfl) rfl ?_
  refine Lw.val (Ex.lenS st_26 rfl (by assumption)) rfl ?_
  refine Lw.val (Ex.leq rfl rfl) rfl ?_
  refine Lw.val (Ex.assign rfl) rfl ?_
  refine Lw.nil ?_
  refine Pw.thenN (Cw.out ?_)
  refine Cw.ret ?_
  refine Pw.ret1 rfl rfl ?_
  refine ⟨?_, hB⟩
  unfold gord; rw [hok, Bool.true_and]; congr 1; exact decide_eq_decide.2 (by omega)
/-- Has a node the fields of its kind? -/
def fldB (k : BitVec 8) (s : List Int) (p : Int) : Bool := if k = 10#8 then Shapes.ok s && decide (p = 0) else if k = 11#8 then gord s && decide (p = 0) else if k = 8#8 then decide (s.length = 0) && decide (0 ≤ p) && decide (p ≤ 8) else decide (s.length = 0) && decide (p = 0)
theorem len0 {l : List Int} : decide ((l.length : Int) = 0) = decide (l.length = 0) := decide_eq_decide.2 (by omega)
theorem fields_c (x : N5) (w : World) (hx : N5.at w x) : Fnc Tryz.prog 47 [x.v] w (fun r w' => r = .bool (fldB x.k x.s x.p) ∧ Below w.heap.size w w') := by
  have hB := Below.refl w.heap.size w
  have h_s := hx.s
  refine Fnc.enter (n := 50) Tryz.func47 (by kernel_rfl) rfl rfl rfl ?_
  refine Cw.seq ?_
  refine Cw.region ?_
  refine Lw.boxV (cs := x.cells) rfl rfl rfl ?_
  rintro A_x w eA_x b_x hn -
  replace hB := hB.bs hn
  replace h_s := h_s.bs hn
  clear hn
  refine Lw.val (Ex.assign rfl) rfl ?_
  refine Lw.nil ?_
  refine Pw.thenN (Cw.out ?_)
  refine Cw.seq ?_
  refine Cw.seq ?_
  refine Cw.region ?_
  refine Lw.val (Ex.fieldAddr (q := 0) Tryz.underlying45 rfl (sz_43 _) rfl) rfl ?_
  refine Lw.val (Ex.ldB (ag_43 _) rfl (by assumption) rfl) rfl ?_
  refine Lw.nil ?_
  refine Pw.thenN (Cw.out ?_)
  refine Cw.block ?_
  refine Cw.seq ?_
  refine Cw.region ?_
  refine Lw.val (Ex.eql8 rfl (show _ = some (b8 (10#8)) from rfl)) rfl ?_
  refine Lw.val (Ex.assign rfl) rfl ?_
  refine Lw.nil ?_
  refine Pw.thenN (Cw.out ?_)
  refine Cw.cond rfl ?_ ?_
  · intro g
    have g : x.k = 10#8 := of_decide_eq_true g
    have e : fldB x.k x.s x.p = (Shapes.ok x.s && decide (x.p = 0)) := by unfold fldB; rw [if_pos g]
    rw [e]
    refine Cw.seq ?_
    refine Cw.region ?_
    refine Lw.val (Ex.fieldAddr (q := 0) Tryz.underlying45 rfl (sz_26 _) rfl) rfl ?_
    refine Lw.val (Ex.ldB (ag_26 _) rfl (by assumption) rfl) rfl ?_
    refine Lw.callF rfl rfl (check_c x.y x.s w h_s) ?_
    rintro _ w1 ⟨rfl, hn1⟩
    have b_x := b_x.bs hn1
    have hB := bt hB hn1
    refine Lw.val (Ex.move rfl) rfl ?_
    refine Lw.part 10 rfl ?_ ?_
    · intro g2
      refine Lw.take (dj := 10) rfl rfl ?_
      refine Lw.val (Ex.fieldAddr (q := 0) Tryz.underlying45 rfl (sz_3 _) rfl) rfl ?_
      refine Lw.take (dj := 10) rfl rfl ?_
      refine Lw.val (Ex.ldB (ag_3 _) rfl (by assumption) rfl) rfl ?_
      refine Lw.take (dj := 10) rfl rfl ?_
      refine Lw.val (Ex.eql rfl rfl) rfl ?_
      refine Lw.val (Ex.pickT rfl rfl) rfl ?_
      refine Lw.val (Ex.assign rfl) rfl ?_
      refine Lw.nil ?_
      refine Pw.thenN (Cw.out ?_)
      refine Cw.ret ?_
      refine Pw.blkR ?_
      refine Pw.thenR ?_
      refine Pw.ret1 rfl rfl ?_
      rw [g2]
      exact ⟨rfl, hB⟩
    intro g2
    refine Lw.pass (dj := 10) rfl rfl rfl rfl ?_
    refine Lw.pass (dj := 10) rfl rfl rfl rfl ?_
    refine Lw.pass (dj := 10) rfl rfl rfl rfl ?_
    refine Lw.val (Ex.pickF rfl rfl) rfl ?_
    refine Lw.val (Ex.assign rfl) rfl ?_
    refine Lw.nil ?_
    refine Pw.thenN (Cw.out ?_)
    refine Cw.ret ?_
    refine Pw.blkR ?_
    refine Pw.thenR ?_
    refine Pw.ret1 rfl rfl ?_
    rw [g2]
    exact ⟨rfl, hB⟩
  intro g10
  have g10 : ¬ x.k = 10#8 := of_decide_eq_false g10
  refine Cw.seq ?_
  refine Cw.region ?_
  refine Lw.val (Ex.eql8 rfl (show _ = some (b8 (11#8)) from rfl)) rfl ?_
  refine Lw.val (Ex.assign rfl) rfl ?_
  refine Lw.nil ?_
  refine Pw.thenN (Cw.out ?_)
  refine Cw.cond rfl ?_ ?_
  · intro g
    have g : x.k = 11#8 := of_decide_eq_true g
    have e : fldB x.k x.s x.p = (gord x.s && decide (x.p = 0)) := by unfold fldB; rw [if_neg g10, if_pos g]
    rw [e]
    refine Cw.seq ?_
    refine Cw.region ?_
    refine Lw.val (Ex.fieldAddr (q := 0) Tryz.underlying45 rfl (sz_26 _) rfl) rfl ?_
    refine Lw.val (Ex.ldB (ag_26 _) rfl (by assumption) rfl) rfl ?_
    refine Lw.callF rfl rfl (mord_c x.y x.s w h_s) ?_
    rintro _ w1 ⟨rfl, hn1⟩
    have b_x := b_x.bs hn1
    have hB := bt hB hn1
    refine Lw.val (Ex.move rfl) rfl ?_
    refine Lw.part 20 rfl ?_ ?_
    · intro g2
      refine Lw.take (dj := 20) rfl rfl ?_
      refine Lw.val (Ex.fieldAddr (q := 0) Tryz.underlying45 rfl (sz_3 _) rfl) rfl ?_
      refine Lw.take (dj := 20) rfl rfl ?_
      refine Lw.val (Ex.ldB (ag_3 _) rfl (by assumption) rfl) rfl ?_
      refine Lw.take (dj := 20) rfl rfl ?_
      refine Lw.val (Ex.eql rfl rfl) rfl ?_
      refine Lw.val (Ex.pickT rfl rfl) rfl ?_
      refine Lw.val (Ex.assign rfl) rfl ?_
      refine Lw.nil ?_
      refine Pw.thenN (Cw.out ?_)
      refine Cw.ret ?_
      refine Pw.blkR ?_
      refine Pw.thenR ?_
      refine Pw.ret1 rfl rfl ?_
      rw [g2]
      exact ⟨rfl, hB⟩
    intro g2
    refine Lw.pass (dj := 20) rfl rfl rfl rfl ?_
    refine Lw.pass (dj := 20) rfl rfl rfl rfl ?_
    refine Lw.pass (dj := 20) rfl rfl rfl rfl ?_
    refine Lw.val (Ex.pickF rfl rfl) rfl ?_
    refine Lw.val (Ex.assign rfl) rfl ?_
    refine Lw.nil ?_
    refine Pw.thenN (Cw.out ?_)
    refine Cw.ret ?_
    refine Pw.blkR ?_
    refine Pw.thenR ?_
    refine Pw.ret1 rfl rfl ?_
    rw [g2]
    exact ⟨rfl, hB⟩
  intro g11
  have g11 : ¬ x.k = 11#8 := of_decide_eq_false g11
  refine Cw.seq ?_
  refine Cw.region ?_
  refine Lw.val (Ex.eql8 rfl (show _ = some (b8 (8#8)) from rfl)) rfl ?_
  refine Lw.val (Ex.assign rfl) rfl ?_
  refine Lw.nil ?_
  refine Pw.thenN (Cw.out ?_)
  refine Cw.cond rfl ?_ ?_
  · intro g
    have g : x.k = 8#8 := of_decide_eq_true g
    have e : fldB x.k x.s x.p = (decide (x.s.length = 0) && decide (0 ≤ x.p) && decide (x.p ≤ 8)) := by unfold fldB; rw [if_neg g10, if_neg g11, if_pos g]
    rw [e, ← len0]
    refine Cw.seq ?_
    refine Cw.region ?_
    refine Lw.val (Ex.fieldAddr (q := 0) Tryz.underlying45 rfl (sz_26 _) rfl) rfl ?_
    refine Lw.val (Ex.ldB (ag_26 _) rfl (by assumption) rfl) rfl ?_
    refine Lw.val (Ex.lenS st_26 rfl (by assumption)) rfl ?_
    refine Lw.val (Ex.eql rfl rfl) rfl ?_
    refine Lw.val (Ex.move rfl) rfl ?_
    refine Lw.part 31 rfl ?_ ?_
    · intro g2
      refine Lw.take (dj := 31) rfl rfl ?_
      refine Lw.val (Ex.fieldAddr (q := 0) Tryz.underlying45 rfl (sz_3 _) rfl) rfl ?_
      refine Lw.take (dj := 31) rfl rfl ?_
      refine Lw.val (Ex.ldB (ag_3 _) rfl (by assumption) rfl) rfl ?_
      refine Lw.take (dj := 31) rfl rfl ?_
      refine Lw.val (Ex.geq rfl rfl) rfl ?_
      refine Lw.val (Ex.pickT rfl rfl) rfl ?_
      refine Lw.val (Ex.move rfl) rfl ?_
      refine Lw.part 36 rfl ?_ ?_
      · intro g3
        refine Lw.take (dj := 36) rfl rfl ?_
        refine Lw.val (Ex.fieldAddr (q := 0) Tryz.underlying45 rfl (sz_3 _) rfl) rfl ?_
        refine Lw.take (dj := 36) rfl rfl ?_
        refine Lw.val (Ex.ldB (ag_3 _) rfl (by assumption) rfl) rfl ?_
        refine Lw.take (dj := 36) rfl rfl ?_
        refine Lw.val (Ex.leq rfl rfl) rfl ?_
        refine Lw.val (Ex.pickT rfl rfl) rfl ?_
        refine Lw.val (Ex.assign rfl) rfl ?_
        refine Lw.nil ?_
        refine Pw.thenN (Cw.out ?_)
        refine Cw.ret ?_
        refine Pw.blkR ?_
        refine Pw.thenR ?_
        refine Pw.ret1 rfl rfl ?_
        rw [g2, g3]
        exact ⟨rfl, hB⟩
      intro g3
      refine Lw.pass (dj := 36) rfl rfl rfl rfl ?_
      refine Lw.pass (dj := 36) rfl rfl rfl rfl ?_
      refine Lw.pass (dj := 36) rfl rfl rfl rfl ?_
      refine Lw.val (Ex.pickF rfl rfl) rfl ?_
      refine Lw.val (Ex.assign rfl) rfl ?_
      refine Lw.nil ?_
      refine Pw.thenN (Cw.out ?_)
      refine Cw.ret ?_
      refine Pw.blkR ?_
      refine Pw.thenR ?_
      refine Pw.ret1 rfl rfl ?_
      rw [g2, g3]
      exact ⟨rfl, hB⟩
    intro g2
    refine Lw.pass (dj := 31) rfl rfl rfl rfl ?_
    refine Lw.pass (dj := 31) rfl rfl rfl rfl ?_
    refine Lw.pass (dj := 31) rfl rfl rfl rfl ?_
    refine Lw.val (Ex.pickF rfl rfl) rfl ?_
    refine Lw.val (Ex.move rfl) rfl ?_
    refine Lw.pass (dj := 36) rfl rfl rfl rfl ?_
    refine Lw.pass (dj := 36) rfl rfl rfl rfl ?_
    refine Lw.pass (dj := 36) rfl rfl rfl rfl ?_
    refine Lw.val (Ex.pickF rfl rfl) rfl ?_
    refine Lw.val (Ex.assign rfl) rfl ?_
    refine Lw.nil ?_
    refine Pw.thenN (Cw.out ?_)
    refine Cw.ret ?_
    refine Pw.blkR ?_
    refine Pw.thenR ?_
    refine Pw.ret1 rfl rfl ?_
    rw [g2]
    exact ⟨rfl, hB⟩
  intro g8
  have g8 : ¬ x.k = 8#8 := of_decide_eq_false g8
  have e : fldB x.k x.s x.p = (decide (x.s.length = 0) && decide (x.p = 0)) := by unfold fldB; rw [if_neg g10, if_neg g11, if_neg g8]
  rw [e, ← len0]
  refine Cw.skip ?_
  refine Pw.blkN ?_
  refine Pw.thenN (Cw.out ?_)
  refine Cw.seq ?_
  refine Cw.region ?_
  refine Lw.val (Ex.fieldAddr (q := 0) Tryz.underlying45 rfl (sz_26 _) rfl) rfl ?_
  refine Lw.val (Ex.ldB (ag_26 _) rfl (by assumption) rfl) rfl ?_
  refine Lw.val (Ex.lenS st_26 rfl (by assumption)) rfl ?_
  refine Lw.val (Ex.eql rfl rfl) rfl ?_
  refine Lw.val (Ex.move rfl) rfl ?_
  refine Lw.part 45 rfl ?_ ?_
  · intro g2
    refine Lw.take (dj := 45) rfl rfl ?_
    refine Lw.val (Ex.fieldAddr (q := 0) Tryz.underlying45 rfl (sz_3 _) rfl) rfl ?_
    refine Lw.take (dj := 45) rfl rfl ?_
    refine Lw.val (Ex.ldB (ag_3 _) rfl (by assumption) rfl) rfl ?_
    refine Lw.take (dj := 45) rfl rfl ?_
    refine Lw.val (Ex.eql rfl rfl) rfl ?_
    refine Lw.val (Ex.pickT rfl rfl) rfl ?_
    refine Lw.val (Ex.assign rfl) rfl ?_
    refine Lw.nil ?_
    refine Pw.thenN (Cw.out ?_)
    refine Cw.ret ?_
    refine Pw.ret1 rfl rfl ?_
    rw [g2]
    exact ⟨rfl, hB⟩
  intro g2
  refine Lw.pass (dj := 45) rfl rfl rfl rfl ?_
  refine Lw.pass (dj := 45) rfl rfl rfl rfl ?_
  refine Lw.pass (dj := 45) rfl rfl rfl rfl ?_
  refine Lw.val (Ex.pickF rfl rfl) rfl ?_
  refine Lw.val (Ex.assign rfl) rfl ?_
  refine Lw.nil ?_
  refine Pw.thenN (Cw.out ?_)
  refine Cw.ret ?_
  refine Pw.ret1 rfl rfl ?_
  rw [g2]
  exact ⟨rfl, hB⟩
end Go.Proofs.YtmipoeanpnnjoaaGreat

/-! Contracts: one, two, and what each kind calls. -/
namespace Go.Proofs.YtmipoeanpnnjoaaGreat
open Go Go.Dd Go.RowKit
set_option maxRecDepth 100000

theorem ten_cells {ts : List T4} {j : Nat} (h : j < ts.length) : ∀ i, i < 2 → ∃ q, [ts[j].x, ts[j].y][i]? = some q ∧ (cellsOf ts)[j * 2 + i]? = some q := fun i hi => by
  obtain ⟨h1, h2⟩ := cells_at h
  rcases (show i = 0 ∨ i = 1 by omega) with rfl | rfl
  · exact ⟨_, rfl, h1⟩
  · exact ⟨_, rfl, h2⟩
abbrev tenT : TypeId := 29
theorem sl_none {w w' : World} {sz : Nat} {v : Value} (h : Sl w sz v 0 []) : Sl w' sz v 0 [] := by
  obtain ⟨h1, ao, cap, e, h2, h3, h4, -⟩ := h
  exact ⟨h1, ao, cap, e, h2, h3, h4, fun _ _ j u hu => by simp at hu⟩
/-- A store elsewhere. -/
theorem AnsD.by {W w w' : World} {r : Value} {e : Int} {s : List Int} {l : List (BitVec 32)} {A : Nat} (h : AnsD W w r e s l) (g : w.grownBy w' (some A)) (hA : A < W.heap.size) : AnsD W w' r e s l := by
  obtain ⟨d, h1, h2, h3, h4⟩ := h
  by_cases he : e = 0
  · obtain ⟨q1, q2, q3⟩ := h4 he
    have m : MadeK W w' d.x d.y s l := ⟨q3.row.heap fun b e => g.block b (q3.row.lt b e).2 (fun e2 => by have := (q3.row.lt b e).1; have := Option.some.inj e2; omega), q3.col.heap fun b e => g.block b (q3.col.lt b e).2 (fun e2 => by have := (q3.col.lt b e).1; have := Option.some.inj e2; omega), q3.apart⟩
    exact ⟨d, h1, by have := m.at; unfold T4.at at this ⊢; rw [q1, q2]; exact this, h3, fun _ => ⟨q1, q2, m⟩⟩
  · obtain ⟨q1, q2⟩ := h3 he
    refine ⟨d, h1, ?_, h3, fun h0 => absurd h0 he⟩
    unfold T4.at at h2 ⊢
    rw [q1, q2] at h2 ⊢
    exact ⟨sl_none h2.1, sl_none h2.2⟩
theorem AnsD.ones {W w : World} {r : Value} {e : Int} {s : List Int} {l : List (BitVec 32)} (h : AnsD W w r e s l) : ∃ x y, r = .tuple #[.agg [x, y].toArray, .int .i64 e] ∧ [x, y].all (·.oneCell') = true := by
  obtain ⟨d, h1, h2, -⟩ := h
  exact ⟨d.x, d.y, h1, by rw [List.all_cons, List.all_cons, h2.1.one', h2.2.one']; rfl⟩
theorem two1_c (x : N5) (v : Value) (a b : T4) (A : Nat) (f : FuncId) (e : Int) (s : List Int) (l : List (BitVec 32)) (w : World) (b_A : Blk w A 49 [.func (.func f) #[] #[]]) (hx : N5.at w x) (h : Tens w v [a, b])
    (hf : ∀ w1, Below w.heap.size w w1 → Fnc Tryz.prog f [a.v, b.v] w1 (fun r w' => Below w1.heap.size w1 w' ∧ AnsD w1 w' r e s l)) :
    Fnc Tryz.prog 101 [x.v, v, .pointer (some ⟨A, 0, none⟩)] w (fun r w' => Below w.heap.size w w' ∧ AnsD w w' r e s l) := by
  obtain ⟨W, hW⟩ : ∃ W, W = w := ⟨_, rfl⟩
  rw [← hW] at b_A hx h hf
  rw [← hW]
  have hB := Below.refl W.heap.size W
  have h_i := hx.i
  have h_s := hx.s
  have h_v := h.1
  refine Fnc.enter (n := 17) Tryz.func101 (by kernel_rfl) rfl rfl rfl ?_
  refine Cw.seq ?_
  refine Cw.region ?_
  refine Lw.boxV (cs := x.cells) rfl rfl rfl ?_
  rintro A_x w eA_x b_x hn -
  replace hB := hB.bs hn
  clear hn
  have yx := blk_lt b_x
  refine Lw.newA it_29 rfl ?_
  rintro A_r w eA_r b_r hn -
  replace hB := hB.bs hn
  replace b_x := b_x.bs hn
  clear hn
  refine Lw.val (Ex.assign rfl) rfl ?_
  refine Lw.nil ?_
  refine Pw.thenN (Cw.out ?_)
  refine Cw.seq ?_
  have z0 := below_size hB
  have yr := blk_lt b_r
  refine Cw.any mixed (fun w2 hd _ => ?_)
  have hB2 := hB.trans (hd.mono z0)
  refine Aw.cls (fun w' => Below W.heap.size W w') (fun hC => ?_) (hB2)
  refine AwC.take (i := 0) (NoP.thn NoP.ret) rfl (by kernel_rfl) (by kernel_rfl) (by kernel_rfl) (fun w1 hc => Ex.ldB (ag_49 _) rfl (Blk.bs (by assumption) hc) rfl) rfl ?_
  refine AwC.take (i := 1) (NoP.thn NoP.ret) rfl (by kernel_rfl) (by kernel_rfl) (by kernel_rfl) (fun w1 hc => Ex.move rfl) rfl ?_
  refine AwC.take (i := 2) (NoP.thn NoP.ret) rfl (by kernel_rfl) (by kernel_rfl) (by kernel_rfl) (fun w1 hc => Ex.idx st_25 rfl rfl (h_v.bs hc) 0 rfl (show 0 < 2 by decide)) rfl ?_
  refine AwC.take (i := 3) (NoP.thn NoP.ret) rfl (by kernel_rfl) (by kernel_rfl) (by kernel_rfl) (fun w1 hc => Ex.ldE (cs := [a.x, a.y]) (ag_29 _) (sz_29 _) rfl (h_v.bs hc) rfl (by decide) (ten_cells (ts := [a, b]) (j := 0) Nat.zero_lt_two)) rfl ?_
  refine AwC.take (i := 4) (NoP.thn NoP.ret) rfl (by kernel_rfl) (by kernel_rfl) (by kernel_rfl) (fun w1 hc => Ex.move rfl) rfl ?_
  refine AwC.take (i := 5) (NoP.thn NoP.ret) rfl (by kernel_rfl) (by kernel_rfl) (by kernel_rfl) (fun w1 hc => Ex.idx st_25 rfl rfl (h_v.bs hc) 1 rfl (show 1 < 2 by decide)) rfl ?_
  refine AwC.take (i := 6) (NoP.thn NoP.ret) rfl (by kernel_rfl) (by kernel_rfl) (by kernel_rfl) (fun w1 hc => Ex.ldE (cs := [b.x, b.y]) (ag_29 _) (sz_29 _) rfl (h_v.bs hc) rfl (by decide) (ten_cells (ts := [a, b]) (j := 1) Nat.one_lt_two)) rfl ?_
  refine AwC.only (by assumption) (i := 7) (by kernel_rfl) rfl ?_
  refine Lw.callV (p := []) (q := []) rfl rfl rfl (hf w2 hB2) ?_
  rintro r w3 ⟨hn3, hA⟩
  obtain ⟨rx, ry, rfl, r1⟩ := hA.ones
  have z2 := hd.size
  have z3 := hn3.size
  have hB3 := hB2.trans (hn3.mono (by omega))
  have b_r3 := (b_r.bs hd).bs hn3
  refine AwC.back ?_
  refine AwC.take (i := 8) (NoP.thn NoP.ret) rfl (by kernel_rfl) (by kernel_rfl) (by kernel_rfl) (fun w1 hc => Ex.extract (i := 0) rfl rfl) rfl ?_
  refine AwC.take (i := 9) (NoP.thn NoP.ret) rfl (by kernel_rfl) (by kernel_rfl) (by kernel_rfl) (fun w1 hc => Ex.extract (i := 1) rfl rfl) rfl ?_
  refine AwC.only (by assumption) (i := 10) (by kernel_rfl) rfl ?_
  refine Lw.unit (Xu.stA (cs := [rx, ry]) (k := 2) (by kernel_rfl) rfl rfl rfl r1 b_r3 rfl) ?_
  rintro w4 ⟨b_r4, hg4, hz4⟩
  have hA4 := hA.by hg4 (by omega)
  have hB4 := hB3.grown hg4 (by omega) (by rintro _ ⟨⟩; omega)
  refine AwC.back ?_
  refine AwC.take (i := 11) (NoP.thn NoP.ret) rfl (by kernel_rfl) (by kernel_rfl) (by kernel_rfl) (fun w1 hc => Ex.assign rfl) rfl ?_
  refine AwC.done (by assumption) (by kernel_rfl) ?_
  refine Pw.thenN (Cw.out ?_)
  refine Cw.ret ?_
  refine Pw.retCT rfl rfl rfl (by assumption) (Tryz.underlying29) rfl rfl rfl ?_
  exact ⟨hB4, hA4.low (by omega)⟩
theorem one1_c (x : N5) (v : Value) (a : T4) (A : Nat) (f : FuncId) (e : Int) (s : List Int) (l : List (BitVec 32)) (w : World) (b_A : Blk w A 112 [.func (.func f) #[] #[]]) (hx : N5.at w x) (h : Tens w v [a])
    (hf : ∀ w1, Below w.heap.size w w1 → Fnc Tryz.prog f [x.v, a.v] w1 (fun r w' => Below w1.heap.size w1 w' ∧ AnsD w1 w' r e s l)) :
    Fnc Tryz.prog 104 [x.v, v, .pointer (some ⟨A, 0, none⟩)] w (fun r w' => Below w.heap.size w w' ∧ AnsD w w' r e s l) := by
  obtain ⟨W, hW⟩ : ∃ W, W = w := ⟨_, rfl⟩
  rw [← hW] at b_A hx h hf
  rw [← hW]
  have hB := Below.refl W.heap.size W
  have h_i := hx.i
  have h_s := hx.s
  have h_v := h.1
  refine Fnc.enter (n := 15) Tryz.func104 (by kernel_rfl) rfl rfl rfl ?_
  refine Cw.seq ?_
  refine Cw.region ?_
  refine Lw.boxV (cs := x.cells) rfl rfl rfl ?_
  rintro A_x w eA_x b_x hn -
  replace hB := hB.bs hn
  clear hn
  have yx := blk_lt b_x
  refine Lw.newA it_29 rfl ?_
  rintro A_r w eA_r b_r hn -
  replace hB := hB.bs hn
  replace b_x := b_x.bs hn
  clear hn
  refine Lw.val (Ex.assign rfl) rfl ?_
  refine Lw.nil ?_
  refine Pw.thenN (Cw.out ?_)
  refine Cw.seq ?_
  have z0 := below_size hB
  have yr := blk_lt b_r
  refine Cw.any mixed (fun w2 hd _ => ?_)
  have hB2 := hB.trans (hd.mono z0)
  have b_x2 := b_x.bs hd
  refine Aw.cls (fun w' => Below W.heap.size W w' ∧ Blk w' A_x 45 x.cells) (fun hC => ?_) (⟨hB2, b_x2⟩)
  refine AwC.take (i := 0) (NoP.thn NoP.ret) rfl (by kernel_rfl) (by kernel_rfl) (by kernel_rfl) (fun w1 hc => Ex.ldB (ag_112 _) rfl (b_A.bs hc.1) rfl) rfl ?_
  refine AwC.take (i := 1) (NoP.thn NoP.ret) rfl (by kernel_rfl) (by kernel_rfl) (by kernel_rfl) (fun w1 hc => Ex.ldA (k := 5) (ag_45 _) (sz_45 _) rfl rfl hc.2) rfl ?_
  refine AwC.take (i := 2) (NoP.thn NoP.ret) rfl (by kernel_rfl) (by kernel_rfl) (by kernel_rfl) (fun w1 hc => Ex.move rfl) rfl ?_
  refine AwC.take (i := 3) (NoP.thn NoP.ret) rfl (by kernel_rfl) (by kernel_rfl) (by kernel_rfl) (fun w1 hc => Ex.idx st_25 rfl rfl (h_v.bs hc.1) 0 rfl (show 0 < 1 by decide)) rfl ?_
  refine AwC.take (i := 4) (NoP.thn NoP.ret) rfl (by kernel_rfl) (by kernel_rfl) (by kernel_rfl) (fun w1 hc => Ex.ldE (cs := [a.x, a.y]) (ag_29 _) (sz_29 _) rfl (h_v.bs hc.1) rfl (by decide) (ten_cells (ts := [a]) (j := 0) Nat.zero_lt_one)) rfl ?_
  refine AwC.only (by assumption) (i := 5) (by kernel_rfl) rfl ?_
  refine Lw.callV (p := []) (q := []) rfl rfl rfl (hf w2 hB2) ?_
  rintro r w3 ⟨hn3, hA⟩
  obtain ⟨rx, ry, rfl, r1⟩ := hA.ones
  have z2 := hd.size
  have z3 := hn3.size
  have hB3 := hB2.trans (hn3.mono (by omega))
  have b_r3 := (b_r.bs hd).bs hn3
  have b_x3 := b_x2.bs hn3
  have hC3 : Below W.heap.size W w3 ∧ Blk w3 A_x 45 x.cells := ⟨hB3, b_x3⟩
  refine AwC.back ?_
  refine AwC.take (i := 6) (NoP.thn NoP.ret) rfl (by kernel_rfl) (by kernel_rfl) (by kernel_rfl) (fun w1 hc => Ex.extract (i := 0) rfl rfl) rfl ?_
  refine AwC.take (i := 7) (NoP.thn NoP.ret) rfl (by kernel_rfl) (by kernel_rfl) (by kernel_rfl) (fun w1 hc => Ex.extract (i := 1) rfl rfl) rfl ?_
  refine AwC.only (by assumption) (i := 8) (by kernel_rfl) rfl ?_
  refine Lw.unit (Xu.stA (cs := [rx, ry]) (k := 2) (by kernel_rfl) rfl rfl rfl r1 b_r3 rfl) ?_
  rintro w4 ⟨b_r4, hg4, hz4⟩
  have hA4 := hA.by hg4 (by omega)
  have hB4 := hB3.grown hg4 (by omega) (by rintro _ ⟨⟩; omega)
  have hC4 : Below W.heap.size W w4 ∧ Blk w4 A_x 45 x.cells := ⟨hB4, b_x3.by hg4 (fun e => by have := Option.some.inj e; omega)⟩
  refine AwC.back ?_
  refine AwC.take (i := 9) (NoP.thn NoP.ret) rfl (by kernel_rfl) (by kernel_rfl) (by kernel_rfl) (fun w1 hc => Ex.assign rfl) rfl ?_
  refine AwC.done (by assumption) (by kernel_rfl) ?_
  refine Pw.thenN (Cw.out ?_)
  refine Cw.ret ?_
  refine Pw.retCT rfl rfl rfl (by assumption) (Tryz.underlying29) rfl rfl rfl ?_
  exact ⟨hB4, hA4.low (by omega)⟩
theorem deed1_c (x : N5) (a : T4) (w : World) (hx : N5.at w x) (ha : a.at w) :
    Fnc Tryz.prog 76 [x.v, a.v] w (fun r w' => Below w.heap.size w w' ∧ AnsD w w' r (e1 a.s a.l) (a.s) (z1 reluB a.s a.l)) := by
  obtain ⟨W, hW⟩ : ∃ W, W = w := ⟨_, rfl⟩
  rw [← hW] at hx ha
  rw [← hW]
  have hB := Below.refl W.heap.size W
  have h_s := hx.s
  have h_a := ha
  refine Fnc.enter (n := 10) Tryz.func76 (by kernel_rfl) rfl rfl rfl ?_
  refine Cw.seq ?_
  refine Cw.region ?_
  refine Lw.boxV (cs := x.cells) rfl rfl rfl ?_
  rintro A_x w eA_x b_x hn -
  replace hB := hB.bs hn
  replace h_s := h_s.bs hn
  replace h_a := h_a.bs hn
  clear hn
  have yx := blk_lt b_x
  refine Lw.boxV (cs := [a.x, a.y]) rfl rfl rfl ?_
  rintro A_a w eA_a b_a hn -
  replace hB := hB.bs hn
  replace h_s := h_s.bs hn
  replace h_a := h_a.bs hn
  replace b_x := b_x.bs hn
  clear hn
  have ya := blk_lt b_a
  refine Lw.newA it_29 rfl ?_
  rintro A_r w eA_r b_r hn -
  replace hB := hB.bs hn
  replace h_s := h_s.bs hn
  replace h_a := h_a.bs hn
  replace b_x := b_x.bs hn
  replace b_a := b_a.bs hn
  clear hn
  refine Lw.val (Ex.assign rfl) rfl ?_
  refine Lw.nil ?_
  refine Pw.thenN (Cw.out ?_)
  refine Cw.seq ?_
  refine Cw.region ?_
  refine Lw.val (Ex.ldA (ag_29 _) (sz_29 _) rfl rfl (by assumption)) rfl ?_
  have z0 := below_size hB
  have yr := blk_lt b_r
  refine Lw.callF rfl rfl (relu_p a w h_a) ?_
  rintro r w3 ⟨hn3, hA⟩
  have hA := Gets.d hA
  obtain ⟨rx, ry, rfl, r1⟩ := hA.ones
  have z3 := hn3.size
  have hB3 := hB.trans (hn3.mono z0)
  have b_r3 := b_r.bs hn3
  refine Lw.val (Ex.extract (i := 0) rfl rfl) rfl ?_
  refine Lw.val (Ex.extract (i := 1) rfl rfl) rfl ?_
  refine Lw.unit (Xu.stA (cs := [rx, ry]) (k := 2) (by kernel_rfl) rfl rfl rfl r1 b_r3 rfl) ?_
  rintro w4 ⟨b_r4, hg4, hz4⟩
  have hA4 := hA.by hg4 yr
  have hB4 := hB3.grown hg4 (by omega) (by rintro _ ⟨⟩; omega)
  refine Lw.val (Ex.assign rfl) rfl ?_
  refine Lw.nil ?_
  refine Pw.thenN (Cw.out ?_)
  refine Cw.ret ?_
  refine Pw.retCT rfl rfl rfl (by assumption) (Tryz.underlying29) rfl rfl rfl ?_
  exact ⟨hB4, hA4.low z0⟩
theorem deed2_c (x : N5) (a : T4) (w : World) (hx : N5.at w x) (ha : a.at w) :
    Fnc Tryz.prog 78 [x.v, a.v] w (fun r w' => Below w.heap.size w w' ∧ AnsD w w' r (eSh a.s a.l x.n) (a.s) (z1 (shB x.n.toNat) a.s a.l)) := by
  obtain ⟨W, hW⟩ : ∃ W, W = w := ⟨_, rfl⟩
  rw [← hW] at hx ha
  rw [← hW]
  have hB := Below.refl W.heap.size W
  have h_s := hx.s
  have h_a := ha
  refine Fnc.enter (n := 12) Tryz.func78 (by kernel_rfl) rfl rfl rfl ?_
  refine Cw.seq ?_
  refine Cw.region ?_
  refine Lw.boxV (cs := x.cells) rfl rfl rfl ?_
  rintro A_x w eA_x b_x hn -
  replace hB := hB.bs hn
  replace h_s := h_s.bs hn
  replace h_a := h_a.bs hn
  clear hn
  have yx := blk_lt b_x
  refine Lw.boxV (cs := [a.x, a.y]) rfl rfl rfl ?_
  rintro A_a w eA_a b_a hn -
  replace hB := hB.bs hn
  replace h_s := h_s.bs hn
  replace h_a := h_a.bs hn
  replace b_x := b_x.bs hn
  clear hn
  have ya := blk_lt b_a
  refine Lw.newA it_29 rfl ?_
  rintro A_r w eA_r b_r hn -
  replace hB := hB.bs hn
  replace h_s := h_s.bs hn
  replace h_a := h_a.bs hn
  replace b_x := b_x.bs hn
  replace b_a := b_a.bs hn
  clear hn
  refine Lw.val (Ex.assign rfl) rfl ?_
  refine Lw.nil ?_
  refine Pw.thenN (Cw.out ?_)
  refine Cw.seq ?_
  refine Cw.region ?_
  refine Lw.val (Ex.ldA (ag_29 _) (sz_29 _) rfl rfl (by assumption)) rfl ?_
  refine Lw.val (Ex.fieldAddr (q := 0) Tryz.underlying45 rfl (sz_3 _) rfl) rfl ?_
  refine Lw.val (Ex.ldB (ag_3 _) rfl (by assumption) rfl) rfl ?_
  have z0 := below_size hB
  have yr := blk_lt b_r
  refine Lw.callF rfl rfl (shift_p a x.n w h_a) ?_
  rintro r w3 ⟨hn3, hA⟩
  have hA := Gets.d hA
  obtain ⟨rx, ry, rfl, r1⟩ := hA.ones
  have z3 := hn3.size
  have hB3 := hB.trans (hn3.mono z0)
  have b_r3 := b_r.bs hn3
  refine Lw.val (Ex.extract (i := 0) rfl rfl) rfl ?_
  refine Lw.val (Ex.extract (i := 1) rfl rfl) rfl ?_
  refine Lw.unit (Xu.stA (cs := [rx, ry]) (k := 2) (by kernel_rfl) rfl rfl rfl r1 b_r3 rfl) ?_
  rintro w4 ⟨b_r4, hg4, hz4⟩
  have hA4 := hA.by hg4 yr
  have hB4 := hB3.grown hg4 (by omega) (by rintro _ ⟨⟩; omega)
  refine Lw.val (Ex.assign rfl) rfl ?_
  refine Lw.nil ?_
  refine Pw.thenN (Cw.out ?_)
  refine Cw.ret ?_
  refine Pw.retCT rfl rfl rfl (by assumption) (Tryz.underlying29) rfl rfl rfl ?_
  exact ⟨hB4, hA4.low z0⟩
theorem deed3_c (x : N5) (a : T4) (w : World) (hx : N5.at w x) (ha : a.at w) :
    Fnc Tryz.prog 80 [x.v, a.v] w (fun r w' => Below w.heap.size w w' ∧ AnsD w w' r (wpoE a x.n) (pshS a.s x.n) (wpoL a x.n)) := by
  obtain ⟨W, hW⟩ : ∃ W, W = w := ⟨_, rfl⟩
  rw [← hW] at hx ha
  rw [← hW]
  have hB := Below.refl W.heap.size W
  have h_s := hx.s
  have h_a := ha
  refine Fnc.enter (n := 12) Tryz.func80 (by kernel_rfl) rfl rfl rfl ?_
  refine Cw.seq ?_
  refine Cw.region ?_
  refine Lw.boxV (cs := x.cells) rfl rfl rfl ?_
  rintro A_x w eA_x b_x hn -
  replace hB := hB.bs hn
  replace h_s := h_s.bs hn
  replace h_a := h_a.bs hn
  clear hn
  have yx := blk_lt b_x
  refine Lw.boxV (cs := [a.x, a.y]) rfl rfl rfl ?_
  rintro A_a w eA_a b_a hn -
  replace hB := hB.bs hn
  replace h_s := h_s.bs hn
  replace h_a := h_a.bs hn
  replace b_x := b_x.bs hn
  clear hn
  have ya := blk_lt b_a
  refine Lw.newA it_29 rfl ?_
  rintro A_r w eA_r b_r hn -
  replace hB := hB.bs hn
  replace h_s := h_s.bs hn
  replace h_a := h_a.bs hn
  replace b_x := b_x.bs hn
  replace b_a := b_a.bs hn
  clear hn
  refine Lw.val (Ex.assign rfl) rfl ?_
  refine Lw.nil ?_
  refine Pw.thenN (Cw.out ?_)
  refine Cw.seq ?_
  refine Cw.region ?_
  refine Lw.val (Ex.ldA (ag_29 _) (sz_29 _) rfl rfl (by assumption)) rfl ?_
  refine Lw.val (Ex.fieldAddr (q := 0) Tryz.underlying45 rfl (sz_3 _) rfl) rfl ?_
  refine Lw.val (Ex.ldB (ag_3 _) rfl (by assumption) rfl) rfl ?_
  have z0 := below_size hB
  have yr := blk_lt b_r
  refine Lw.callF rfl rfl (wpo_c a x.n w h_a) ?_
  rintro r w3 ⟨hn3, hA⟩
  have hA := Gets.d hA
  obtain ⟨rx, ry, rfl, r1⟩ := hA.ones
  have z3 := hn3.size
  have hB3 := hB.trans (hn3.mono z0)
  have b_r3 := b_r.bs hn3
  refine Lw.val (Ex.extract (i := 0) rfl rfl) rfl ?_
  refine Lw.val (Ex.extract (i := 1) rfl rfl) rfl ?_
  refine Lw.unit (Xu.stA (cs := [rx, ry]) (k := 2) (by kernel_rfl) rfl rfl rfl r1 b_r3 rfl) ?_
  rintro w4 ⟨b_r4, hg4, hz4⟩
  have hA4 := hA.by hg4 yr
  have hB4 := hB3.grown hg4 (by omega) (by rintro _ ⟨⟩; omega)
  refine Lw.val (Ex.assign rfl) rfl ?_
  refine Lw.nil ?_
  refine Pw.thenN (Cw.out ?_)
  refine Cw.ret ?_
  refine Pw.retCT rfl rfl rfl (by assumption) (Tryz.underlying29) rfl rfl rfl ?_
  exact ⟨hB4, hA4.low z0⟩
theorem deed4_c (x : N5) (a : T4) (w : World) (hx : N5.at w x) (ha : a.at w) :
    Fnc Tryz.prog 82 [x.v, a.v] w (fun r w' => Below w.heap.size w w' ∧ AnsD w w' r (mvE a x.s) (x.s) (a.l)) := by
  obtain ⟨W, hW⟩ : ∃ W, W = w := ⟨_, rfl⟩
  rw [← hW] at hx ha
  rw [← hW]
  have hB := Below.refl W.heap.size W
  have h_s := hx.s
  have h_a := ha
  refine Fnc.enter (n := 12) Tryz.func82 (by kernel_rfl) rfl rfl rfl ?_
  refine Cw.seq ?_
  refine Cw.region ?_
  refine Lw.boxV (cs := x.cells) rfl rfl rfl ?_
  rintro A_x w eA_x b_x hn -
  replace hB := hB.bs hn
  replace h_s := h_s.bs hn
  replace h_a := h_a.bs hn
  clear hn
  have yx := blk_lt b_x
  refine Lw.boxV (cs := [a.x, a.y]) rfl rfl rfl ?_
  rintro A_a w eA_a b_a hn -
  replace hB := hB.bs hn
  replace h_s := h_s.bs hn
  replace h_a := h_a.bs hn
  replace b_x := b_x.bs hn
  clear hn
  have ya := blk_lt b_a
  refine Lw.newA it_29 rfl ?_
  rintro A_r w eA_r b_r hn -
  replace hB := hB.bs hn
  replace h_s := h_s.bs hn
  replace h_a := h_a.bs hn
  replace b_x := b_x.bs hn
  replace b_a := b_a.bs hn
  clear hn
  refine Lw.val (Ex.assign rfl) rfl ?_
  refine Lw.nil ?_
  refine Pw.thenN (Cw.out ?_)
  refine Cw.seq ?_
  refine Cw.region ?_
  refine Lw.val (Ex.ldA (ag_29 _) (sz_29 _) rfl rfl (by assumption)) rfl ?_
  refine Lw.val (Ex.fieldAddr (q := 0) Tryz.underlying45 rfl (sz_26 _) rfl) rfl ?_
  refine Lw.val (Ex.ldB (ag_26 _) rfl (by assumption) rfl) rfl ?_
  have z0 := below_size hB
  have yr := blk_lt b_r
  refine Lw.callF rfl rfl (mshape_c a x.y x.s w h_a h_s) ?_
  rintro r w3 ⟨hn3, hA⟩
  have hA := AnsK.d hA
  obtain ⟨rx, ry, rfl, r1⟩ := hA.ones
  have z3 := hn3.size
  have hB3 := hB.trans (hn3.mono z0)
  have b_r3 := b_r.bs hn3
  refine Lw.val (Ex.extract (i := 0) rfl rfl) rfl ?_
  refine Lw.val (Ex.extract (i := 1) rfl rfl) rfl ?_
  refine Lw.unit (Xu.stA (cs := [rx, ry]) (k := 2) (by kernel_rfl) rfl rfl rfl r1 b_r3 rfl) ?_
  rintro w4 ⟨b_r4, hg4, hz4⟩
  have hA4 := hA.by hg4 yr
  have hB4 := hB3.grown hg4 (by omega) (by rintro _ ⟨⟩; omega)
  refine Lw.val (Ex.assign rfl) rfl ?_
  refine Lw.nil ?_
  refine Pw.thenN (Cw.out ?_)
  refine Cw.ret ?_
  refine Pw.retCT rfl rfl rfl (by assumption) (Tryz.underlying29) rfl rfl rfl ?_
  exact ⟨hB4, hA4.low z0⟩
theorem deed5_c (x : N5) (a : T4) (w : World) (hx : N5.at w x) (ha : a.at w) :
    Fnc Tryz.prog 84 [x.v, a.v] w (fun r w' => Below w.heap.size w w' ∧ AnsD w w' r (tnE a x.s) (turn a.s x.s) (tuL a.s a.l x.s)) := by
  obtain ⟨W, hW⟩ : ∃ W, W = w := ⟨_, rfl⟩
  rw [← hW] at hx ha
  rw [← hW]
  have hB := Below.refl W.heap.size W
  have h_s := hx.s
  have h_a := ha
  refine Fnc.enter (n := 12) Tryz.func84 (by kernel_rfl) rfl rfl rfl ?_
  refine Cw.seq ?_
  refine Cw.region ?_
  refine Lw.boxV (cs := x.cells) rfl rfl rfl ?_
  rintro A_x w eA_x b_x hn -
  replace hB := hB.bs hn
  replace h_s := h_s.bs hn
  replace h_a := h_a.bs hn
  clear hn
  have yx := blk_lt b_x
  refine Lw.boxV (cs := [a.x, a.y]) rfl rfl rfl ?_
  rintro A_a w eA_a b_a hn -
  replace hB := hB.bs hn
  replace h_s := h_s.bs hn
  replace h_a := h_a.bs hn
  replace b_x := b_x.bs hn
  clear hn
  have ya := blk_lt b_a
  refine Lw.newA it_29 rfl ?_
  rintro A_r w eA_r b_r hn -
  replace hB := hB.bs hn
  replace h_s := h_s.bs hn
  replace h_a := h_a.bs hn
  replace b_x := b_x.bs hn
  replace b_a := b_a.bs hn
  clear hn
  refine Lw.val (Ex.assign rfl) rfl ?_
  refine Lw.nil ?_
  refine Pw.thenN (Cw.out ?_)
  refine Cw.seq ?_
  refine Cw.region ?_
  refine Lw.val (Ex.ldA (ag_29 _) (sz_29 _) rfl rfl (by assumption)) rfl ?_
  refine Lw.val (Ex.fieldAddr (q := 0) Tryz.underlying45 rfl (sz_26 _) rfl) rfl ?_
  refine Lw.val (Ex.ldB (ag_26 _) rfl (by assumption) rfl) rfl ?_
  have z0 := below_size hB
  have yr := blk_lt b_r
  refine Lw.callF rfl rfl (mturn_c a x.y x.s w h_a h_s) ?_
  rintro r w3 ⟨hn3, hA⟩
  have hA := AnsK.d hA
  obtain ⟨rx, ry, rfl, r1⟩ := hA.ones
  have z3 := hn3.size
  have hB3 := hB.trans (hn3.mono z0)
  have b_r3 := b_r.bs hn3
  refine Lw.val (Ex.extract (i := 0) rfl rfl) rfl ?_
  refine Lw.val (Ex.extract (i := 1) rfl rfl) rfl ?_
  refine Lw.unit (Xu.stA (cs := [rx, ry]) (k := 2) (by kernel_rfl) rfl rfl rfl r1 b_r3 rfl) ?_
  rintro w4 ⟨b_r4, hg4, hz4⟩
  have hA4 := hA.by hg4 yr
  have hB4 := hB3.grown hg4 (by omega) (by rintro _ ⟨⟩; omega)
  refine Lw.val (Ex.assign rfl) rfl ?_
  refine Lw.nil ?_
  refine Pw.thenN (Cw.out ?_)
  refine Cw.ret ?_
  refine Pw.retCT rfl rfl rfl (by assumption) (Tryz.underlying29) rfl rfl rfl ?_
  exact ⟨hB4, hA4.low z0⟩
theorem deed6_c (x : N5) (a : T4) (w : World) (hx : N5.at w x) (ha : a.at w) :
    Fnc Tryz.prog 86 [x.v, a.v] w (fun r w' => Below w.heap.size w w' ∧ AnsD w w' r (suE a x.n) (without a.s x.n.toNat) (suL a.s a.l x.n.toNat)) := by
  obtain ⟨W, hW⟩ : ∃ W, W = w := ⟨_, rfl⟩
  rw [← hW] at hx ha
  rw [← hW]
  have hB := Below.refl W.heap.size W
  have h_s := hx.s
  have h_a := ha
  refine Fnc.enter (n := 12) Tryz.func86 (by kernel_rfl) rfl rfl rfl ?_
  refine Cw.seq ?_
  refine Cw.region ?_
  refine Lw.boxV (cs := x.cells) rfl rfl rfl ?_
  rintro A_x w eA_x b_x hn -
  replace hB := hB.bs hn
  replace h_s := h_s.bs hn
  replace h_a := h_a.bs hn
  clear hn
  have yx := blk_lt b_x
  refine Lw.boxV (cs := [a.x, a.y]) rfl rfl rfl ?_
  rintro A_a w eA_a b_a hn -
  replace hB := hB.bs hn
  replace h_s := h_s.bs hn
  replace h_a := h_a.bs hn
  replace b_x := b_x.bs hn
  clear hn
  have ya := blk_lt b_a
  refine Lw.newA it_29 rfl ?_
  rintro A_r w eA_r b_r hn -
  replace hB := hB.bs hn
  replace h_s := h_s.bs hn
  replace h_a := h_a.bs hn
  replace b_x := b_x.bs hn
  replace b_a := b_a.bs hn
  clear hn
  refine Lw.val (Ex.assign rfl) rfl ?_
  refine Lw.nil ?_
  refine Pw.thenN (Cw.out ?_)
  refine Cw.seq ?_
  refine Cw.region ?_
  refine Lw.val (Ex.ldA (ag_29 _) (sz_29 _) rfl rfl (by assumption)) rfl ?_
  refine Lw.val (Ex.fieldAddr (q := 0) Tryz.underlying45 rfl (sz_3 _) rfl) rfl ?_
  refine Lw.val (Ex.ldB (ag_3 _) rfl (by assumption) rfl) rfl ?_
  have z0 := below_size hB
  have yr := blk_lt b_r
  refine Lw.callF rfl rfl (msum_c a x.n w h_a) ?_
  rintro r w3 ⟨hn3, hA⟩
  have hA := AnsK.d hA
  obtain ⟨rx, ry, rfl, r1⟩ := hA.ones
  have z3 := hn3.size
  have hB3 := hB.trans (hn3.mono z0)
  have b_r3 := b_r.bs hn3
  refine Lw.val (Ex.extract (i := 0) rfl rfl) rfl ?_
  refine Lw.val (Ex.extract (i := 1) rfl rfl) rfl ?_
  refine Lw.unit (Xu.stA (cs := [rx, ry]) (k := 2) (by kernel_rfl) rfl rfl rfl r1 b_r3 rfl) ?_
  rintro w4 ⟨b_r4, hg4, hz4⟩
  have hA4 := hA.by hg4 yr
  have hB4 := hB3.grown hg4 (by omega) (by rintro _ ⟨⟩; omega)
  refine Lw.val (Ex.assign rfl) rfl ?_
  refine Lw.nil ?_
  refine Pw.thenN (Cw.out ?_)
  refine Cw.ret ?_
  refine Pw.retCT rfl rfl rfl (by assumption) (Tryz.underlying29) rfl rfl rfl ?_
  exact ⟨hB4, hA4.low z0⟩
theorem deed7_c (x : N5) (v : Value) (a b : T4) (w : World) (h : Tens w v [a, b]) :
    Fnc Tryz.prog 88 [x.v, v] w (fun r w' => Below w.heap.size w w' ∧ AnsD w w' r (wofE a b x.n x.p) (wshS a.s b.s x.n x.p) (wofL a b x.n x.p)) := by
  obtain ⟨W, hW⟩ : ∃ W, W = w := ⟨_, rfl⟩
  rw [← hW] at h
  rw [← hW]
  have hB := Below.refl W.heap.size W
  have h_v := h.1
  refine Fnc.enter (n := 19) Tryz.func88 (by kernel_rfl) rfl rfl rfl ?_
  refine Cw.seq ?_
  refine Cw.region ?_
  refine Lw.boxV (cs := x.cells) rfl rfl rfl ?_
  rintro A_x w eA_x b_x hn -
  replace hB := hB.bs hn
  clear hn
  have yx := blk_lt b_x
  refine Lw.newA it_29 rfl ?_
  rintro A_r w eA_r b_r hn -
  replace hB := hB.bs hn
  replace b_x := b_x.bs hn
  clear hn
  refine Lw.val (Ex.assign rfl) rfl ?_
  refine Lw.nil ?_
  refine Pw.thenN (Cw.out ?_)
  refine Cw.seq ?_
  have z0 := below_size hB
  have yr := blk_lt b_r
  refine Cw.any mixed (fun w2 hd _ => ?_)
  have hB2 := hB.trans (hd.mono z0)
  have b_x2 := b_x.bs hd
  refine Aw.cls (fun w' => Below W.heap.size W w' ∧ Blk w' A_x 45 x.cells) (fun hC => ?_) (⟨hB2, b_x2⟩)
  refine AwC.take (i := 0) (NoP.thn NoP.ret) rfl (by kernel_rfl) (by kernel_rfl) (by kernel_rfl) (fun w1 hc => Ex.move rfl) rfl ?_
  refine AwC.take (i := 1) (NoP.thn NoP.ret) rfl (by kernel_rfl) (by kernel_rfl) (by kernel_rfl) (fun w1 hc => Ex.idx st_25 rfl rfl (h_v.bs hc.1) 0 rfl (show 0 < 2 by decide)) rfl ?_
  refine AwC.take (i := 2) (NoP.thn NoP.ret) rfl (by kernel_rfl) (by kernel_rfl) (by kernel_rfl) (fun w1 hc => Ex.ldE (cs := [a.x, a.y]) (ag_29 _) (sz_29 _) rfl (h_v.bs hc.1) rfl (by decide) (ten_cells (ts := [a, b]) (j := 0) Nat.zero_lt_two)) rfl ?_
  refine AwC.take (i := 3) (NoP.thn NoP.ret) rfl (by kernel_rfl) (by kernel_rfl) (by kernel_rfl) (fun w1 hc => Ex.move rfl) rfl ?_
  refine AwC.take (i := 4) (NoP.thn NoP.ret) rfl (by kernel_rfl) (by kernel_rfl) (by kernel_rfl) (fun w1 hc => Ex.idx st_25 rfl rfl (h_v.bs hc.1) 1 rfl (show 1 < 2 by decide)) rfl ?_
  refine AwC.take (i := 5) (NoP.thn NoP.ret) rfl (by kernel_rfl) (by kernel_rfl) (by kernel_rfl) (fun w1 hc => Ex.ldE (cs := [b.x, b.y]) (ag_29 _) (sz_29 _) rfl (h_v.bs hc.1) rfl (by decide) (ten_cells (ts := [a, b]) (j := 1) Nat.one_lt_two)) rfl ?_
  refine AwC.take (i := 6) (NoP.thn NoP.ret) rfl (by kernel_rfl) (by kernel_rfl) (by kernel_rfl) (fun w1 hc => Ex.fieldAddr (q := 0) Tryz.underlying45 rfl (sz_3 _) rfl) rfl ?_
  refine AwC.take (i := 7) (NoP.thn NoP.ret) rfl (by kernel_rfl) (by kernel_rfl) (by kernel_rfl) (fun w1 hc => Ex.ldB (ag_3 _) rfl hc.2 rfl) rfl ?_
  refine AwC.take (i := 8) (NoP.thn NoP.ret) rfl (by kernel_rfl) (by kernel_rfl) (by kernel_rfl) (fun w1 hc => Ex.fieldAddr (q := 0) Tryz.underlying45 rfl (sz_3 _) rfl) rfl ?_
  refine AwC.take (i := 9) (NoP.thn NoP.ret) rfl (by kernel_rfl) (by kernel_rfl) (by kernel_rfl) (fun w1 hc => Ex.ldB (ag_3 _) rfl hc.2 rfl) rfl ?_
  refine AwC.only (by assumption) (i := 10) (by kernel_rfl) rfl ?_
  refine Lw.callF rfl rfl (wof_c a b x.n x.p w2 ((h.2 a (by simp)).bs hB2) ((h.2 b (by simp)).bs hB2)) ?_
  rintro r w3 ⟨hn3, hA⟩
  have hA := Gets.d hA
  obtain ⟨rx, ry, rfl, r1⟩ := hA.ones
  have z2 := hd.size
  have z3 := hn3.size
  have hB3 := hB2.trans (hn3.mono (by omega))
  have b_r3 := (b_r.bs hd).bs hn3
  have b_x3 := b_x2.bs hn3
  have hC3 : Below W.heap.size W w3 ∧ Blk w3 A_x 45 x.cells := ⟨hB3, b_x3⟩
  refine AwC.back ?_
  refine AwC.take (i := 11) (NoP.thn NoP.ret) rfl (by kernel_rfl) (by kernel_rfl) (by kernel_rfl) (fun w1 hc => Ex.extract (i := 0) rfl rfl) rfl ?_
  refine AwC.take (i := 12) (NoP.thn NoP.ret) rfl (by kernel_rfl) (by kernel_rfl) (by kernel_rfl) (fun w1 hc => Ex.extract (i := 1) rfl rfl) rfl ?_
  refine AwC.only (by assumption) (i := 13) (by kernel_rfl) rfl ?_
  refine Lw.unit (Xu.stA (cs := [rx, ry]) (k := 2) (by kernel_rfl) rfl rfl rfl r1 b_r3 rfl) ?_
  rintro w4 ⟨b_r4, hg4, hz4⟩
  have hA4 := hA.by hg4 (by omega)
  have hB4 := hB3.grown hg4 (by omega) (by rintro _ ⟨⟩; omega)
  have hC4 : Below W.heap.size W w4 ∧ Blk w4 A_x 45 x.cells := ⟨hB4, b_x3.by hg4 (fun e => by have := Option.some.inj e; omega)⟩
  refine AwC.back ?_
  refine AwC.take (i := 14) (NoP.thn NoP.ret) rfl (by kernel_rfl) (by kernel_rfl) (by kernel_rfl) (fun w1 hc => Ex.assign rfl) rfl ?_
  refine AwC.done (by assumption) (by kernel_rfl) ?_
  refine Pw.thenN (Cw.out ?_)
  refine Cw.ret ?_
  refine Pw.retCT rfl rfl rfl (by assumption) (Tryz.underlying29) rfl rfl rfl ?_
  exact ⟨hB4, hA4.low (by omega)⟩
theorem deed8_c (x : N5) (v : Value) (ts : List T4) (w : World) (h : Tens w v ts) :
    Fnc Tryz.prog 90 [x.v, v] w (fun r w' => Below w.heap.size w w' ∧ AnsD w w' r (jnE ts x.n) (jnS ts x.n.toNat) (jnL ts x.n.toNat)) := by
  obtain ⟨W, hW⟩ : ∃ W, W = w := ⟨_, rfl⟩
  rw [← hW] at h
  rw [← hW]
  have hB := Below.refl W.heap.size W
  refine Fnc.enter (n := 12) Tryz.func90 (by kernel_rfl) rfl rfl rfl ?_
  refine Cw.seq ?_
  refine Cw.region ?_
  refine Lw.boxV (cs := x.cells) rfl rfl rfl ?_
  rintro A_x w eA_x b_x hn -
  replace hB := hB.bs hn
  clear hn
  have yx := blk_lt b_x
  refine Lw.newA it_29 rfl ?_
  rintro A_r w eA_r b_r hn -
  replace hB := hB.bs hn
  replace b_x := b_x.bs hn
  clear hn
  refine Lw.val (Ex.assign rfl) rfl ?_
  refine Lw.nil ?_
  refine Pw.thenN (Cw.out ?_)
  refine Cw.seq ?_
  refine Cw.region ?_
  refine Lw.val (Ex.move rfl) rfl ?_
  refine Lw.val (Ex.fieldAddr (q := 0) Tryz.underlying45 rfl (sz_3 _) rfl) rfl ?_
  refine Lw.val (Ex.ldB (ag_3 _) rfl (by assumption) rfl) rfl ?_
  have z0 := below_size hB
  have yr := blk_lt b_r
  refine Lw.callF rfl rfl (mjoin_c v ts x.n w (h.bs hB)) ?_
  rintro r w3 ⟨hn3, hA⟩
  have hA := AnsK.d hA
  obtain ⟨rx, ry, rfl, r1⟩ := hA.ones
  have z3 := hn3.size
  have hB3 := hB.trans (hn3.mono z0)
  have b_r3 := b_r.bs hn3
  refine Lw.val (Ex.extract (i := 0) rfl rfl) rfl ?_
  refine Lw.val (Ex.extract (i := 1) rfl rfl) rfl ?_
  refine Lw.unit (Xu.stA (cs := [rx, ry]) (k := 2) (by kernel_rfl) rfl rfl rfl r1 b_r3 rfl) ?_
  rintro w4 ⟨b_r4, hg4, hz4⟩
  have hA4 := hA.by hg4 yr
  have hB4 := hB3.grown hg4 (by omega) (by rintro _ ⟨⟩; omega)
  refine Lw.val (Ex.assign rfl) rfl ?_
  refine Lw.nil ?_
  refine Pw.thenN (Cw.out ?_)
  refine Cw.ret ?_
  refine Pw.retCT rfl rfl rfl (by assumption) (Tryz.underlying29) rfl rfl rfl ?_
  exact ⟨hB4, hA4.low z0⟩

/-! ### A deed -/
def dv (a b c d : Int) (f : Value) : List Value := [.int .i64 a, .int .i64 b, .int .i64 c, .int .i64 d, f]
abbrev fnOf (f : FuncId) (q : List Value) : Value := .func (.func f) #[] q.toArray
theorem bt_deed (a b c d : Int) (f : FuncId) (q : List Value) : Tryz.prog.built 88 [(0, .int .i64 a), (1, .int .i64 b), (2, .int .i64 c), (3, .int .i64 d), (4, fnOf f q)] = some (dv a b c d (fnOf f q)).toArray := by
  have h1 : Tryz.prog.info? 88 = some Tryz.t88 := by kernel_rfl
  have h2 : Tryz.prog.info? 3 = some Tryz.t3 := by kernel_rfl
  have h3 : Tryz.prog.info? 48 = some Tryz.t48 := by kernel_rfl
  simp [Program.built, h1, Tryz.underlying88, h2, h3, Instr.fill, Value.cells, fnOf, dv]
  rfl
theorem one_c (lo hi : Int) (f : FuncId) (w : World) : Fnc Tryz.prog 75 [.int .i64 lo, .int .i64 hi, fnOf f []] w (fun r w' => Below w.heap.size w w' ∧ ∃ A, w.heap.size ≤ A ∧ r = .agg (dv 1 1 lo hi (fnOf 104 [.pointer (some ⟨A, 0, none⟩)])).toArray ∧ Blk w' A 112 [fnOf f []]) := by
  have hB := Below.refl w.heap.size w
  obtain ⟨B0, hB0⟩ : ∃ B0, B0 = w.heap.size := ⟨_, rfl⟩
  refine Fnc.enter (n := 11) Tryz.func75 (by kernel_rfl) rfl rfl rfl ?_
  refine Cw.seq ?_
  refine Cw.region ?_
  refine Lw.boxV (cs := [fnOf f []]) rfl rfl rfl ?_
  rintro A_f w eA_f b_f hn -
  replace hB := hB.bs hn
  clear hn
  have yf := blk_lt b_f
  refine Lw.newA it_88 rfl ?_
  rintro A_r w eA_r b_r hn -
  replace hB := hB.bs hn
  replace b_f := b_f.bs hn
  clear hn
  refine Lw.nil ?_
  refine Pw.thenN (Cw.out ?_)
  refine Cw.seq ?_
  refine Cw.region ?_
  refine Lw.val (Ex.move rfl) rfl ?_
  refine Lw.val (Ex.move rfl) rfl ?_
  refine Lw.val (Ex.mkFn (vs := []) rfl rfl) rfl ?_
  have z0 := below_size hB
  refine Lw.val (Ex.build (cs := dv 1 1 lo hi (fnOf 104 [.pointer (some ⟨A_f, 0, none⟩)])) rfl (bt_deed 1 1 lo hi 104 [.pointer (some ⟨A_f, 0, none⟩)])) rfl ?_
  refine Lw.unit (Xu.stA (cs := dv 1 1 lo hi (fnOf 104 [.pointer (some ⟨A_f, 0, none⟩)])) (k := 5) (by kernel_rfl) rfl rfl rfl rfl b_r rfl) ?_
  rintro w2 ⟨b_r, hg, hz⟩
  have b_f := b_f.by hg (by rintro ⟨⟩; omega)
  have hB2 := hB.grown hg z0 (by rintro _ ⟨⟩; omega)
  refine Lw.nil ?_
  refine Pw.thenN (Cw.out ?_)
  refine Cw.ret ?_
  refine Pw.retC rfl rfl (by assumption) (Tryz.underlying88) rfl rfl rfl ?_
  exact ⟨hB2, A_f, by omega, rfl, b_f⟩
theorem two_c (f : FuncId) (w : World) : Fnc Tryz.prog 72 [fnOf f []] w (fun r w' => Below w.heap.size w w' ∧ ∃ A, w.heap.size ≤ A ∧ r = .agg (dv 2 2 0 0 (fnOf 101 [.pointer (some ⟨A, 0, none⟩)])).toArray ∧ Blk w' A 49 [fnOf f []]) := by
  have hB := Below.refl w.heap.size w
  obtain ⟨B0, hB0⟩ : ∃ B0, B0 = w.heap.size := ⟨_, rfl⟩
  refine Fnc.enter (n := 5) Tryz.func72 (by kernel_rfl) rfl rfl rfl ?_
  refine Cw.seq ?_
  refine Cw.region ?_
  refine Lw.boxV (cs := [fnOf f []]) rfl rfl rfl ?_
  rintro A_f w eA_f b_f hn -
  replace hB := hB.bs hn
  clear hn
  have yf := blk_lt b_f
  refine Lw.newA it_88 rfl ?_
  rintro A_r w eA_r b_r hn -
  replace hB := hB.bs hn
  replace b_f := b_f.bs hn
  clear hn
  refine Lw.nil ?_
  refine Pw.thenN (Cw.out ?_)
  refine Cw.seq ?_
  refine Cw.region ?_
  refine Lw.val (Ex.mkFn (vs := []) rfl rfl) rfl ?_
  have z0 := below_size hB
  refine Lw.val (Ex.build (cs := dv 2 2 0 0 (fnOf 101 [.pointer (some ⟨A_f, 0, none⟩)])) rfl (bt_deed 2 2 0 0 101 [.pointer (some ⟨A_f, 0, none⟩)])) rfl ?_
  refine Lw.unit (Xu.stA (cs := dv 2 2 0 0 (fnOf 101 [.pointer (some ⟨A_f, 0, none⟩)])) (k := 5) (by kernel_rfl) rfl rfl rfl rfl b_r rfl) ?_
  rintro w2 ⟨b_r, hg, hz⟩
  have b_f := b_f.by hg (by rintro ⟨⟩; omega)
  have hB2 := hB.grown hg z0 (by rintro _ ⟨⟩; omega)
  refine Lw.nil ?_
  refine Pw.thenN (Cw.out ?_)
  refine Cw.ret ?_
  refine Pw.retC rfl rfl (by assumption) (Tryz.underlying88) rfl rfl rfl ?_
  exact ⟨hB2, A_f, by omega, rfl, b_f⟩
end Go.Proofs.YtmipoeanpnnjoaaGreat

/-! Contract: the deeds of the kinds. -/
namespace Go.Proofs.YtmipoeanpnnjoaaGreat
open Go Go.Dd Go.RowKit
set_option maxRecDepth 100000

theorem fill_cons {place : Nat → Option (Nat × Nat)} {cells : Array Value} {i off : Nat} {v : Value} {ds : List Value} {rest : List (Nat × Value)} (hv : v.cells = ds.toArray) (hp : place i = some (off, ds.length)) (h : off + ds.length ≤ cells.size) : Instr.fill place cells ((i, v) :: rest) = Instr.fill place (spl cells.toList off ds).toArray rest := by
  have hf := fold_spl ds 0 off cells (by omega)
  have e : v.cells.zipIdx.foldl (fun cs (c, j) => cs.setIfInBounds (off + j) c) cells = (spl cells.toList off ds).toArray := by
    rw [hv]
    simpa using hf
  simp only [Instr.fill, hp, e]
  rw [if_neg]
  rw [hv]
  simp
  omega
theorem fill_row {rows : List (List Value)} {i : Nat} {ds : List Value} {rest : List (Nat × Value)} (hr : ∀ r ∈ rows, r.length = 5) (hi : i < rows.length) (hd : ds.length = 5) :
    Instr.fill (fun i => some (i * 5, 5)) rows.flatten.toArray ((i, .agg ds.toArray) :: rest) = Instr.fill (fun i => some (i * 5, 5)) (rows.set i ds).flatten.toArray rest := by
  have e1 : rows.flatten = flw id rows := by simp [flw]
  have e2 : (rows.set i ds).flatten = flw id (rows.set i ds) := by simp [flw]
  have hl : (flw id rows).length = rows.length * 5 := flw_len (k := 5) hr
  have hlt := flw_lt (k := 5) (i := 4) hi (by decide)
  rw [e1, e2, fill_cons (off := i * 5) (ds := ds) rfl (by rw [hd]) (by simp only [List.size_toArray]; omega)]
  have := flw_spl (f := id) (k := 5) (i := 0) (ds := ds) (b := ds) hr hi (by omega) (by
    show spl rows[i] 0 ds = ds
    have := hr _ (List.getElem_mem hi)
    unfold spl
    rw [List.take_zero, List.nil_append, List.drop_of_length_le (by omega), List.append_nil])
  rw [Nat.add_zero] at this
  rw [← this]
/-- Where each deed's function stands. -/
structure Dad where
  (a3 a4 a5 a6 a7 a9 a10 a11 a13 : Nat)
abbrev two1 (A : Nat) : Value := fnOf 101 [.pointer (some ⟨A, 0, none⟩)]
abbrev one1 (A : Nat) : Value := fnOf 104 [.pointer (some ⟨A, 0, none⟩)]
abbrev z5 : List Value := dv 0 0 0 0 .nilFunc
def deedRows (d : Dad) : List (List Value) := [z5, z5, z5, dv 2 2 0 0 (two1 d.a3), dv 2 2 0 0 (two1 d.a4), dv 1 1 0 0 (one1 d.a5), dv 1 1 0 31 (one1 d.a6), dv 2 2 0 0 (two1 d.a7), dv 2 2 1 8 (fnOf 88 []), dv 1 1 1 64 (one1 d.a9), dv 1 1 0 0 (one1 d.a10), dv 1 1 0 0 (one1 d.a11), dv 1 4 0 3 (fnOf 90 []), dv 1 1 0 3 (one1 d.a13)]
abbrev deedT : TypeId := 88
abbrev deedsT : TypeId := 89
theorem set5 {rows : List (List Value)} {i : Nat} {ds : List Value} (h : ∀ r ∈ rows, r.length = 5) (hd : ds.length = 5) : ∀ r ∈ rows.set i ds, r.length = 5 := fun r hr => (List.mem_or_eq_of_mem_set hr).elim (h r) (fun e => e ▸ hd)
theorem z14 : ∀ r ∈ List.replicate 14 z5, r.length = 5 := fun r hr => by rw [(List.mem_replicate.1 hr).2]; rfl
theorem bt_deeds (d : Dad) : Tryz.prog.built deedsT [(3, .agg (dv 2 2 0 0 (two1 d.a3)).toArray), (4, .agg (dv 2 2 0 0 (two1 d.a4)).toArray), (7, .agg (dv 2 2 0 0 (two1 d.a7)).toArray), (5, .agg (dv 1 1 0 0 (one1 d.a5)).toArray), (6, .agg (dv 1 1 0 31 (one1 d.a6)).toArray), (9, .agg (dv 1 1 1 64 (one1 d.a9)).toArray), (10, .agg (dv 1 1 0 0 (one1 d.a10)).toArray), (11, .agg (dv 1 1 0 0 (one1 d.a11)).toArray), (13, .agg (dv 1 1 0 3 (one1 d.a13)).toArray), (8, .agg (dv 2 2 1 8 (fnOf 88 [])).toArray), (12, .agg (dv 1 4 0 3 (fnOf 90 [])).toArray)] = some (deedRows d).flatten.toArray := by
  have h1 : Tryz.prog.info? deedsT = some Tryz.t89 := by kernel_rfl
  have h2 : Tryz.prog.info? deedT = some Tryz.t88 := by kernel_rfl
  simp only [Program.built, h1, Tryz.underlying89, h2]
  have hz : ∃ z, (Tryz.t89).zero = some z ∧ z.cells = (List.replicate 14 z5).flatten.toArray := ⟨_, rfl, rfl⟩
  obtain ⟨z, hz1, hz2⟩ := hz
  rw [hz1]
  simp only
  rw [hz2, show (Tryz.t88).size = 5 from rfl]
  have r0 := z14
  rw [fill_row r0 (by simp) rfl]
  have r1 := set5 (i := 3) (ds := dv 2 2 0 0 (two1 d.a3)) r0 rfl
  rw [fill_row r1 (by simp) rfl]
  have r2 := set5 (i := 4) (ds := dv 2 2 0 0 (two1 d.a4)) r1 rfl
  rw [fill_row r2 (by simp) rfl]
  have r3 := set5 (i := 7) (ds := dv 2 2 0 0 (two1 d.a7)) r2 rfl
  rw [fill_row r3 (by simp) rfl]
  have r4 := set5 (i := 5) (ds := dv 1 1 0 0 (one1 d.a5)) r3 rfl
  rw [fill_row r4 (by simp) rfl]
  have r5 := set5 (i := 6) (ds := dv 1 1 0 31 (one1 d.a6)) r4 rfl
  rw [fill_row r5 (by simp) rfl]
  have r6 := set5 (i := 9) (ds := dv 1 1 1 64 (one1 d.a9)) r5 rfl
  rw [fill_row r6 (by simp) rfl]
  have r7 := set5 (i := 10) (ds := dv 1 1 0 0 (one1 d.a10)) r6 rfl
  rw [fill_row r7 (by simp) rfl]
  have r8 := set5 (i := 11) (ds := dv 1 1 0 0 (one1 d.a11)) r7 rfl
  rw [fill_row r8 (by simp) rfl]
  have r9 := set5 (i := 13) (ds := dv 1 1 0 3 (one1 d.a13)) r8 rfl
  rw [fill_row r9 (by simp) rfl]
  have r10 := set5 (i := 8) (ds := dv 2 2 1 8 (fnOf 88 [])) r9 rfl
  rw [fill_row r10 (by simp) rfl]
  have r11 := set5 (i := 12) (ds := dv 1 4 0 3 (fnOf 90 [])) r10 rfl
  rfl
theorem it_deeds : ITy Tryz.prog deedsT (List.replicate 14 z5).flatten 560 := ⟨⟨_, (show Tryz.prog.info? deedsT = some Tryz.t89 by kernel_rfl), rfl, rfl, _, rfl, rfl⟩⟩
/-- Where the functions stand that the deeds' functions call. -/
def DadAt (w' : World) (d : Dad) : Prop := Blk w' d.a3 49 [fnOf 73 []] ∧ Blk w' d.a4 49 [fnOf 17 []] ∧ Blk w' d.a7 49 [fnOf 74 []] ∧ Blk w' d.a5 112 [fnOf 76 []] ∧ Blk w' d.a6 112 [fnOf 78 []] ∧ Blk w' d.a9 112 [fnOf 80 []] ∧ Blk w' d.a10 112 [fnOf 82 []] ∧ Blk w' d.a11 112 [fnOf 84 []] ∧ Blk w' d.a13 112 [fnOf 86 []]
theorem deeds_c (w : World) : Fnc Tryz.prog 46 [] w (fun r w' => Below w.heap.size w w' ∧ ∃ d, r = .agg (deedRows d).flatten.toArray ∧ DadAt w' d) := by
  have hB := Below.refl w.heap.size w
  obtain ⟨B0, hB0⟩ : ∃ B0, B0 = w.heap.size := ⟨_, rfl⟩
  refine Fnc.enter (n := 13) Tryz.func46 (by kernel_rfl) rfl rfl rfl ?_
  refine Cw.seq ?_
  refine Cw.region ?_
  refine Lw.valW (Xw.new it_deeds) rfl ?_
  rintro _ w ⟨rfl, b_r, hn, hz⟩
  replace hB := hB.bs hn
  obtain ⟨A_r, eA⟩ : ∃ A_r, A_r = B0 := ⟨_, rfl⟩
  rw [← hB0, ← eA] at b_r
  rw [← hB0, ← eA]
  have yr := blk_lt b_r
  clear hn hz
  refine Lw.nil ?_
  refine Pw.thenN (Cw.out ?_)
  refine Cw.seq ?_
  refine Cw.region ?_
  have y3 := blk_lt b_r
  refine Lw.callF rfl rfl (two_c 73 w) ?_
  rintro _ w ⟨hn, a3, g3, rfl, b3⟩
  replace hB := hB.bs hn
  replace b_r := b_r.bs hn
  clear hn
  have y4 := blk_lt b_r
  refine Lw.callF rfl rfl (two_c 17 w) ?_
  rintro _ w ⟨hn, a4, g4, rfl, b4⟩
  replace hB := hB.bs hn
  replace b_r := b_r.bs hn
  replace b3 := b3.bs hn
  clear hn
  have y7 := blk_lt b_r
  refine Lw.callF rfl rfl (two_c 74 w) ?_
  rintro _ w ⟨hn, a7, g7, rfl, b7⟩
  replace hB := hB.bs hn
  replace b_r := b_r.bs hn
  replace b3 := b3.bs hn
  replace b4 := b4.bs hn
  clear hn
  have y5 := blk_lt b_r
  refine Lw.callF rfl rfl (one_c 0 0 76 w) ?_
  rintro _ w ⟨hn, a5, g5, rfl, b5⟩
  replace hB := hB.bs hn
  replace b_r := b_r.bs hn
  replace b3 := b3.bs hn
  replace b4 := b4.bs hn
  replace b7 := b7.bs hn
  clear hn
  have y6 := blk_lt b_r
  refine Lw.callF rfl rfl (one_c 0 31 78 w) ?_
  rintro _ w ⟨hn, a6, g6, rfl, b6⟩
  replace hB := hB.bs hn
  replace b_r := b_r.bs hn
  replace b3 := b3.bs hn
  replace b4 := b4.bs hn
  replace b7 := b7.bs hn
  replace b5 := b5.bs hn
  clear hn
  have y9 := blk_lt b_r
  refine Lw.callF rfl rfl (one_c 1 64 80 w) ?_
  rintro _ w ⟨hn, a9, g9, rfl, b9⟩
  replace hB := hB.bs hn
  replace b_r := b_r.bs hn
  replace b3 := b3.bs hn
  replace b4 := b4.bs hn
  replace b7 := b7.bs hn
  replace b5 := b5.bs hn
  replace b6 := b6.bs hn
  clear hn
  have y10 := blk_lt b_r
  refine Lw.callF rfl rfl (one_c 0 0 82 w) ?_
  rintro _ w ⟨hn, a10, g10, rfl, b10⟩
  replace hB := hB.bs hn
  replace b_r := b_r.bs hn
  replace b3 := b3.bs hn
  replace b4 := b4.bs hn
  replace b7 := b7.bs hn
  replace b5 := b5.bs hn
  replace b6 := b6.bs hn
  replace b9 := b9.bs hn
  clear hn
  have y11 := blk_lt b_r
  refine Lw.callF rfl rfl (one_c 0 0 84 w) ?_
  rintro _ w ⟨hn, a11, g11, rfl, b11⟩
  replace hB := hB.bs hn
  replace b_r := b_r.bs hn
  replace b3 := b3.bs hn
  replace b4 := b4.bs hn
  replace b7 := b7.bs hn
  replace b5 := b5.bs hn
  replace b6 := b6.bs hn
  replace b9 := b9.bs hn
  replace b10 := b10.bs hn
  clear hn
  have y13 := blk_lt b_r
  refine Lw.callF rfl rfl (one_c 0 3 86 w) ?_
  rintro _ w ⟨hn, a13, g13, rfl, b13⟩
  replace hB := hB.bs hn
  replace b_r := b_r.bs hn
  replace b3 := b3.bs hn
  replace b4 := b4.bs hn
  replace b7 := b7.bs hn
  replace b5 := b5.bs hn
  replace b6 := b6.bs hn
  replace b9 := b9.bs hn
  replace b10 := b10.bs hn
  replace b11 := b11.bs hn
  clear hn
  refine Lw.val (Ex.build (cs := dv 2 2 1 8 (fnOf 88 [])) rfl (bt_deed 2 2 1 8 88 [])) rfl ?_
  refine Lw.val (Ex.build (cs := dv 1 4 0 3 (fnOf 90 [])) rfl (bt_deed 1 4 0 3 90 [])) rfl ?_
  refine Lw.val (Ex.build (cs := (deedRows ⟨a3, a4, a5, a6, a7, a9, a10, a11, a13⟩).flatten) rfl (bt_deeds ⟨a3, a4, a5, a6, a7, a9, a10, a11, a13⟩)) rfl ?_
  have yr2 := blk_lt b_r
  have z0 := below_size hB
  have hones : (deedRows ⟨a3, a4, a5, a6, a7, a9, a10, a11, a13⟩).flatten.all (·.oneCell') = true := rfl
  refine Lw.unit (Xu.stA (cs := (deedRows ⟨a3, a4, a5, a6, a7, a9, a10, a11, a13⟩).flatten) (k := 70) (by kernel_rfl) rfl rfl rfl hones b_r rfl) ?_
  rintro w2 ⟨b_r2, hg, hz⟩
  have b3 := b3.by hg (fun e => by have := Option.some.inj e; omega)
  have b4 := b4.by hg (fun e => by have := Option.some.inj e; omega)
  have b7 := b7.by hg (fun e => by have := Option.some.inj e; omega)
  have b5 := b5.by hg (fun e => by have := Option.some.inj e; omega)
  have b6 := b6.by hg (fun e => by have := Option.some.inj e; omega)
  have b9 := b9.by hg (fun e => by have := Option.some.inj e; omega)
  have b10 := b10.by hg (fun e => by have := Option.some.inj e; omega)
  have b11 := b11.by hg (fun e => by have := Option.some.inj e; omega)
  have b13 := b13.by hg (fun e => by have := Option.some.inj e; omega)
  have hB2 := hB.grown hg z0 (by rintro _ ⟨⟩; omega)
  refine Lw.nil ?_
  refine Pw.thenN (Cw.out ?_)
  refine Cw.ret ?_
  refine Pw.retC rfl rfl (by assumption) (Tryz.underlying89) rfl rfl rfl ?_
  exact ⟨by rw [eA, hB0]; exact hB2, ⟨a3, a4, a5, a6, a7, a9, a10, a11, a13⟩, rfl, b3, b4, b7, b5, b6, b9, b10, b11, b13⟩
def dRow : Nat → Option (Int × Int × Int × Int)
  | 3 => some (2, 2, 0, 0)
  | 4 => some (2, 2, 0, 0)
  | 5 => some (1, 1, 0, 0)
  | 6 => some (1, 1, 0, 31)
  | 7 => some (2, 2, 0, 0)
  | 8 => some (2, 2, 1, 8)
  | 9 => some (1, 1, 1, 64)
  | 10 => some (1, 1, 0, 0)
  | 11 => some (1, 1, 0, 0)
  | 12 => some (1, 4, 0, 3)
  | 13 => some (1, 1, 0, 3)
  | _ => none
def DeedOk (w : World) (d : Dad) (k : Nat) (a b c e : Int) : Prop :=
  ∃ f q, (deedRows d)[k]? = some (dv a b c e (fnOf f q)) ∧ ∀ (x : N5) (v : Value) (ts : List T4) (w1 : World), x.k = BitVec.ofNat 8 k → Below w.heap.size w w1 → N5.at w1 x → Tens w1 v ts → a ≤ (ts.length : Int) → (ts.length : Int) ≤ b →
    Fnc Tryz.prog f ([] ++ [x.v, v] ++ q) w1 (fun r w' => Below w1.heap.size w1 w' ∧ AnsD w1 w' r (actE x.k x ts) (actS x.k x ts) (actL x.k x ts))
theorem uno_of {α : Type} {l : List α} (h : l.length = 1) : ∃ a, l = [a] := by
  match l, h with
  | [a], _ => exact ⟨a, rfl⟩
theorem duo_of {α : Type} {l : List α} (h : l.length = 2) : ∃ a b, l = [a, b] := by
  match l, h with
  | [a, b], _ => exact ⟨a, b, rfl⟩
theorem dk3 (w : World) (d : Dad) (h : DadAt w d) : DeedOk w d 3 2 2 0 0 := by
  obtain ⟨b3, b4, b7, -⟩ := h
  refine ⟨_, _, rfl, fun x v ts w1 hk g hx ht h1 h2 => ?_⟩
  obtain ⟨a, b, rfl⟩ := duo_of (show ts.length = 2 by omega)
  rw [hk]
  exact two1_c x v a b d.a3 _ _ _ _ w1 (b3.bs g) hx ht (fun w2 g2 => (add_p a b w2 ((ht.2 a (by simp)).bs g2) ((ht.2 b (by simp)).bs g2)).mono fun _ _ ⟨q1, q2⟩ => ⟨q1, q2.d⟩)
theorem dk4 (w : World) (d : Dad) (h : DadAt w d) : DeedOk w d 4 2 2 0 0 := by
  obtain ⟨b3, b4, b7, -⟩ := h
  refine ⟨_, _, rfl, fun x v ts w1 hk g hx ht h1 h2 => ?_⟩
  obtain ⟨a, b, rfl⟩ := duo_of (show ts.length = 2 by omega)
  rw [hk]
  exact two1_c x v a b d.a4 _ _ _ _ w1 (b4.bs g) hx ht (fun w2 g2 => (mul_p a b w2 ((ht.2 a (by simp)).bs g2) ((ht.2 b (by simp)).bs g2)).mono fun _ _ ⟨q1, q2⟩ => ⟨q1, q2.d⟩)
theorem dk7 (w : World) (d : Dad) (h : DadAt w d) : DeedOk w d 7 2 2 0 0 := by
  obtain ⟨b3, b4, b7, -⟩ := h
  refine ⟨_, _, rfl, fun x v ts w1 hk g hx ht h1 h2 => ?_⟩
  obtain ⟨a, b, rfl⟩ := duo_of (show ts.length = 2 by omega)
  rw [hk]
  exact two1_c x v a b d.a7 _ _ _ _ w1 (b7.bs g) hx ht (fun w2 g2 => (prod_c a b w2 ((ht.2 a (by simp)).bs g2) ((ht.2 b (by simp)).bs g2)).mono fun _ _ ⟨q1, q2⟩ => ⟨q1, q2.d⟩)
theorem dk5 (w : World) (d : Dad) (h : DadAt w d) : DeedOk w d 5 1 1 0 0 := by
  obtain ⟨-, -, -, b5, b6, b9, b10, b11, b13⟩ := h
  refine ⟨_, _, rfl, fun x v ts w1 hk g hx ht h1 h2 => ?_⟩
  obtain ⟨a, rfl⟩ := uno_of (show ts.length = 1 by omega)
  rw [hk]
  exact one1_c x v a d.a5 _ _ _ _ w1 (b5.bs g) hx ht (fun w2 g2 => deed1_c x a w2 (hx.bs g2) ((ht.2 a (by simp)).bs g2))
theorem dk6 (w : World) (d : Dad) (h : DadAt w d) : DeedOk w d 6 1 1 0 31 := by
  obtain ⟨-, -, -, b5, b6, b9, b10, b11, b13⟩ := h
  refine ⟨_, _, rfl, fun x v ts w1 hk g hx ht h1 h2 => ?_⟩
  obtain ⟨a, rfl⟩ := uno_of (show ts.length = 1 by omega)
  rw [hk]
  exact one1_c x v a d.a6 _ _ _ _ w1 (b6.bs g) hx ht (fun w2 g2 => deed2_c x a w2 (hx.bs g2) ((ht.2 a (by simp)).bs g2))
theorem dk9 (w : World) (d : Dad) (h : DadAt w d) : DeedOk w d 9 1 1 1 64 := by
  obtain ⟨-, -, -, b5, b6, b9, b10, b11, b13⟩ := h
  refine ⟨_, _, rfl, fun x v ts w1 hk g hx ht h1 h2 => ?_⟩
  obtain ⟨a, rfl⟩ := uno_of (show ts.length = 1 by omega)
  rw [hk]
  exact one1_c x v a d.a9 _ _ _ _ w1 (b9.bs g) hx ht (fun w2 g2 => deed3_c x a w2 (hx.bs g2) ((ht.2 a (by simp)).bs g2))
theorem dk10 (w : World) (d : Dad) (h : DadAt w d) : DeedOk w d 10 1 1 0 0 := by
  obtain ⟨-, -, -, b5, b6, b9, b10, b11, b13⟩ := h
  refine ⟨_, _, rfl, fun x v ts w1 hk g hx ht h1 h2 => ?_⟩
  obtain ⟨a, rfl⟩ := uno_of (show ts.length = 1 by omega)
  rw [hk]
  exact one1_c x v a d.a10 _ _ _ _ w1 (b10.bs g) hx ht (fun w2 g2 => deed4_c x a w2 (hx.bs g2) ((ht.2 a (by simp)).bs g2))
theorem dk11 (w : World) (d : Dad) (h : DadAt w d) : DeedOk w d 11 1 1 0 0 := by
  obtain ⟨-, -, -, b5, b6, b9, b10, b11, b13⟩ := h
  refine ⟨_, _, rfl, fun x v ts w1 hk g hx ht h1 h2 => ?_⟩
  obtain ⟨a, rfl⟩ := uno_of (show ts.length = 1 by omega)
  rw [hk]
  exact one1_c x v a d.a11 _ _ _ _ w1 (b11.bs g) hx ht (fun w2 g2 => deed5_c x a w2 (hx.bs g2) ((ht.2 a (by simp)).bs g2))
theorem dk13 (w : World) (d : Dad) (h : DadAt w d) : DeedOk w d 13 1 1 0 3 := by
  obtain ⟨-, -, -, b5, b6, b9, b10, b11, b13⟩ := h
  refine ⟨_, _, rfl, fun x v ts w1 hk g hx ht h1 h2 => ?_⟩
  obtain ⟨a, rfl⟩ := uno_of (show ts.length = 1 by omega)
  rw [hk]
  exact one1_c x v a d.a13 _ _ _ _ w1 (b13.bs g) hx ht (fun w2 g2 => deed6_c x a w2 (hx.bs g2) ((ht.2 a (by simp)).bs g2))
theorem dk8 (w : World) (d : Dad) : DeedOk w d 8 2 2 1 8 := by
  refine ⟨_, _, rfl, fun x v ts w1 hk _ _ ht h1 h2 => ?_⟩
  obtain ⟨a, b, rfl⟩ := duo_of (show ts.length = 2 by omega)
  rw [hk]
  exact deed7_c x v a b w1 ht
theorem dk12 (w : World) (d : Dad) : DeedOk w d 12 1 4 0 3 := by
  refine ⟨_, _, rfl, fun x v ts w1 hk _ _ ht _ _ => ?_⟩
  rw [hk]
  exact deed8_c x v ts w1 ht
theorem deed_at (w : World) (d : Dad) (h : DadAt w d) (k : Nat) (hk : k < 14) : (dRow k = none ∧ (deedRows d)[k]? = some z5) ∨ ∃ a b c e, dRow k = some (a, b, c, e) ∧ DeedOk w d k a b c e := by
  rcases (show k = 0 ∨ k = 1 ∨ k = 2 ∨ k = 3 ∨ k = 4 ∨ k = 5 ∨ k = 6 ∨ k = 7 ∨ k = 8 ∨ k = 9 ∨ k = 10 ∨ k = 11 ∨ k = 12 ∨ k = 13 by omega) with rfl | rfl | rfl | rfl | rfl | rfl | rfl | rfl | rfl | rfl | rfl | rfl | rfl | rfl
  · exact .inl ⟨rfl, rfl⟩
  · exact .inl ⟨rfl, rfl⟩
  · exact .inl ⟨rfl, rfl⟩
  · exact .inr ⟨_, _, _, _, rfl, dk3 w d h⟩
  · exact .inr ⟨_, _, _, _, rfl, dk4 w d h⟩
  · exact .inr ⟨_, _, _, _, rfl, dk5 w d h⟩
  · exact .inr ⟨_, _, _, _, rfl, dk6 w d h⟩
  · exact .inr ⟨_, _, _, _, rfl, dk7 w d h⟩
  · exact .inr ⟨_, _, _, _, rfl, dk8 w d⟩
  · exact .inr ⟨_, _, _, _, rfl, dk9 w d h⟩
  · exact .inr ⟨_, _, _, _, rfl, dk10 w d h⟩
  · exact .inr ⟨_, _, _, _, rfl, dk11 w d h⟩
  · exact .inr ⟨_, _, _, _, rfl, dk12 w d⟩
  · exact .inr ⟨_, _, _, _, rfl, dk13 w d h⟩
end Go.Proofs.YtmipoeanpnnjoaaGreat

/-! Contract: what a node comes to, of what it takes in. -/
namespace Go.Dd
open Go Go.RowKit
set_option maxRecDepth 100000
section
variable {P : Program} {n : Nat} {E : Env} {w : World} {ty t s : TypeId} {x y : Operand} {v : Value}
theorem Ex.nilFn {f : Fn} {p q : Array Value} (hu : ∃ a b c, P.underlying t = some (.func a b c)) (hx : ev E x = some (.func f p q)) (hy : ev E y = some .nilFunc) : Ex P n E (.binOp .eql t x y s) ty w (.bool false) := fun a ha _ _ _ _ => by
  obtain ⟨u1, u2, u3, hu⟩ := hu
  have hg : eqGuard .eql t x y (.func f p q) .nilFunc = pure () := rfl
  have hb : binOp .eql t (.func f p q) .nilFunc = (do pure (.bool (← Op.equal t (.func f p q) .nilFunc))) := rfl
  have hr : (Op.equalIn (9999 + 1) t (.func f p q) .nilFunc).run P w = .ok false w := by
    unfold Op.equalIn
    simp [run_underlying hu]
  simp [execOp, ha.ev hx, ha.ev hy, hg, hb, Op.equal, Op.maxDepth, hr]
theorem Ex.nilFy (hu : ∃ a b c, P.underlying t = some (.func a b c)) (hx : ev E x = some .nilFunc) (hy : ev E y = some .nilFunc) : Ex P n E (.binOp .eql t x y s) ty w (.bool true) := fun a ha _ _ _ _ => by
  obtain ⟨u1, u2, u3, hu⟩ := hu
  have hg : eqGuard .eql t x y .nilFunc .nilFunc = pure () := rfl
  have hb : binOp .eql t .nilFunc .nilFunc = (do pure (.bool (← Op.equal t .nilFunc .nilFunc))) := rfl
  have hr : (Op.equalIn (9999 + 1) t .nilFunc .nilFunc).run P w = .ok true w := by
    unfold Op.equalIn
    simp [run_underlying hu]
  simp [execOp, ha.ev hx, ha.ev hy, hg, hb, Op.equal, Op.maxDepth, hr]
end
end Go.Dd
namespace Go.Proofs.YtmipoeanpnnjoaaGreat
open Go Go.Dd Go.RowKit
set_option maxRecDepth 100000

theorem un_deed : ∃ a b c, Tryz.prog.underlying 48 = some (.func a b c) := ⟨_, _, _, Tryz.underlying48⟩
/-- Is a node done? -/
def doOk (x : N5) (ts : List T4) : Bool := match dRow x.k.toNat with
  | some (a, b, c, d) => decide (ts.length = x.i.length) && decide (a ≤ (ts.length : Int)) && decide ((ts.length : Int) ≤ b) && decide (c ≤ x.n) && decide (x.n ≤ d) && fldB x.k x.s x.p
  | none => false
def doE (x : N5) (ts : List T4) : Int := if doOk x ts then actE x.k x ts else 1
theorem dRow_big {k : Nat} (h : 14 ≤ k) : dRow k = none := by
  unfold dRow
  split <;> first | rfl | omega
theorem do_c (x : N5) (v : Value) (ts : List T4) (w : World) (hx : N5.at w x) (h : Tens w v ts) :
    Fnc Tryz.prog 16 [x.v, v] w (fun r w' => Below w.heap.size w w' ∧ AnsD w w' r (doE x ts) (actS x.k x ts) (actL x.k x ts)) := by
  obtain ⟨W, hW⟩ : ∃ W, W = w := ⟨_, rfl⟩
  rw [← hW] at hx h
  rw [← hW]
  have hB := Below.refl W.heap.size W
  have h_i := hx.i
  have h_s := hx.s
  have h_v := h.1
  have k8 := x.k.isLt
  refine Fnc.enter (n := 70) Tryz.func16 (by kernel_rfl) rfl rfl rfl ?_
  refine Cw.seq ?_
  refine Cw.region ?_
  refine Lw.boxV (cs := x.cells) rfl rfl rfl ?_
  rintro A_x w eA_x b_x hn -
  replace hB := hB.bs hn
  replace h_i := h_i.bs hn
  replace h_s := h_s.bs hn
  replace h_v := h_v.bs hn
  clear hn
  have yx := blk_lt b_x
  refine Lw.newA it_29 rfl ?_
  rintro A_r w eA_r b_r hn -
  replace hB := hB.bs hn
  replace h_i := h_i.bs hn
  replace h_s := h_s.bs hn
  replace h_v := h_v.bs hn
  replace b_x := b_x.bs hn
  clear hn
  refine Lw.val (Ex.assign rfl) rfl ?_
  refine Lw.nil ?_
  refine Pw.thenN (Cw.out ?_)
  refine Cw.seq ?_
  refine Cw.region ?_
  have z0 := below_size hB
  have yr := blk_lt b_r
  refine Lw.callF rfl rfl (deeds_c w) ?_
  rintro _ w1 ⟨hn1, d, rfl, hD⟩
  have b_x := b_x.bs hn1
  have b_r := b_r.bs hn1
  have z1 := hn1.size
  have hB := hB.trans (hn1.mono z0)
  refine Lw.valW (Xw.new it_deeds) rfl ?_
  rintro _ w2 ⟨rfl, b_all, hn2, hz2⟩
  have b_x := b_x.bs hn2
  have b_r := b_r.bs hn2
  have hones : (deedRows d).flatten.all (·.oneCell') = true := rfl
  obtain ⟨A_all, eAll⟩ : ∃ A_all, A_all = w1.heap.size := ⟨_, rfl⟩
  rw [← eAll] at b_all
  rw [← eAll]
  refine Lw.unit (Xu.stA (cs := (deedRows d).flatten) (k := 70) (by kernel_rfl) rfl rfl rfl hones b_all rfl) ?_
  rintro w3 ⟨b_all, hg3, hz3⟩
  have hn13 : Below w1.heap.size w1 w3 := hn2.grown hg3 hn2.size (by rintro _ ⟨⟩; omega)
  have b_x := b_x.by hg3 (by rintro ⟨⟩; omega)
  have b_r := b_r.by hg3 (by rintro ⟨⟩; omega)
  have hB := hB.trans (hn13.mono (by omega))
  have z3 := hn13.size
  refine Lw.nil ?_
  refine Pw.thenN (Cw.out ?_)
  refine Cw.seq ?_
  refine Cw.seq ?_
  refine Cw.region ?_
  refine Lw.val (Ex.fieldAddr (q := 0) Tryz.underlying45 rfl (sz_43 _) rfl) rfl ?_
  refine Lw.val (Ex.ldB (ag_43 _) rfl (by assumption) rfl) rfl ?_
  refine Lw.val (Ex.conv8_I us_43 un_3 rfl) rfl ?_
  refine Lw.val (Ex.geq rfl rfl) rfl ?_
  refine Lw.nil ?_
  refine Pw.thenN (Cw.out ?_)
  refine Cw.cond rfl ?_ ?_
  · intro g
    have g := of_decide_eq_true g
    have hF : doOk x ts = false := (show doOk x ts = false by unfold doOk; rw [dRow_big (by omega)])
    have e1 : doE x ts = 1 := by unfold doE; rw [hF]; rfl
    refine Cw.seq ?_
    refine Cw.region ?_
    refine Lw.val (Ex.build (vs := []) (cs := [.slice none 0 0, .slice none 0 0]) rfl (by kernel_rfl)) rfl ?_
    refine Lw.unit (Xu.stA (cs := [.slice none 0 0, .slice none 0 0]) (k := 2) (by kernel_rfl) rfl rfl rfl rfl b_r rfl) ?_
    rintro w9 ⟨b_r9, hg9, hz9⟩
    have hB9 := Below.grown hB hg9 (below_size hB) (by rintro _ ⟨⟩; omega)
    refine Lw.val (Ex.assign rfl) rfl ?_
    refine Lw.nil ?_
    refine Pw.thenN (Cw.out ?_)
    refine Cw.ret ?_
    refine Pw.thenR ?_
    refine Pw.retCT rfl rfl rfl (by assumption) (Tryz.underlying29) rfl rfl rfl ?_
    rw [e1]
    exact ⟨hB9, ansD_no (by decide)⟩
  intro g
  have k14 : x.k.toNat < 14 := by have := of_decide_eq_false g; omega
  have hl70 : ∀ r ∈ deedRows d, r.length = 5 := fun r hr => by
    simp only [deedRows, List.mem_cons, List.not_mem_nil, or_false] at hr
    rcases hr with rfl | rfl | rfl | rfl | rfl | rfl | rfl | rfl | rfl | rfl | rfl | rfl | rfl | rfl <;> rfl
  have hpart : ∀ row, (deedRows d)[x.k.toNat]? = some row → (((deedRows d).flatten.drop (0 + x.k.toNat * 5)).take 5 = row ∧ row.length = 5) := fun row hr => by
    obtain ⟨hlt, rfl⟩ := List.getElem?_eq_some_iff.1 hr
    have e1 : (deedRows d).flatten = flw id (deedRows d) := by simp [flw]
    rw [e1, Nat.zero_add]
    exact ⟨flw_part (f := id) (k := 5) hl70 hlt, hl70 _ (List.getElem_mem hlt)⟩
  rcases deed_at w1 d hD x.k.toNat k14 with ⟨hdr, hrow⟩ | ⟨a, b, c, e, hdr, f, q, hrow, hcall⟩
  · obtain ⟨hp, -⟩ := hpart _ hrow
    refine Cw.skip ?_
    refine Pw.thenN (Cw.out ?_)
    refine Cw.seq ?_
    refine Cw.region ?_
    refine Lw.val (Ex.fieldAddr (q := 0) Tryz.underlying45 rfl (sz_43 _) rfl) rfl ?_
    refine Lw.val (Ex.ldB (ag_43 _) rfl (by assumption) rfl) rfl ?_
    refine Lw.val (Ex.idxB un_89 sz_88 rfl rfl x.k.toNat rfl k14) rfl ?_
    refine Lw.val (Ex.ldAt (ds := z5) (k := 5) (ag_88 _) (sz_88 _) rfl rfl b_all hp) rfl ?_
    refine Lw.valW (Xw.new it_88) rfl ?_
    rintro _ w4 ⟨rfl, b_d, hn4, hz4⟩
    have b_r := b_r.bs hn4
    refine Lw.unit (Xu.stA (cs := z5) (k := 5) (by kernel_rfl) rfl rfl rfl rfl b_d rfl) ?_
    rintro w5 ⟨b_d, hg5, hz5⟩
    have hB := (hB.trans (hn4.mono (by omega))).grown hg5 (by omega) (by rintro _ ⟨⟩; omega)
    have b_r := b_r.by hg5 (by rintro ⟨⟩; omega)
    refine Lw.nil ?_
    refine Pw.thenN (Cw.out ?_)
    refine Cw.seq ?_
    refine Cw.seq ?_
    refine Cw.region ?_
    refine Lw.val (Ex.fieldAddr (q := 0) Tryz.underlying88 rfl (sz_48 _) rfl) rfl ?_
    refine Lw.val (Ex.ldB (ag_48 _) rfl (by assumption) rfl) rfl ?_
    refine Lw.val (Ex.nilFy un_deed rfl rfl) rfl ?_
    refine Lw.val (Ex.move rfl) rfl ?_
    refine Lw.know 21 (v' := .bool true) rfl (congrArg Value.bool (rfl)) ?_
    refine Lw.pass (dj := 21) rfl rfl rfl rfl ?_
    refine Lw.pass (dj := 21) rfl rfl rfl rfl ?_
    refine Lw.pass (dj := 21) rfl rfl rfl rfl ?_
    refine Lw.pass (dj := 21) rfl rfl rfl rfl ?_
    refine Lw.pass (dj := 21) rfl rfl rfl rfl ?_
    refine Lw.pass (dj := 21) rfl rfl rfl rfl ?_
    refine Lw.val (Ex.pickT rfl rfl) rfl ?_
    refine Lw.val (Ex.move rfl) rfl ?_
    refine Lw.pass (dj := 29) rfl rfl rfl rfl ?_
    refine Lw.pass (dj := 29) rfl rfl rfl rfl ?_
    refine Lw.pass (dj := 29) rfl rfl rfl rfl ?_
    refine Lw.pass (dj := 29) rfl rfl rfl rfl ?_
    refine Lw.pass (dj := 29) rfl rfl rfl rfl ?_
    refine Lw.val (Ex.pickT rfl rfl) rfl ?_
    refine Lw.val (Ex.move rfl) rfl ?_
    refine Lw.pass (dj := 36) rfl rfl rfl rfl ?_
    refine Lw.pass (dj := 36) rfl rfl rfl rfl ?_
    refine Lw.pass (dj := 36) rfl rfl rfl rfl ?_
    refine Lw.pass (dj := 36) rfl rfl rfl rfl ?_
    refine Lw.pass (dj := 36) rfl rfl rfl rfl ?_
    refine Lw.val (Ex.pickT rfl rfl) rfl ?_
    refine Lw.val (Ex.move rfl) rfl ?_
    refine Lw.pass (dj := 43) rfl rfl rfl rfl ?_
    refine Lw.pass (dj := 43) rfl rfl rfl rfl ?_
    refine Lw.pass (dj := 43) rfl rfl rfl rfl ?_
    refine Lw.pass (dj := 43) rfl rfl rfl rfl ?_
    refine Lw.pass (dj := 43) rfl rfl rfl rfl ?_
    refine Lw.val (Ex.pickT rfl rfl) rfl ?_
    refine Lw.val (Ex.move rfl) rfl ?_
    refine Lw.pass (dj := 50) rfl rfl rfl rfl ?_
    refine Lw.pass (dj := 50) rfl rfl rfl rfl ?_
    refine Lw.pass (dj := 50) rfl rfl rfl rfl ?_
    refine Lw.pass (dj := 50) rfl rfl rfl rfl ?_
    refine Lw.pass (dj := 50) rfl rfl rfl rfl ?_
    refine Lw.val (Ex.pickT rfl rfl) rfl ?_
    refine Lw.val (Ex.move rfl) rfl ?_
    refine Lw.pass (dj := 57) rfl rfl rfl rfl ?_
    refine Lw.pass (dj := 57) rfl rfl rfl rfl ?_
    refine Lw.pass (dj := 57) rfl rfl rfl rfl ?_
    refine Lw.val (Ex.pickT rfl rfl) rfl ?_
    refine Lw.nil ?_
    refine Pw.thenN (Cw.out ?_)
    refine Cw.condT rfl ?_
    refine Cw.seq ?_
    refine Cw.region ?_
    refine Lw.val (Ex.build (vs := []) (cs := [.slice none 0 0, .slice none 0 0]) rfl (by kernel_rfl)) rfl ?_
    have hF : doOk x ts = false := (show doOk x ts = false by unfold doOk; rw [hdr])
    have e1 : doE x ts = 1 := by unfold doE; rw [hF]; rfl
    refine Lw.unit (Xu.stA (cs := [.slice none 0 0, .slice none 0 0]) (k := 2) (by kernel_rfl) rfl rfl rfl rfl b_r rfl) ?_
    rintro w9 ⟨b_r9, hg9, hz9⟩
    have hB9 := Below.grown hB hg9 (below_size hB) (by rintro _ ⟨⟩; omega)
    refine Lw.val (Ex.assign rfl) rfl ?_
    refine Lw.nil ?_
    refine Pw.thenN (Cw.out ?_)
    refine Cw.ret ?_
    refine Pw.thenR ?_
    refine Pw.retCT rfl rfl rfl (by assumption) (Tryz.underlying29) rfl rfl rfl ?_
    rw [e1]
    exact ⟨hB9, ansD_no (by decide)⟩
  obtain ⟨hp, -⟩ := hpart _ hrow
  have hok : doOk x ts = (decide (ts.length = x.i.length) && decide (a ≤ (ts.length : Int)) && decide ((ts.length : Int) ≤ b) && decide (c ≤ x.n) && decide (x.n ≤ e) && fldB x.k x.s x.p) := by unfold doOk; rw [hdr]
  refine Cw.skip ?_
  refine Pw.thenN (Cw.out ?_)
  refine Cw.seq ?_
  refine Cw.region ?_
  refine Lw.val (Ex.fieldAddr (q := 0) Tryz.underlying45 rfl (sz_43 _) rfl) rfl ?_
  refine Lw.val (Ex.ldB (ag_43 _) rfl (by assumption) rfl) rfl ?_
  refine Lw.val (Ex.idxB un_89 sz_88 rfl rfl x.k.toNat rfl k14) rfl ?_
  refine Lw.val (Ex.ldAt (ds := dv a b c e (fnOf f q)) (k := 5) (ag_88 _) (sz_88 _) rfl rfl b_all hp) rfl ?_
  refine Lw.valW (Xw.new it_88) rfl ?_
  rintro _ w4 ⟨rfl, b_d, hn4, hz4⟩
  refine Lw.unit (Xu.stA (cs := dv a b c e (fnOf f q)) (k := 5) (by kernel_rfl) rfl rfl rfl rfl b_d rfl) ?_
  rintro w5 ⟨b_d, hg5, hz5⟩
  have hn35 : Below w3.heap.size w3 w5 := hn4.grown hg5 hn4.size (by rintro _ ⟨⟩; omega)
  have hB := hB.trans (hn35.mono (by omega))
  have b_r := b_r.bs hn35
  have b_x := b_x.bs hn35
  have z5 := hn35.size
  have h_v := h.1.bs hB
  have h_i := hx.i.bs hB
  have h_s := hx.s.bs hB
  refine Lw.nil ?_
  refine Pw.thenN (Cw.out ?_)
  refine Cw.seq ?_
  refine Cw.seq ?_
  refine Cw.region ?_
  refine Lw.val (Ex.fieldAddr (q := 0) Tryz.underlying88 rfl (sz_48 _) rfl) rfl ?_
  refine Lw.val (Ex.ldB (ag_48 _) rfl (by assumption) rfl) rfl ?_
  refine Lw.val (Ex.nilFn un_deed rfl rfl) rfl ?_
  refine Lw.val (Ex.move rfl) rfl ?_
  refine Lw.know 21 (v' := .bool false) rfl (congrArg Value.bool (rfl)) ?_
  refine Lw.take (dj := 21) rfl rfl ?_
  refine Lw.val (Ex.move rfl) rfl ?_
  refine Lw.take (dj := 21) rfl rfl ?_
  refine Lw.val (Ex.lenS st_25 rfl (by assumption)) rfl ?_
  refine Lw.take (dj := 21) rfl rfl ?_
  refine Lw.val (Ex.fieldAddr (q := 0) Tryz.underlying45 rfl (sz_26 _) rfl) rfl ?_
  refine Lw.take (dj := 21) rfl rfl ?_
  refine Lw.val (Ex.ldB (ag_26 _) rfl (by assumption) rfl) rfl ?_
  refine Lw.take (dj := 21) rfl rfl ?_
  refine Lw.val (Ex.lenS st_26 rfl (by assumption)) rfl ?_
  refine Lw.take (dj := 21) rfl rfl ?_
  refine Lw.val (Ex.neq rfl rfl) rfl ?_
  refine Lw.val (Ex.pickF rfl rfl) rfl ?_
  refine Lw.val (Ex.move rfl) rfl ?_
  refine Lw.part 29 rfl ?_ ?_
  · intro g1
    have g1 : ¬ ts.length = x.i.length := fun e => by rw [e] at g1; simp at g1
    refine Lw.pass (dj := 29) rfl rfl rfl rfl ?_
    refine Lw.pass (dj := 29) rfl rfl rfl rfl ?_
    refine Lw.pass (dj := 29) rfl rfl rfl rfl ?_
    refine Lw.pass (dj := 29) rfl rfl rfl rfl ?_
    refine Lw.pass (dj := 29) rfl rfl rfl rfl ?_
    refine Lw.val (Ex.pickT rfl rfl) rfl ?_
    refine Lw.val (Ex.move rfl) rfl ?_
    refine Lw.pass (dj := 36) rfl rfl rfl rfl ?_
    refine Lw.pass (dj := 36) rfl rfl rfl rfl ?_
    refine Lw.pass (dj := 36) rfl rfl rfl rfl ?_
    refine Lw.pass (dj := 36) rfl rfl rfl rfl ?_
    refine Lw.pass (dj := 36) rfl rfl rfl rfl ?_
    refine Lw.val (Ex.pickT rfl rfl) rfl ?_
    refine Lw.val (Ex.move rfl) rfl ?_
    refine Lw.pass (dj := 43) rfl rfl rfl rfl ?_
    refine Lw.pass (dj := 43) rfl rfl rfl rfl ?_
    refine Lw.pass (dj := 43) rfl rfl rfl rfl ?_
    refine Lw.pass (dj := 43) rfl rfl rfl rfl ?_
    refine Lw.pass (dj := 43) rfl rfl rfl rfl ?_
    refine Lw.val (Ex.pickT rfl rfl) rfl ?_
    refine Lw.val (Ex.move rfl) rfl ?_
    refine Lw.pass (dj := 50) rfl rfl rfl rfl ?_
    refine Lw.pass (dj := 50) rfl rfl rfl rfl ?_
    refine Lw.pass (dj := 50) rfl rfl rfl rfl ?_
    refine Lw.pass (dj := 50) rfl rfl rfl rfl ?_
    refine Lw.pass (dj := 50) rfl rfl rfl rfl ?_
    refine Lw.val (Ex.pickT rfl rfl) rfl ?_
    refine Lw.val (Ex.move rfl) rfl ?_
    refine Lw.pass (dj := 57) rfl rfl rfl rfl ?_
    refine Lw.pass (dj := 57) rfl rfl rfl rfl ?_
    refine Lw.pass (dj := 57) rfl rfl rfl rfl ?_
    refine Lw.val (Ex.pickT rfl rfl) rfl ?_
    refine Lw.nil ?_
    refine Pw.thenN (Cw.out ?_)
    refine Cw.condT rfl ?_
    refine Cw.seq ?_
    refine Cw.region ?_
    refine Lw.val (Ex.build (vs := []) (cs := [.slice none 0 0, .slice none 0 0]) rfl (by kernel_rfl)) rfl ?_
    have hF : doOk x ts = false := by rw [hok, decide_eq_false g1]; rfl
    have e1 : doE x ts = 1 := by unfold doE; rw [hF]; rfl
    refine Lw.unit (Xu.stA (cs := [.slice none 0 0, .slice none 0 0]) (k := 2) (by kernel_rfl) rfl rfl rfl rfl b_r rfl) ?_
    rintro w9 ⟨b_r9, hg9, hz9⟩
    have hB9 := Below.grown hB hg9 (below_size hB) (by rintro _ ⟨⟩; omega)
    refine Lw.val (Ex.assign rfl) rfl ?_
    refine Lw.nil ?_
    refine Pw.thenN (Cw.out ?_)
    refine Cw.ret ?_
    refine Pw.thenR ?_
    refine Pw.retCT rfl rfl rfl (by assumption) (Tryz.underlying29) rfl rfl rfl ?_
    rw [e1]
    exact ⟨hB9, ansD_no (by decide)⟩
  intro g1
  have g1 : ts.length = x.i.length := by simp at g1; omega
  refine Lw.take (dj := 29) rfl rfl ?_
  refine Lw.val (Ex.move rfl) rfl ?_
  refine Lw.take (dj := 29) rfl rfl ?_
  refine Lw.val (Ex.lenS st_25 rfl (by assumption)) rfl ?_
  refine Lw.take (dj := 29) rfl rfl ?_
  refine Lw.val (Ex.fieldAddr (q := 0) Tryz.underlying88 rfl (sz_3 _) rfl) rfl ?_
  refine Lw.take (dj := 29) rfl rfl ?_
  refine Lw.val (Ex.ldB (ag_3 _) rfl (by assumption) rfl) rfl ?_
  refine Lw.take (dj := 29) rfl rfl ?_
  refine Lw.val (Ex.lss rfl rfl) rfl ?_
  refine Lw.val (Ex.pickF rfl rfl) rfl ?_
  refine Lw.val (Ex.move rfl) rfl ?_
  refine Lw.part 36 rfl ?_ ?_
  · intro g2
    have g2 : ¬ a ≤ (ts.length : Int) := by have := of_decide_eq_true g2; omega
    refine Lw.pass (dj := 36) rfl rfl rfl rfl ?_
    refine Lw.pass (dj := 36) rfl rfl rfl rfl ?_
    refine Lw.pass (dj := 36) rfl rfl rfl rfl ?_
    refine Lw.pass (dj := 36) rfl rfl rfl rfl ?_
    refine Lw.pass (dj := 36) rfl rfl rfl rfl ?_
    refine Lw.val (Ex.pickT rfl rfl) rfl ?_
    refine Lw.val (Ex.move rfl) rfl ?_
    refine Lw.pass (dj := 43) rfl rfl rfl rfl ?_
    refine Lw.pass (dj := 43) rfl rfl rfl rfl ?_
    refine Lw.pass (dj := 43) rfl rfl rfl rfl ?_
    refine Lw.pass (dj := 43) rfl rfl rfl rfl ?_
    refine Lw.pass (dj := 43) rfl rfl rfl rfl ?_
    refine Lw.val (Ex.pickT rfl rfl) rfl ?_
    refine Lw.val (Ex.move rfl) rfl ?_
    refine Lw.pass (dj := 50) rfl rfl rfl rfl ?_
    refine Lw.pass (dj := 50) rfl rfl rfl rfl ?_
    refine Lw.pass (dj := 50) rfl rfl rfl rfl ?_
    refine Lw.pass (dj := 50) rfl rfl rfl rfl ?_
    refine Lw.pass (dj := 50) rfl rfl rfl rfl ?_
    refine Lw.val (Ex.pickT rfl rfl) rfl ?_
    refine Lw.val (Ex.move rfl) rfl ?_
    refine Lw.pass (dj := 57) rfl rfl rfl rfl ?_
    refine Lw.pass (dj := 57) rfl rfl rfl rfl ?_
    refine Lw.pass (dj := 57) rfl rfl rfl rfl ?_
    refine Lw.val (Ex.pickT rfl rfl) rfl ?_
    refine Lw.nil ?_
    refine Pw.thenN (Cw.out ?_)
    refine Cw.condT rfl ?_
    refine Cw.seq ?_
    refine Cw.region ?_
    refine Lw.val (Ex.build (vs := []) (cs := [.slice none 0 0, .slice none 0 0]) rfl (by kernel_rfl)) rfl ?_
    have hF : doOk x ts = false := by rw [hok, decide_eq_false g2]; simp
    have e1 : doE x ts = 1 := by unfold doE; rw [hF]; rfl
    refine Lw.unit (Xu.stA (cs := [.slice none 0 0, .slice none 0 0]) (k := 2) (by kernel_rfl) rfl rfl rfl rfl b_r rfl) ?_
    rintro w9 ⟨b_r9, hg9, hz9⟩
    have hB9 := Below.grown hB hg9 (below_size hB) (by rintro _ ⟨⟩; omega)
    refine Lw.val (Ex.assign rfl) rfl ?_
    refine Lw.nil ?_
    refine Pw.thenN (Cw.out ?_)
    refine Cw.ret ?_
    refine Pw.thenR ?_
    refine Pw.retCT rfl rfl rfl (by assumption) (Tryz.underlying29) rfl rfl rfl ?_
    rw [e1]
    exact ⟨hB9, ansD_no (by decide)⟩
  intro g2
  have g2 : a ≤ (ts.length : Int) := by have := of_decide_eq_false g2; omega
  refine Lw.take (dj := 36) rfl rfl ?_
  refine Lw.val (Ex.move rfl) rfl ?_
  refine Lw.take (dj := 36) rfl rfl ?_
  refine Lw.val (Ex.lenS st_25 rfl (by assumption)) rfl ?_
  refine Lw.take (dj := 36) rfl rfl ?_
  refine Lw.val (Ex.fieldAddr (q := 0) Tryz.underlying88 rfl (sz_3 _) rfl) rfl ?_
  refine Lw.take (dj := 36) rfl rfl ?_
  refine Lw.val (Ex.ldB (ag_3 _) rfl (by assumption) rfl) rfl ?_
  refine Lw.take (dj := 36) rfl rfl ?_
  refine Lw.val (Ex.gtr rfl rfl) rfl ?_
  refine Lw.val (Ex.pickF rfl rfl) rfl ?_
  refine Lw.val (Ex.move rfl) rfl ?_
  refine Lw.part 43 rfl ?_ ?_
  · intro g3
    have g3 : ¬ (ts.length : Int) ≤ b := by have := of_decide_eq_true g3; omega
    refine Lw.pass (dj := 43) rfl rfl rfl rfl ?_
    refine Lw.pass (dj := 43) rfl rfl rfl rfl ?_
    refine Lw.pass (dj := 43) rfl rfl rfl rfl ?_
    refine Lw.pass (dj := 43) rfl rfl rfl rfl ?_
    refine Lw.pass (dj := 43) rfl rfl rfl rfl ?_
    refine Lw.val (Ex.pickT rfl rfl) rfl ?_
    refine Lw.val (Ex.move rfl) rfl ?_
    refine Lw.pass (dj := 50) rfl rfl rfl rfl ?_
    refine Lw.pass (dj := 50) rfl rfl rfl rfl ?_
    refine Lw.pass (dj := 50) rfl rfl rfl rfl ?_
    refine Lw.pass (dj := 50) rfl rfl rfl rfl ?_
    refine Lw.pass (dj := 50) rfl rfl rfl rfl ?_
    refine Lw.val (Ex.pickT rfl rfl) rfl ?_
    refine Lw.val (Ex.move rfl) rfl ?_
    refine Lw.pass (dj := 57) rfl rfl rfl rfl ?_
    refine Lw.pass (dj := 57) rfl rfl rfl rfl ?_
    refine Lw.pass (dj := 57) rfl rfl rfl rfl ?_
    refine Lw.val (Ex.pickT rfl rfl) rfl ?_
    refine Lw.nil ?_
    refine Pw.thenN (Cw.out ?_)
    refine Cw.condT rfl ?_
    refine Cw.seq ?_
    refine Cw.region ?_
    refine Lw.val (Ex.build (vs := []) (cs := [.slice none 0 0, .slice none 0 0]) rfl (by kernel_rfl)) rfl ?_
    have hF : doOk x ts = false := by rw [hok, decide_eq_false g3]; simp
    have e1 : doE x ts = 1 := by unfold doE; rw [hF]; rfl
    refine Lw.unit (Xu.stA (cs := [.slice none 0 0, .slice none 0 0]) (k := 2) (by kernel_rfl) rfl rfl rfl rfl b_r rfl) ?_
    rintro w9 ⟨b_r9, hg9, hz9⟩
    have hB9 := Below.grown hB hg9 (below_size hB) (by rintro _ ⟨⟩; omega)
    refine Lw.val (Ex.assign rfl) rfl ?_
    refine Lw.nil ?_
    refine Pw.thenN (Cw.out ?_)
    refine Cw.ret ?_
    refine Pw.thenR ?_
    refine Pw.retCT rfl rfl rfl (by assumption) (Tryz.underlying29) rfl rfl rfl ?_
    rw [e1]
    exact ⟨hB9, ansD_no (by decide)⟩
  intro g3
  have g3 : (ts.length : Int) ≤ b := by have := of_decide_eq_false g3; omega
  refine Lw.take (dj := 43) rfl rfl ?_
  refine Lw.val (Ex.fieldAddr (q := 0) Tryz.underlying45 rfl (sz_3 _) rfl) rfl ?_
  refine Lw.take (dj := 43) rfl rfl ?_
  refine Lw.val (Ex.ldB (ag_3 _) rfl (by assumption) rfl) rfl ?_
  refine Lw.take (dj := 43) rfl rfl ?_
  refine Lw.val (Ex.fieldAddr (q := 0) Tryz.underlying88 rfl (sz_3 _) rfl) rfl ?_
  refine Lw.take (dj := 43) rfl rfl ?_
  refine Lw.val (Ex.ldB (ag_3 _) rfl (by assumption) rfl) rfl ?_
  refine Lw.take (dj := 43) rfl rfl ?_
  refine Lw.val (Ex.lss rfl rfl) rfl ?_
  refine Lw.val (Ex.pickF rfl rfl) rfl ?_
  refine Lw.val (Ex.move rfl) rfl ?_
  refine Lw.part 50 rfl ?_ ?_
  · intro g4
    have g4 : ¬ c ≤ x.n := by have := of_decide_eq_true g4; omega
    refine Lw.pass (dj := 50) rfl rfl rfl rfl ?_
    refine Lw.pass (dj := 50) rfl rfl rfl rfl ?_
    refine Lw.pass (dj := 50) rfl rfl rfl rfl ?_
    refine Lw.pass (dj := 50) rfl rfl rfl rfl ?_
    refine Lw.pass (dj := 50) rfl rfl rfl rfl ?_
    refine Lw.val (Ex.pickT rfl rfl) rfl ?_
    refine Lw.val (Ex.move rfl) rfl ?_
    refine Lw.pass (dj := 57) rfl rfl rfl rfl ?_
    refine Lw.pass (dj := 57) rfl rfl rfl rfl ?_
    refine Lw.pass (dj := 57) rfl rfl rfl rfl ?_
    refine Lw.val (Ex.pickT rfl rfl) rfl ?_
    refine Lw.nil ?_
    refine Pw.thenN (Cw.out ?_)
    refine Cw.condT rfl ?_
    refine Cw.seq ?_
    refine Cw.region ?_
    refine Lw.val (Ex.build (vs := []) (cs := [.slice none 0 0, .slice none 0 0]) rfl (by kernel_rfl)) rfl ?_
    have hF : doOk x ts = false := by rw [hok, decide_eq_false g4]; simp
    have e1 : doE x ts = 1 := by unfold doE; rw [hF]; rfl
    refine Lw.unit (Xu.stA (cs := [.slice none 0 0, .slice none 0 0]) (k := 2) (by kernel_rfl) rfl rfl rfl rfl b_r rfl) ?_
    rintro w9 ⟨b_r9, hg9, hz9⟩
    have hB9 := Below.grown hB hg9 (below_size hB) (by rintro _ ⟨⟩; omega)
    refine Lw.val (Ex.assign rfl) rfl ?_
    refine Lw.nil ?_
    refine Pw.thenN (Cw.out ?_)
    refine Cw.ret ?_
    refine Pw.thenR ?_
    refine Pw.retCT rfl rfl rfl (by assumption) (Tryz.underlying29) rfl rfl rfl ?_
    rw [e1]
    exact ⟨hB9, ansD_no (by decide)⟩
  intro g4
  have g4 : c ≤ x.n := by have := of_decide_eq_false g4; omega
  refine Lw.take (dj := 50) rfl rfl ?_
  refine Lw.val (Ex.fieldAddr (q := 0) Tryz.underlying45 rfl (sz_3 _) rfl) rfl ?_
  refine Lw.take (dj := 50) rfl rfl ?_
  refine Lw.val (Ex.ldB (ag_3 _) rfl (by assumption) rfl) rfl ?_
  refine Lw.take (dj := 50) rfl rfl ?_
  refine Lw.val (Ex.fieldAddr (q := 0) Tryz.underlying88 rfl (sz_3 _) rfl) rfl ?_
  refine Lw.take (dj := 50) rfl rfl ?_
  refine Lw.val (Ex.ldB (ag_3 _) rfl (by assumption) rfl) rfl ?_
  refine Lw.take (dj := 50) rfl rfl ?_
  refine Lw.val (Ex.gtr rfl rfl) rfl ?_
  refine Lw.val (Ex.pickF rfl rfl) rfl ?_
  refine Lw.val (Ex.move rfl) rfl ?_
  refine Lw.part 57 rfl ?_ ?_
  · intro g5
    have g5 : ¬ x.n ≤ e := by have := of_decide_eq_true g5; omega
    refine Lw.pass (dj := 57) rfl rfl rfl rfl ?_
    refine Lw.pass (dj := 57) rfl rfl rfl rfl ?_
    refine Lw.pass (dj := 57) rfl rfl rfl rfl ?_
    refine Lw.val (Ex.pickT rfl rfl) rfl ?_
    refine Lw.nil ?_
    refine Pw.thenN (Cw.out ?_)
    refine Cw.condT rfl ?_
    refine Cw.seq ?_
    refine Cw.region ?_
    refine Lw.val (Ex.build (vs := []) (cs := [.slice none 0 0, .slice none 0 0]) rfl (by kernel_rfl)) rfl ?_
    have hF : doOk x ts = false := by rw [hok, decide_eq_false g5]; simp
    have e1 : doE x ts = 1 := by unfold doE; rw [hF]; rfl
    refine Lw.unit (Xu.stA (cs := [.slice none 0 0, .slice none 0 0]) (k := 2) (by kernel_rfl) rfl rfl rfl rfl b_r rfl) ?_
    rintro w9 ⟨b_r9, hg9, hz9⟩
    have hB9 := Below.grown hB hg9 (below_size hB) (by rintro _ ⟨⟩; omega)
    refine Lw.val (Ex.assign rfl) rfl ?_
    refine Lw.nil ?_
    refine Pw.thenN (Cw.out ?_)
    refine Cw.ret ?_
    refine Pw.thenR ?_
    refine Pw.retCT rfl rfl rfl (by assumption) (Tryz.underlying29) rfl rfl rfl ?_
    rw [e1]
    exact ⟨hB9, ansD_no (by decide)⟩
  intro g5
  have g5 : x.n ≤ e := by have := of_decide_eq_false g5; omega
  refine Lw.take (dj := 57) rfl rfl ?_
  refine Lw.val (Ex.ldA (k := 5) (ag_45 _) (sz_45 _) rfl rfl b_x) rfl ?_
  refine Lw.take (dj := 57) rfl rfl ?_
  refine Lw.callF rfl rfl (fields_c x w5 (hx.bs hB)) ?_
  rintro _ w6 ⟨rfl, hn6⟩
  have hB := hB.trans (hn6.mono (by omega))
  have b_r := b_r.bs hn6
  have b_x := b_x.bs hn6
  have b_d := b_d.bs hn6
  have z6 := hn6.size
  refine Lw.take (dj := 57) rfl rfl ?_
  refine Lw.val (Ex.not rfl) rfl ?_
  refine Lw.val (Ex.pickF rfl rfl) rfl ?_
  refine Lw.nil ?_
  refine Pw.thenN (Cw.out ?_)
  refine Cw.cond rfl ?_ ?_
  · intro g6
    have g6 : fldB x.k x.s x.p = false := by simpa using g6
    have hF : doOk x ts = false := by rw [hok, g6, Bool.and_false]
    have e1 : doE x ts = 1 := by unfold doE; rw [hF]; rfl
    refine Cw.seq ?_
    refine Cw.region ?_
    refine Lw.val (Ex.build (vs := []) (cs := [.slice none 0 0, .slice none 0 0]) rfl (by kernel_rfl)) rfl ?_
    refine Lw.unit (Xu.stA (cs := [.slice none 0 0, .slice none 0 0]) (k := 2) (by kernel_rfl) rfl rfl rfl rfl b_r rfl) ?_
    rintro w9 ⟨b_r9, hg9, hz9⟩
    have hB9 := Below.grown hB hg9 (below_size hB) (by rintro _ ⟨⟩; omega)
    refine Lw.val (Ex.assign rfl) rfl ?_
    refine Lw.nil ?_
    refine Pw.thenN (Cw.out ?_)
    refine Cw.ret ?_
    refine Pw.thenR ?_
    refine Pw.retCT rfl rfl rfl (by assumption) (Tryz.underlying29) rfl rfl rfl ?_
    rw [e1]
    exact ⟨hB9, ansD_no (by decide)⟩
  intro g6
  have g6 : fldB x.k x.s x.p = true := by simpa using g6
  have e0 : doE x ts = actE x.k x ts := by
    unfold doE
    rw [hok, decide_eq_true g1, decide_eq_true g2, decide_eq_true g3, decide_eq_true g4, decide_eq_true g5, g6]; rfl
  have hcl := hcall x v ts w6 (by simp) (hn13.trans ((hn35.trans (hn6.mono z5)).mono z3)) (hx.bs hB) (h.bs hB) g2 g3
  rw [← e0] at hcl
  refine Cw.skip ?_
  refine Pw.thenN (Cw.out ?_)
  refine Cw.seq ?_
  refine Cw.region ?_
  refine Lw.val (Ex.fieldAddr (q := 0) Tryz.underlying88 rfl (sz_48 _) rfl) rfl ?_
  refine Lw.val (Ex.ldB (ag_48 _) rfl (by assumption) rfl) rfl ?_
  refine Lw.val (Ex.ldA (k := 5) (ag_45 _) (sz_45 _) rfl rfl b_x) rfl ?_
  refine Lw.val (Ex.move rfl) rfl ?_
  refine Lw.callV (p := []) (q := q) rfl rfl rfl (hcl) ?_
  rintro r w7 ⟨hn7, hA⟩
  obtain ⟨rx, ry, rfl, r1⟩ := hA.ones
  have z7 := hn7.size
  have hB := hB.trans (hn7.mono (by omega))
  have b_r := b_r.bs hn7
  refine Lw.val (Ex.extract (i := 0) rfl rfl) rfl ?_
  refine Lw.val (Ex.extract (i := 1) rfl rfl) rfl ?_
  refine Lw.unit (Xu.stA (cs := [rx, ry]) (k := 2) (by kernel_rfl) rfl rfl rfl r1 b_r rfl) ?_
  rintro w8 ⟨b_r8, hg8, hz8⟩
  have hA8 := hA.by hg8 (by omega)
  have hB8 := hB.grown hg8 (by omega) (by rintro _ ⟨⟩; omega)
  refine Lw.val (Ex.assign rfl) rfl ?_
  refine Lw.nil ?_
  refine Pw.thenN (Cw.out ?_)
  refine Cw.ret ?_
  refine Pw.retCT rfl rfl rfl (by assumption) (Tryz.underlying29) rfl rfl rfl ?_
  exact ⟨hB8, hA8.low (by omega)⟩
end Go.Proofs.YtmipoeanpnnjoaaGreat

/-! Contracts: what all nodes come to; the last one. -/
namespace Go.Proofs.YtmipoeanpnnjoaaGreat
open Go Go.Dd Go.RowKit
set_option maxRecDepth 100000

theorem fits_c (t : T4) (v : Value) (s : List Int) (w : World) (ht : t.at w) (hv : SlT (Value.int .i64) w v s) :
    Fnc Tryz.prog 32 [t.v, v] w (fun r w' => r = .bool (tok t.s t.l && decide (t.s = s)) ∧ Below w.heap.size w w') := by
  have hB := Below.refl w.heap.size w
  refine Fnc.enter (n := 13) Tryz.func32 (by kernel_rfl) rfl rfl rfl ?_
  refine Cw.seq ?_
  refine Cw.region ?_
  refine Lw.boxV (cs := [t.x, t.y]) rfl rfl rfl ?_
  rintro A_t w eA_t b_t hn -
  replace hB := hB.bs hn
  replace ht := ht.bs hn
  replace hv := hv.bs hn
  clear hn
  refine Lw.val (Ex.assign rfl) rfl ?_
  refine Lw.nil ?_
  refine Pw.thenN (Cw.out ?_)
  refine Cw.seq ?_
  refine Cw.region ?_
  refine Lw.val (Ex.ldA (ag_29 _) (sz_29 _) rfl rfl (by assumption)) rfl ?_
  refine Lw.callF rfl rfl (tcheck_c t.x t.y t.s t.l w ht.1 ht.2) ?_
  rintro _ w1 ⟨rfl, hn⟩
  have hB := bt hB hn
  have b_t := b_t.bs hn
  refine Lw.val (Ex.move rfl) rfl ?_
  refine Lw.part 7 rfl ?_ ?_
  · intro g
    refine Lw.take (dj := 7) rfl rfl ?_
    refine Lw.val (Ex.fieldAddr (q := 0) Tryz.underlying29 rfl (sz_26 _) rfl) rfl ?_
    refine Lw.take (dj := 7) rfl rfl ?_
    refine Lw.val (Ex.ldB (ag_26 _) rfl (by assumption) rfl) rfl ?_
    refine Lw.take (dj := 7) rfl rfl ?_
    refine Lw.val (Ex.move rfl) rfl ?_
    refine Lw.take (dj := 7) rfl rfl ?_
    refine Lw.callF rfl rfl (equalInts_c t.x v t.s s w1 (ht.1.bs hn) (hv.bs hn)) ?_
    rintro _ w2 ⟨rfl, hn2⟩
    refine Lw.val (Ex.pickT rfl rfl) rfl ?_
    refine Lw.val (Ex.assign rfl) rfl ?_
    refine Lw.nil ?_
    refine Pw.thenN (Cw.out ?_)
    refine Cw.ret ?_
    refine Pw.ret1 rfl rfl ?_
    exact ⟨by rw [g, Bool.true_and], bt hB hn2⟩
  intro g
  refine Lw.pass (dj := 7) rfl rfl rfl rfl ?_
  refine Lw.pass (dj := 7) rfl rfl rfl rfl ?_
  refine Lw.pass (dj := 7) rfl rfl rfl rfl ?_
  refine Lw.pass (dj := 7) rfl rfl rfl rfl ?_
  refine Lw.val (Ex.pickF rfl rfl) rfl ?_
  refine Lw.val (Ex.assign rfl) rfl ?_
  refine Lw.nil ?_
  refine Pw.thenN (Cw.out ?_)
  refine Cw.ret ?_
  refine Pw.ret1 rfl rfl ?_
  exact ⟨by rw [g]; rfl, hB⟩
/-- A tensor of its own, clipped. -/
theorem twin_c (t : T4) (w : World) (ht : t.at w) (h1 : t.s.length ≤ 1000000) (h2 : t.l.length ≤ 1000000) :
    Fnc Tryz.prog 33 [t.v] w (fun r w' => Below w.heap.size w w' ∧ ∃ x y, r = .agg [x, y].toArray ∧ MadeK w w' x y t.s t.l) := by
  obtain ⟨W, hW⟩ : ∃ W, W = w := ⟨_, rfl⟩
  rw [← hW] at ht
  rw [← hW]
  have hB := Below.refl W.heap.size W
  refine Fnc.enter (n := 12) Tryz.func33 (by kernel_rfl) rfl rfl rfl ?_
  refine Cw.seq ?_
  refine Cw.region ?_
  refine Lw.boxV (cs := [t.x, t.y]) rfl rfl rfl ?_
  rintro A_t w eA_t b_t hn -
  replace hB := hB.bs hn
  clear hn
  have yx := blk_lt b_t
  refine Lw.newA it_29 rfl ?_
  rintro A_r w eA_r b_r hn -
  replace hB := hB.bs hn
  replace b_t := b_t.bs hn
  clear hn
  refine Lw.nil ?_
  refine Pw.thenN (Cw.out ?_)
  refine Cw.seq ?_
  have z0 := below_size hB
  have yr := blk_lt b_r
  refine Cw.any mixed (fun w2 hd _ => ?_)
  have hB2 := hB.trans (hd.mono z0)
  have b_t2 := b_t.bs hd
  refine Aw.cls (fun w' => Blk w' A_t 29 [t.x, t.y]) (fun hC => ?_) (b_t2)
  refine AwC.take (i := 0) (NoP.thn NoP.ret) rfl (by kernel_rfl) (by kernel_rfl) (by kernel_rfl) (fun w1 hc => Ex.fieldAddr (q := 0) Tryz.underlying29 rfl (sz_26 _) rfl) rfl ?_
  refine AwC.take (i := 1) (NoP.thn NoP.ret) rfl (by kernel_rfl) (by kernel_rfl) (by kernel_rfl) (fun w1 hc => Ex.ldB (ag_26 _) rfl hc rfl) rfl ?_
  refine AwC.take (i := 4) (NoP.thn NoP.ret) rfl (by kernel_rfl) (by kernel_rfl) (by kernel_rfl) (fun w1 hc => Ex.fieldAddr (q := 0) Tryz.underlying29 rfl (sz_27 _) rfl) rfl ?_
  refine AwC.take (i := 5) (NoP.thn NoP.ret) rfl (by kernel_rfl) (by kernel_rfl) (by kernel_rfl) (fun w1 hc => Ex.ldB (ag_27 _) rfl hc rfl) rfl ?_
  refine AwC.only (by assumption) (i := 2) (by kernel_rfl) rfl ?_
  refine Lw.callF rfl rfl (clone_c t.x t.s w2 (ht.1.bs hB2) (by omega)) ?_
  rintro x w3 ⟨o_x, hn3⟩
  have xlt := (KRow.clip o_x).lt
  have z2 := hd.size
  have z3 := hn3.size
  have hB3 := hB2.trans (hn3.mono (by omega))
  have b_t3 := b_t2.bs hn3
  refine AwC.back ?_
  refine AwC.only (by assumption) (i := 3) (by kernel_rfl) rfl ?_
  refine Lw.callF rfl rfl (clip_c x t.s w3 (own_slT o_x)) ?_
  rintro _ w4 ⟨rfl, hn4⟩
  have z4 := hn4.size
  have hB4 := hB3.trans (hn4.mono (by omega))
  have b_t4 := b_t3.bs hn4
  refine AwC.back ?_
  refine AwC.only (by assumption) (i := 6) (by kernel_rfl) rfl ?_
  refine Lw.callF rfl rfl (clone32_c t.y t.l w4 (ht.2.bs hB4) (by omega)) ?_
  rintro y w5 ⟨o_y, hn5⟩
  have z5 := hn5.size
  have hB5 := hB4.trans (hn5.mono (by omega))
  have b_t5 := b_t4.bs hn5
  refine AwC.back ?_
  refine AwC.only (by assumption) (i := 7) (by kernel_rfl) rfl ?_
  refine Lw.callF rfl rfl (clip32_c y t.l w5 (own_slT o_y)) ?_
  rintro _ w6 ⟨rfl, hn6⟩
  have z6 := hn6.size
  have hB6 := hB5.trans (hn6.mono (by omega))
  have b_t6 := b_t5.bs hn6
  have k_x := (KRow.clip o_x).bs (hn4.trans ((hn5.trans (hn6.mono z5)).mono z4))
  have k_y := (KRow.clip o_y).bs hn6
  have k1 : [clip x, clip y].all (·.oneCell') = true := by rw [List.all_cons, List.all_cons, k_x.slT.one', k_y.slT.one']; rfl
  refine AwC.back ?_
  refine AwC.only (by assumption) (i := 8) (by kernel_rfl) rfl ?_
  refine Lw.val (Ex.build (vs := [(0, clip x), (1, clip y)]) (cs := [clip x, clip y]) rfl (bt_ten _ _ k_x.slT.one k_y.slT.one)) rfl ?_
  refine AwC.back ?_
  refine AwC.only (by assumption) (i := 9) (by kernel_rfl) rfl ?_
  have b_r6 := (((((b_r.bs hd).bs hn3).bs hn4).bs hn5).bs hn6)
  refine Lw.unit (Xu.stA (cs := [clip x, clip y]) (k := 2) (by kernel_rfl) rfl rfl rfl k1 b_r6 rfl) ?_
  rintro w7 ⟨b_r7, hg, hz⟩
  have b_t7 := b_t6.by hg (fun e => by have := Option.some.inj e; omega)
  have hB7 := hB6.grown hg (by omega) (by rintro _ ⟨⟩; omega)
  have k_x7 := k_x.heap fun b e => hg.block b (k_x.lt b e).2 (fun e2 => by have := (k_x.lt b e).1; have := Option.some.inj e2; omega)
  have k_y7 := k_y.heap fun b e => hg.block b (k_y.lt b e).2 (fun e2 => by have := (k_y.lt b e).1; have := Option.some.inj e2; omega)
  have m : MadeK W w7 (clip x) (clip y) t.s t.l := ⟨k_x7.mono (by omega), k_y7.mono (by omega), fun b e1 e2 => by have := xlt b e2; have := (k_y.lt b e1).1; omega⟩
  refine AwC.back ?_
  refine AwC.done (by assumption) (by kernel_rfl) ?_
  refine Pw.thenN (Cw.out ?_)
  refine Cw.ret ?_
  refine Pw.retC rfl rfl (by assumption) (Tryz.underlying29) rfl rfl rfl ?_
  exact ⟨hB7, _, _, rfl, m⟩
end Go.Proofs.YtmipoeanpnnjoaaGreat

/-! Plain law: what all nodes of a graph come to. -/
namespace Go.Proofs.YtmipoeanpnnjoaaGreat
open Go Go.Dd Go.RowKit
set_option maxRecDepth 100000

abbrev PV := List Int × List (BitVec 32)
def pv (t : T4) : PV := (t.s, t.l)
def tv (p : PV) : T4 := ⟨.slice none 0 0, .slice none 0 0, p.1, p.2⟩
def norm (t : T4) : T4 := tv (pv t)
theorem act_norm (k : BitVec 8) (x : N5) (ts : List T4) (h : ts.length ≤ 4) : actE k x (ts.map norm) = actE k x ts ∧ actS k x (ts.map norm) = actS k x ts ∧ actL k x (ts.map norm) = actL k x ts := by
  match ts, h with
  | [], _ => exact ⟨rfl, rfl, rfl⟩
  | [a], _ => exact ⟨rfl, rfl, rfl⟩
  | [a, b], _ => exact ⟨rfl, rfl, rfl⟩
  | [a, b, c], _ => exact ⟨rfl, rfl, rfl⟩
  | [a, b, c, d], _ => exact ⟨rfl, rfl, rfl⟩
  | a :: b :: c :: d :: e :: l, h => simp at h
theorem dRow_most {k : Nat} {a b c d : Int} (h : dRow k = some (a, b, c, d)) : b ≤ 4 := by
  unfold dRow at h
  split at h <;> (cases h <;> decide)
theorem doOk_len {x : N5} {ts : List T4} (h : doOk x ts = true) : ts.length ≤ 4 ∧ ts.length = x.i.length ∧ fldB x.k x.s x.p = true := by
  unfold doOk at h
  split at h
  · rename_i a b c d hd
    have := dRow_most hd
    simp only [Bool.and_eq_true, decide_eq_true_eq] at h
    exact ⟨by omega, h.1.1.1.1.1, h.2⟩
  · cases h
theorem doOk_norm (x : N5) (ts : List T4) : doOk x (ts.map norm) = doOk x ts := by
  unfold doOk; rw [List.length_map]
theorem do_norm (x : N5) (ts : List T4) : doE x (ts.map norm) = doE x ts ∧ (doE x ts = 0 → actS x.k x (ts.map norm) = actS x.k x ts ∧ actL x.k x (ts.map norm) = actL x.k x ts) := by
  unfold doE
  rw [doOk_norm]
  cases h : doOk x ts with
  | false => exact ⟨rfl, fun h => by cases h⟩
  | true =>
    obtain ⟨h1, h2, h3⟩ := act_norm x.k x ts (doOk_len h).1
    simp only [if_true]
    exact ⟨h1, fun _ => ⟨h2, h3⟩⟩
/-- What a node takes in. -/
def insP (acc : List PV) (x : N5) : List T4 := x.i.map fun j => tv (acc.getD j.toNat ([], []))
def fitP (t : PV) (s : List Int) : Bool := tok t.1 t.2 && decide (t.1 = s)
def allR : List PV → List PV → List PV → List N5 → Option (List PV)
  | acc, _, _, [] => some acc
  | acc, gv, ws, x :: l =>
    if x.k = 1#8 then match gv with
      | t :: gv' => if fitP t x.s then allR (acc ++ [t]) gv' ws l else none
      | [] => none
    else if x.k = 2#8 then match ws with
      | t :: ws' => if fitP t x.s then allR (acc ++ [t]) gv ws' l else none
      | [] => none
    else if doE x (insP acc x) = 0 then allR (acc ++ [(actS x.k x (insP acc x), actL x.k x (insP acc x))]) gv ws l else none
def wtsN (ls : List N5) : Nat := (ls.filter fun a => decide (a.k = 2#8)).length
def allG (ls : List N5) (ws : List PV) (t : PV) : Option (List PV) := if (gsh ls).isSome && decide (ws.length = wtsN ls) then allR [] [t] ws ls else none
theorem wtsG_len : ∀ (ls : List N5), (wtsG ls).length = wtsN ls := fun ls => by
  have key : ∀ m, m ≤ ls.length → (wtsG (ls.take m)).length = wtsN (ls.take m) := by
    intro m
    induction m with
    | zero => intro _; rfl
    | succ m ih =>
      intro hm
      rw [wtsG_succ ls m hm, List.length_append, ih (by omega), List.take_succ_eq_append_getElem hm]
      have e : ls.getD m default = ls[m] := by rw [List.getD_eq_getElem?_getD, List.getElem?_eq_getElem hm]; rfl
      unfold wtsN
      rw [List.filter_append, List.length_append, e]
      by_cases h : (ls[m]).k = 2#8
      · rw [if_pos h, List.filter_cons, decide_eq_true h]; rfl
      · rw [if_neg h, List.filter_cons, decide_eq_false h]; rfl
  have := key ls.length (Nat.le_refl _)
  rwa [List.take_length] at this
/-- Each node takes in of those ahead of it. -/
theorem gshR_in : ∀ (ls : List N5) (acc ss : List (List Int)), gshR acc ls = some ss → ∀ i (hi : i < ls.length), ∀ j ∈ (ls[i]).i, 0 ≤ j ∧ j < ((acc.length + i : Nat) : Int)
  | [], _, _, _, i, hi => by simp at hi
  | x :: ls, acc, ss, h, i, hi => by
    unfold gshR at h
    cases e : stp acc x with
    | none => rw [e] at h; cases h
    | some s =>
      rw [e] at h
      cases i with
      | zero =>
        intro j hj
        unfold stp at e
        split at e
        · rename_i hc
          simp only [Bool.and_eq_true, Bool.not_eq_true'] at hc
          have h2 := hc.1.2
          unfold inB at h2
          have := List.any_eq_false.1 h2 j hj
          simp at this
          simp only [Nat.add_zero]
          omega
        · cases e
      | succ i =>
        intro j hj
        have := gshR_in ls _ _ h i (by simpa using hi) j hj
        rw [List.length_append, List.length_singleton] at this
        omega
theorem gsh_R {ls : List N5} {ss : List (List Int)} (h : gsh ls = some ss) : gshR [] ls = some ss ∧ inputs ls = 1 ∧ 1 ≤ ls.length ∧ ls.length ≤ 32 := by
  unfold gsh at h
  split at h
  · cases h
  · rename_i hl
    split at h
    · rename_i s hs
      split at h
      · rename_i hc
        cases h
        exact ⟨hs, hc.1, by omega, by omega⟩
      · cases h
    · cases h
end Go.Proofs.YtmipoeanpnnjoaaGreat

/-! Contracts: what all nodes of a graph come to; the last one. -/
namespace Go.Proofs.YtmipoeanpnnjoaaGreat
open Go Go.Dd Go.RowKit
set_option maxRecDepth 100000

theorem cellsOf_app : ∀ (a b : List T4), cellsOf (a ++ b) = cellsOf a ++ cellsOf b
  | [], _ => rfl
  | t :: a, b => by rw [List.cons_append, cellsOf, cellsOf, cellsOf_app a b]; rfl
/-- Tensors of one's own, each. -/
def madeA (W w : World) (ts : List T4) : Prop := ∀ t ∈ ts, MadeK W w t.x t.y t.s t.l
theorem MadeK.bs {W w w' : World} {x y : Value} {s : List Int} {l : List (BitVec 32)} (h : MadeK W w x y s l) (g : Below w.heap.size w w') : MadeK W w' x y s l := ⟨h.row.bs g, h.col.bs g, h.apart⟩
theorem madeA.bs {W w w' : World} {ts : List T4} (h : madeA W w ts) (g : Below w.heap.size w w') : madeA W w' ts := fun t ht => (h t ht).bs g
theorem own_ty {w : World} {base sz n b : Nat} {e : TypeId} {v : Value} {xs : List Value} (h : w.ownsRow base e sz v n xs) (hb : v.ownBlock = some b) : ∃ cs, Blk w b e cs := by
  obtain ⟨cap, cur, rfl, h1, -⟩ := own_cells h hb
  exact ⟨cur, h1⟩
theorem krow_ty {w : World} {base sz n b : Nat} {e : TypeId} {v : Value} {xs : List Value} (h : KRow w base e sz v n xs) (hb : v.ownBlock = some b) : ∃ cs, Blk w b e cs := by
  rcases h with h | ⟨g, cur, rfl, _, h1, _⟩
  · exact own_ty h hb
  · have : g = b := by simpa [Value.ownBlock] using hb
    exact ⟨cur, this ▸ h1⟩
theorem blk_ty {w : World} {b : Nat} {e T : TypeId} {cs ds : List Value} (h : Blk w b e cs) (k : Blk w b T ds) : e = T := by
  unfold Blk at h k
  rw [h] at k
  simp only [Option.some.injEq, Obj.cells.injEq] at k
  exact k.2.1
/-- What changes is a block of another type. -/
theorem MadeK.ty {W w w' : World} {x y : Value} {s : List Int} {l : List (BitVec 32)} {T : TypeId} {r : Option Nat} (h : MadeK W w x y s l) (g : w.grownBy w' r) (hr : ∀ b, r = some b → ∃ cs, Blk w b T cs) (h1 : 3 ≠ T) (h2 : 21 ≠ T) : MadeK W w' x y s l :=
  ⟨h.row.heap fun b e => g.block b (h.row.lt b e).2 (fun e2 => by
      obtain ⟨cs, k1⟩ := hr b e2.symm
      obtain ⟨ds, k2⟩ := krow_ty h.row e
      exact h1 (blk_ty k2 k1)),
   h.col.heap fun b e => g.block b (h.col.lt b e).2 (fun e2 => by
      obtain ⟨cs, k1⟩ := hr b e2.symm
      obtain ⟨ds, k2⟩ := krow_ty h.col e
      exact h2 (blk_ty k2 k1)), h.apart⟩
theorem madeA.ty {W w w' : World} {ts : List T4} {T : TypeId} {r : Option Nat} (h : madeA W w ts) (g : w.grownBy w' r) (hr : ∀ b, r = some b → ∃ cs, Blk w b T cs) (h1 : 3 ≠ T) (h2 : 21 ≠ T) : madeA W w' ts := fun t ht => (h t ht).ty g hr h1 h2
theorem madeA.snoc {W w : World} {ts : List T4} {c : T4} (h : madeA W w ts) (hc : MadeK W w c.x c.y c.s c.l) : madeA W w (ts ++ [c]) := fun t ht => (List.mem_append.1 ht).elim (h t) (fun e => by rw [List.mem_singleton.1 e]; exact hc)
theorem Tens.tail {w : World} {v : Value} {t : T4} {ts : List T4} (h : Tens w v (t :: ts)) : Tens w (cut v 2 1 (ts.length + 1)) ts := by
  refine ⟨?_, fun q hq => h.2 q (List.mem_cons_of_mem _ hq)⟩
  have := Sl.cut (i := 1) (j := ts.length + 1) h.1 (by omega) (Nat.le_refl _)
  rw [Nat.add_sub_cancel] at this
  have e : ((cellsOf (t :: ts)).drop (1 * 2)).take (ts.length * 2) = cellsOf ts := by
    show (cellsOf ts).take (ts.length * 2) = cellsOf ts
    have : (cellsOf ts).length = ts.length * 2 := by have := h.1.len; simp [cellsOf] at this; omega
    rw [List.take_of_length_le (by omega)]
  rw [e] at this
  exact this
theorem clipTs_c (u : Value) (ts : List T4) (w : World) (hu : Sl w 2 u ts.length (cellsOf ts)) : Fnc Tryz.prog 34 [u] w (fun r w' => r = clip u ∧ Below w.heap.size w w') := by
  refine Fnc.enter (n := 9) Tryz.func34 (by kernel_rfl) rfl rfl rfl ?_
  refine Cw.seq ?_
  refine Cw.region ?_
  refine Lw.val (Ex.assign rfl) rfl ?_
  refine Lw.nil ?_
  refine Pw.thenN (Cw.out ?_)
  refine Cw.seq ?_
  refine Cw.region ?_
  refine Lw.val (Ex.move rfl) rfl ?_
  refine Lw.val (Ex.move rfl) rfl ?_
  refine Lw.val (Ex.lenS st_25 rfl (by assumption)) rfl ?_
  refine Lw.val (Ex.move rfl) rfl ?_
  refine Lw.val (Ex.lenS st_25 rfl (by assumption)) rfl ?_
  refine Lw.val (Ex.clip st_25 rfl rfl rfl hu.shp) rfl ?_
  refine Lw.val (Ex.assign rfl) rfl ?_
  refine Lw.nil ?_
  refine Pw.thenN (Cw.out ?_)
  refine Cw.ret ?_
  refine Pw.ret1 rfl rfl ?_
  exact ⟨rfl, Below.refl _ _⟩
theorem ins_drop (f : N5 → Bool) {ls : List N5} {i : Nat} {x : N5} (hi : i < ls.length) (hx : x = ls[i]) : ((ls.drop i).filter f).length = (if f x then 1 else 0) + ((ls.drop (i + 1)).filter f).length := by
  rw [List.drop_eq_getElem_cons hi, ← hx, List.filter_cons]
  split
  · rw [List.length_cons]; omega
  · omega
theorem kindF_len {x : N5} (hk : kindF x.k x.i x.s x.n x.p = true) : x.i.length ≤ 4 := by
  obtain ⟨a, b, c, d, e, f, he⟩ := kindF_row hk
  have h1 := (kindF_at hk he).1
  have h2 : ∀ p ∈ kdT, p.2.2.getD 1 0 ≤ 4 := by decide
  unfold kdOf at he
  cases hf : kdT.find? (fun p => decide (p.2.1 = (x.k.toNat : Int))) with
  | none => rw [hf] at he; cases he
  | some p =>
    rw [hf] at he
    have h3 := h2 p (List.mem_of_find?_eq_some hf)
    have h4 : p.2.2 = [a, b, c, d, e, f] := by simpa using he
    rw [h4] at h3
    simp at h3
    omega
set_option maxHeartbeats 1600000 in
theorem all_c (v : Value) (ls : List N5) (u : Value) (ws : List T4) (t : T4) (W : World) (h : GN W v ls) (hw : Tens W u ws) (ht : t.at W) :
    Fnc Tryz.prog 10 [.agg [v].toArray, u, t.v] W (fun r w' => Below W.heap.size W w' ∧ match allG ls (ws.map pv) (pv t) with
      | none => r = .tuple #[.slice none 0 0, .int .i64 1]
      | some vs => ∃ q ts, r = .tuple #[q, .int .i64 0] ∧ Tens w' q ts ∧ madeA W w' ts ∧ ts.map pv = vs) := by
  obtain ⟨R, hR⟩ : ∃ R, R = allG ls (ws.map pv) (pv t) := ⟨_, rfl⟩
  rw [← hR]
  have hB := Below.refl W.heap.size W
  have hwl := hw.1.le
  refine Fnc.enter (n := 95) Tryz.func10 (by kernel_rfl) rfl rfl rfl ?_
  refine Cw.seq ?_
  refine Cw.region ?_
  refine Lw.boxV (cs := [v]) rfl rfl rfl ?_
  rintro A_g w eA_g b_g hn -
  replace hB := hB.bs hn
  clear hn
  have yg := blk_lt b_g
  refine Lw.boxV (cs := [t.x, t.y]) rfl rfl rfl ?_
  rintro A_in w eA_in b_in hn -
  replace hB := hB.bs hn
  replace b_g := b_g.bs hn
  clear hn
  refine Lw.val (Ex.assign rfl) rfl ?_
  refine Lw.val (Ex.assign rfl) rfl ?_
  refine Lw.nil ?_
  refine Pw.thenN (Cw.out ?_)
  refine Cw.seq ?_
  refine Cw.seq ?_
  refine Cw.region ?_
  refine Lw.val (Ex.ldA (ag_24 _) (sz_24 _) rfl rfl (by assumption)) rfl ?_
  have z0 := below_size hB
  refine Lw.callF rfl rfl (gcheck_c v ls w (h.bs hB)) ?_
  rintro _ w1 ⟨hn1, rfl⟩
  have b_g := b_g.bs hn1
  have b_in := b_in.bs hn1
  have z1 := hn1.size
  have hB := hB.trans (hn1.mono z0)
  refine Lw.val (Ex.not rfl) rfl ?_
  refine Lw.val (Ex.move rfl) rfl ?_
  refine Lw.part 19 rfl ?_ ?_
  · intro g
    have g : (gsh ls).isSome = false := by simpa using g
    refine Lw.pass (dj := 19) rfl rfl rfl rfl ?_
    refine Lw.pass (dj := 19) rfl rfl rfl rfl ?_
    refine Lw.pass (dj := 19) rfl rfl rfl rfl ?_
    refine Lw.pass (dj := 19) rfl rfl rfl rfl ?_
    refine Lw.pass (dj := 19) rfl rfl rfl rfl ?_
    refine Lw.pass (dj := 19) rfl rfl rfl rfl ?_
    refine Lw.val (Ex.pickT rfl rfl) rfl ?_
    refine Lw.nil ?_
    refine Pw.thenN (Cw.out ?_)
    refine Cw.condT rfl ?_
    refine Cw.seq ?_
    refine Cw.region ?_
    refine Lw.val (Ex.assign rfl) rfl ?_
    refine Lw.val (Ex.assign rfl) rfl ?_
    refine Lw.nil ?_
    refine Pw.thenN (Cw.out ?_)
    refine Cw.ret ?_
    refine Pw.thenR ?_
    refine Pw.ret2 rfl rfl rfl ?_
    have hN : R = none := by rw [hR]; unfold allG; rw [g]; rfl
    rw [hN]
    exact ⟨hB, rfl⟩
  intro g
  obtain ⟨ss, hss⟩ : ∃ ss, gsh ls = some ss := by
    cases e : gsh ls with
    | none => rw [e] at g; cases g
    | some ss => exact ⟨ss, rfl⟩
  obtain ⟨hgR, hin1, hl1, hl32⟩ := gsh_R hss
  have hAR : R = if ws.length = wtsN ls then allR [] [pv t] (ws.map pv) ls else none := by
    rw [hR]; unfold allG; rw [hss, List.length_map]
    by_cases e : ws.length = wtsN ls
    · rw [if_pos e, decide_eq_true e]; rfl
    · rw [if_neg e, decide_eq_false e]; rfl
  have hw1 := (hw.bs hB).1
  refine Lw.take (dj := 19) rfl rfl ?_
  refine Lw.val (Ex.move rfl) rfl ?_
  refine Lw.take (dj := 19) rfl rfl ?_
  refine Lw.val (Ex.lenS st_25 rfl (by assumption)) rfl ?_
  refine Lw.take (dj := 19) rfl rfl ?_
  refine Lw.val (Ex.ldA (ag_24 _) (sz_24 _) rfl rfl (by assumption)) rfl ?_
  refine Lw.take (dj := 19) rfl rfl ?_
  refine Lw.callF rfl rfl (gweights_c v ls w1 (h.bs hB) (by omega)) ?_
  rintro q w2 ⟨hn2, s_q⟩
  have b_g := b_g.bs hn2
  have b_in := b_in.bs hn2
  have z2 := hn2.size
  have hB := hB.trans (hn2.mono (by omega))
  have lwq := wtsG_len ls
  refine Lw.take (dj := 19) rfl rfl ?_
  refine Lw.val (Ex.lenS st_26 rfl (by assumption)) rfl ?_
  refine Lw.take (dj := 19) rfl rfl ?_
  refine Lw.val (Ex.neq rfl rfl) rfl ?_
  refine Lw.val (Ex.pickF rfl rfl) rfl ?_
  refine Lw.nil ?_
  refine Pw.thenN (Cw.out ?_)
  refine Cw.cond rfl ?_ ?_
  · intro g2
    have g2 : ¬ ws.length = wtsN ls := fun e => by rw [lwq, e] at g2; simp at g2
    refine Cw.seq ?_
    refine Cw.region ?_
    refine Lw.val (Ex.assign rfl) rfl ?_
    refine Lw.val (Ex.assign rfl) rfl ?_
    refine Lw.nil ?_
    refine Pw.thenN (Cw.out ?_)
    refine Cw.ret ?_
    refine Pw.thenR ?_
    refine Pw.ret2 rfl rfl rfl ?_
    have hN : R = none := by rw [hAR, if_neg g2]
    rw [hN]
    exact ⟨hB, rfl⟩
  intro g2
  have g2 : ws.length = wtsN ls := by rw [lwq] at g2; simp at g2; omega
  rw [if_pos g2] at hAR
  refine Cw.skip ?_
  refine Pw.thenN (Cw.out ?_)
  refine Cw.seq ?_
  refine Cw.region ?_
  refine Lw.val (Ex.ldA (ag_29 _) (sz_29 _) rfl rfl (by assumption)) rfl ?_
  refine Lw.valW (Xw.litA1 (cs := [t.x, t.y]) st_25 it_29 rfl rfl (by decide) (by decide)) rfl ?_
  rintro gq0 w3 ⟨o_g, -, hn3, -⟩
  have b_g := b_g.bs hn3
  have z3 := hn3.size
  have hB := hB.trans (hn3.mono (by omega))
  have h_v := h.sl.bs hB
  have hg0 : Tens w3 gq0 [t] := ⟨own_sl o_g, fun q hq => by rw [List.mem_singleton.1 hq]; exact ht.bs hB⟩
  refine Lw.val (Ex.move rfl) rfl ?_
  refine Lw.val (Ex.assign rfl) rfl ?_
  refine Lw.val (Ex.assign rfl) rfl ?_
  refine Lw.nil ?_
  refine Pw.thenN (Cw.out ?_)
  refine Cw.seq ?_
  refine Cw.seq ?_
  refine Cw.region ?_
  refine Lw.val (Ex.fieldAddr (q := 0) Tryz.underlying24 rfl (sz_22 _) rfl) rfl ?_
  refine Lw.val (Ex.ldB (ag_22 _) rfl (by assumption) rfl) rfl ?_
  refine Lw.val (Ex.lenS st_22 rfl (by assumption)) rfl ?_
  refine Lw.val (Ex.move rfl) rfl ?_
  refine Lw.nil ?_
  refine Pw.thenN (Cw.out ?_)
  refine Cw.block ?_
  refine Cw.loop (S := (Nat × Value × List T4 × Value × List T4 × Value × List T4)) (fun z => [(6, z.2.2.2.2.2.1), (7, .int .i64 0), (8, z.2.1), (9, z.2.2.2.1), (31, v), (32, .int .i64 (ls.length : Int)), (33, .int .i64 (z.1 : Int))]) (fun z w' => z.1 ≤ ls.length ∧ Below w3.heap.size w3 w' ∧ Tens w3 z.2.1 z.2.2.1 ∧ Tens W z.2.2.2.1 z.2.2.2.2.1 ∧ z.2.2.1.length = inputs (ls.drop z.1) ∧ z.2.2.2.2.1.length = wtsN (ls.drop z.1) ∧ w'.ownsRow w3.heap.size tenT 2 z.2.2.2.2.2.1 z.2.2.2.2.2.2.length (cellsOf z.2.2.2.2.2.2) ∧ madeA W w' z.2.2.2.2.2.2 ∧ z.2.2.2.2.2.2.length = z.1 ∧ allR (z.2.2.2.2.2.2.map pv) (z.2.2.1.map pv) (z.2.2.2.2.1.map pv) (ls.drop z.1) = R) (fun z => ls.length - z.1) ((0, gq0, [t], u, ws, .slice none 0 0, [])) ⟨rfl, rfl, rfl, rfl, rfl, rfl, rfl, trivial⟩ ?_ ?_
  · exact ⟨Nat.zero_le _, Below.refl _ _, hg0, hw, by rw [List.drop_zero, hin1]; rfl, by rw [List.drop_zero]; exact g2, ⟨rfl, .inl ⟨rfl, rfl⟩⟩, (fun _ h => by cases h), rfl, by rw [hAR]; rfl⟩
  clear b_g b_in hw1 s_q h_v
  rintro ⟨i, gq, gts, wq, wts, l, ts⟩ w4 ⟨hi, hB3, hgt, hwt, lg, lw, o_l, hoff, lts, hrec⟩
  dsimp only at hi hB3 hgt hwt lg lw o_l hoff lts hrec ⊢
  have hB := hB.trans (hB3.mono (by omega))
  have h_v := h.sl.bs hB
  have z4 := hB3.size
  refine Cw.seq ?_
  refine Cw.region ?_
  refine Lw.val (Ex.lss rfl rfl) rfl ?_
  refine Lw.nil ?_
  refine Pw.thenN (Cw.out ?_)
  refine Cw.seq ?_
  refine Cw.cond rfl ?_ ?_
  · intro gi
    have hi' : i < ls.length := by have := of_decide_eq_true gi; omega
    obtain ⟨x, hxd⟩ : ∃ x, x = ls[i] := ⟨_, rfl⟩
    have hx := (h.each x (hxd ▸ List.getElem_mem hi')).bs hB
    have hcl := h.cells hi'
    rw [← hxd] at hcl
    have ed : ls.drop i = x :: ls.drop (i + 1) := by rw [List.drop_eq_getElem_cons hi', ← hxd]
    have hji := gshR_in ls [] ss hgR i hi'
    rw [← hxd] at hji
    have lg2 : gts.length = (if x.k = 1#8 then 1 else 0) + inputs (ls.drop (i + 1)) := by
      rw [lg]; unfold inputs; rw [ins_drop _ hi' hxd]; simp only [decide_eq_true_eq]
    have lw2 : wts.length = (if x.k = 2#8 then 1 else 0) + wtsN (ls.drop (i + 1)) := by
      rw [lw]; unfold wtsN; rw [ins_drop _ hi' hxd]; simp only [decide_eq_true_eq]
    rw [ed] at hrec
    refine Cw.skip ?_
    refine Pw.thenN (Cw.out ?_)
    refine Cw.seq ?_
    refine Cw.block ?_
    refine Cw.seq ?_
    refine Cw.region ?_
    refine Lw.val (Ex.idx st_22 rfl rfl h_v i rfl hi') rfl ?_
    refine Lw.val (Ex.ldE (cs := x.cells) (ag_45 _) (sz_45 _) rfl h_v rfl (by decide) hcl) rfl ?_
    refine Lw.valW (Xw.new it_45) rfl ?_
    rintro _ w5 ⟨rfl, b_n, hn5, hz5⟩
    refine Lw.unit (Xu.stA (cs := x.cells) (k := 5) (by kernel_rfl) rfl rfl rfl hx.ones b_n rfl) ?_
    rintro w6 ⟨b_n, hg6, hz6⟩
    obtain ⟨A_n, eAn⟩ : ∃ A_n, A_n = w4.heap.size := ⟨_, rfl⟩
    rw [← eAn] at b_n
    rw [← eAn]
    refine Lw.nil ?_
    refine Pw.thenN (Cw.out ?_)
    refine Cw.seq ?_
    refine Cw.region ?_
    refine Lw.valW (Xw.new it_29) rfl ?_
    rintro _ w7 ⟨rfl, b_t, hn7, hz7⟩
    have b_n := b_n.bs hn7
    obtain ⟨A_t, eAt⟩ : ∃ A_t, A_t = w6.heap.size := ⟨_, rfl⟩
    rw [← eAt] at b_t
    rw [← eAt]
    have hB4 : Below w4.heap.size w4 w7 := (hn5.grown hg6 hn5.size (by rintro _ e; have := Option.some.inj e; omega)).trans (hn7.mono (by omega))
    have z7 := hB4.size
    clear h_v
    refine Lw.nil ?_
    refine Pw.thenN (Cw.out ?_)
    refine Cw.seq ?_
    refine Cw.block ?_
    refine Cw.seq ?_
    refine Cw.region ?_
    refine Lw.val (Ex.fieldAddr (q := 0) Tryz.underlying45 rfl (sz_43 _) rfl) rfl ?_
    refine Lw.val (Ex.ldB (ag_43 _) rfl (by assumption) rfl) rfl ?_
    refine Lw.val (Ex.eql8 rfl (show _ = some (b8 (1#8)) from rfl)) rfl ?_
    refine Lw.val (Ex.assign rfl) rfl ?_
    refine Lw.nil ?_
    refine Pw.thenN (Cw.out ?_)
    refine Cw.cond rfl ?_ ?_
    · intro g1
      have g1 : x.k = 1#8 := of_decide_eq_true g1
      rw [g1] at lg2 lw2
      rw [if_pos rfl] at lg2
      rw [if_neg (by decide)] at lw2
      obtain ⟨t0, gts', rfl⟩ : ∃ t0 gts', gts = t0 :: gts' := by
        cases gts with
        | nil => simp at lg2; omega
        | cons t0 gts' => exact ⟨t0, gts', rfl⟩
      have hrec : R = if fitP (pv t0) x.s = true then allR (ts.map pv ++ [pv t0]) (gts'.map pv) (wts.map pv) (ls.drop (i + 1)) else none := by rw [← hrec, List.map_cons]; simp only [allR, g1, if_true]
      have hgs := (hgt.bs (hB3.trans (hB4.mono z4))).1
      have ht0 := ((hgt.2 t0 (by simp)).bs (hB3.trans (hB4.mono z4)))
      simp only [List.length_cons] at lg2
      refine Cw.any mixed (fun w8 hd _ => ?_)
      refine Aw.cls (fun w' => Sl w' 2 gq (t0 :: gts').length (cellsOf (t0 :: gts'))) (fun hC => ?_) ((hgs.bs hd))
      have b_n8 := b_n.bs hd
      have b_t8 := b_t.bs hd
      have hB8 := hB4.trans (hd.mono z7)
      have ht8 := ht0.bs hd
      have hgs8 := hgs.bs hd
      have one0 : [t0.x, t0.y].all (·.oneCell') = true := by rw [List.all_cons, List.all_cons, ht0.1.one', ht0.2.one']; rfl
      refine AwC.take (i := 0) (NoP.blk (NoP.thn (NoP.blk (NoP.thn (NoP.thn (NoP.blk (NoP.thn NoP.ret))))))) rfl (by kernel_rfl) (by kernel_rfl) (by kernel_rfl) (fun w1 hc => Ex.move rfl) rfl ?_
      refine AwC.take (i := 1) (NoP.blk (NoP.thn (NoP.blk (NoP.thn (NoP.thn (NoP.blk (NoP.thn NoP.ret))))))) rfl (by kernel_rfl) (by kernel_rfl) (by kernel_rfl) (fun w1 hc => Ex.idx st_25 rfl rfl hc 0 rfl (Nat.succ_pos _)) rfl ?_
      refine AwC.take (i := 2) (NoP.blk (NoP.thn (NoP.blk (NoP.thn (NoP.thn (NoP.blk (NoP.thn NoP.ret))))))) rfl (by kernel_rfl) (by kernel_rfl) (by kernel_rfl) (fun w1 hc => Ex.ldE (cs := [t0.x, t0.y]) (ag_29 _) (sz_29 _) rfl hc rfl (by decide) (ten_cells (ts := t0 :: gts') (j := 0) (Nat.succ_pos _))) rfl ?_
      refine AwC.take (i := 3) (NoP.blk (NoP.thn (NoP.blk (NoP.thn (NoP.thn (NoP.blk (NoP.thn NoP.ret))))))) rfl (by kernel_rfl) (by kernel_rfl) (by kernel_rfl) (fun w1 hc => Ex.move rfl) rfl ?_
      refine AwC.take (i := 4) (NoP.blk (NoP.thn (NoP.blk (NoP.thn (NoP.thn (NoP.blk (NoP.thn NoP.ret))))))) rfl (by kernel_rfl) (by kernel_rfl) (by kernel_rfl) (fun w1 hc => Ex.cutLv (i := 1) st_25 rfl rfl hc.shp (Nat.succ_pos _)) rfl ?_
      refine AwC.only (by assumption) (i := 5) (by kernel_rfl) rfl ?_
      refine Lw.unit (Xu.stA (cs := [t0.x, t0.y]) (k := 2) (by kernel_rfl) rfl rfl rfl one0 b_t8 rfl) ?_
      rintro w9 ⟨b_t9, hg9, hz9⟩
      have hB9 := hB8.grown hg9 hB8.size (by rintro _ e; have := Option.some.inj e; omega)
      have hgs9 := ((hgt.bs (hB3.trans (hB9.mono z4)))).1
      have b_n9 := b_n8.by hg9 (fun e => by have := Option.some.inj e; omega)
      refine AwC.back ?_
      refine AwC.take (i := 6) (NoP.blk (NoP.thn (NoP.blk (NoP.thn (NoP.thn (NoP.blk (NoP.thn NoP.ret))))))) rfl (by kernel_rfl) (by kernel_rfl) (by kernel_rfl) (fun w1 hc => Ex.assign rfl) rfl ?_
      refine AwC.done (by assumption) (by kernel_rfl) ?_
      refine Pw.blkN ?_
      refine Pw.thenN (Cw.out ?_)
      refine Cw.seq ?_
      refine Cw.seq ?_
      refine Cw.region ?_
      refine Lw.val (Ex.ldA (ag_29 _) (sz_29 _) rfl rfl (by assumption)) rfl ?_
      refine Lw.val (Ex.fieldAddr (q := 0) Tryz.underlying45 rfl (sz_26 _) rfl) rfl ?_
      refine Lw.val (Ex.ldB (ag_26 _) rfl (by assumption) rfl) rfl ?_
      have hB4 := hB9
      have z8 := hB4.size
      have b_n := b_n9
      have b_t := b_t9
      have ht0 : t0.at w9 := (hgt.2 t0 (by simp)).bs (hB3.trans (hB9.mono z4))
      have hxz := hx.bs hB4
      have h_s := hxz.s
      refine Lw.callF rfl rfl (fits_c t0 x.y x.s w9 ht0 h_s) ?_
      rintro _ wy ⟨rfl, hny⟩
      have hB4 := hB4.trans (hny.mono z8)
      have zy := hny.size
      have b_t := b_t.bs hny
      have hBy := hB.trans (hB4.mono (by omega))
      refine Lw.val (Ex.not rfl) rfl ?_
      refine Lw.nil ?_
      refine Pw.thenN (Cw.out ?_)
      refine Cw.cond rfl ?_ ?_
      · intro gf
        have gf : fitP (pv t0) x.s = false := by
          show (tok t0.s t0.l && decide (t0.s = x.s)) = false
          cases hq : (tok t0.s t0.l && decide (t0.s = x.s)) with
          | false => rfl
          | true => rw [hq] at gf; cases gf
        refine Cw.seq ?_
        refine Cw.region ?_
        refine Lw.val (Ex.assign rfl) rfl ?_
        refine Lw.val (Ex.assign rfl) rfl ?_
        refine Lw.nil ?_
        refine Pw.thenN (Cw.out ?_)
        refine Cw.ret ?_
        refine Pw.thenR ?_
        refine Pw.blkR ?_
        refine Pw.thenR ?_
        refine Pw.thenR ?_
        refine Pw.blkR ?_
        refine Pw.thenR ?_
        refine Pw.ret2 rfl rfl rfl ?_
        have hN : R = none := by rw [hrec, gf]; rfl
        rw [hN]
        exact ⟨hBy, rfl⟩
      intro gf
      have gf : fitP (pv t0) x.s = true := by
        show (tok t0.s t0.l && decide (t0.s = x.s)) = true
        cases hq : (tok t0.s t0.l && decide (t0.s = x.s)) with
        | true => rfl
        | false => rw [hq] at gf; cases gf
      rw [gf, if_pos rfl] at hrec
      have ktok : tok t0.s t0.l = true := by unfold fitP at gf; rw [Bool.and_eq_true] at gf; exact gf.1
      obtain ⟨kok, klen⟩ := tok_ok ktok
      have ksz := Shapes.size_le t0.s
      refine Cw.skip ?_
      refine Pw.thenN (Cw.out ?_)
      refine Cw.region ?_
      refine Lw.val (Ex.move rfl) rfl ?_
      refine Lw.val (Ex.ldA (ag_29 _) (sz_29 _) rfl rfl (by assumption)) rfl ?_
      refine Lw.callF rfl rfl (twin_c t0 wy (ht0.bs hny) (by have := (ok_len kok).2; omega) (by omega)) ?_
      rintro _ wx ⟨hnx, cx, cy, rfl, hM⟩
      have zx := hnx.size
      have hB4 := hB4.trans (hnx.mono (by omega))
      have c1 : [cx, cy].all (·.oneCell') = true := by rw [List.all_cons, List.all_cons, hM.row.slT.one', hM.col.slT.one']; rfl
      obtain ⟨c, hc⟩ : ∃ c : T4, c = ⟨cx, cy, t0.s, t0.l⟩ := ⟨_, rfl⟩
      have cpv : pv c = pv t0 := by rw [hc]; rfl
      have cmk : MadeK W wx c.x c.y c.s c.l := by rw [hc]; exact hM.mono (by omega)
      have cc : [cx, cy] = [c.x, c.y] := by rw [hc]
      refine Lw.valW (Xw.litA1 (cs := [cx, cy]) st_25 it_29 rfl rfl (by decide) (by decide)) rfl ?_
      rintro q wv ⟨o_q, -, hnv, -⟩
      rw [cc] at o_q
      have zv := hnv.size
      have hB4 := hB4.trans (hnv.mono (by omega))
      have o_l := own_bs o_l hB4
      have hoff := hoff.bs hB4
      have c1' : [c.x, c.y].all (·.oneCell') = true := by rw [← cc]; exact c1
      refine Lw.valW (Xw.append2 (base := w3.heap.size) st_25 it_29 rfl (by decide) rfl rfl o_l (own_sl o_q) c1' (by omega) (by omega) (by omega)) rfl ?_
      rintro l' wu ⟨o_l', hnu, hgu, -⟩
      have e1 : cellsOf ts ++ [c.x, c.y] = cellsOf (ts ++ [c]) := by rw [cellsOf_app]; rfl
      have hoff2 : madeA W wv (ts ++ [c]) := hoff.snoc (cmk.bs hnv)
      have hoff3 := hoff2.ty hgu (fun b e => own_ty o_l e) (by decide) (by decide)
      have e2 : ts.length + 1 = (ts ++ [c]).length := by rw [List.length_append]; rfl
      rw [e1, e2] at o_l'
      have hB3' := (hB3.trans (hB4.mono z4)).trans hnu
      have epv : (ts ++ [c]).map pv = ts.map pv ++ [pv c] := by rw [List.map_append]; rfl
      refine Lw.val (Ex.assign rfl) rfl ?_
      refine Lw.nil ?_
      refine Pw.blkN ?_
      refine Pw.thenN (Cw.out ?_)
      refine Cw.region ?_
      refine Lw.val (Ex.addI rfl rfl (by omega)) rfl ?_
      refine Lw.val (Ex.move rfl) rfl ?_
      refine Lw.nil ?_
      exact Pw.thenN (Pw.next ((i + 1, cut gq 2 1 (gts'.length + 1), gts', wq, wts, l', ts ++ [c])) ⟨rfl, rfl, rfl, rfl, rfl, rfl, rfl, trivial⟩ (⟨hi', hB3', hgt.tail, hwt, (show gts'.length = inputs (ls.drop (i + 1)) by omega), (show wts.length = wtsN (ls.drop (i + 1)) by omega), o_l', hoff3, by rw [List.length_append, lts]; rfl, by simp only; rw [epv, cpv]; exact hrec.symm⟩) (by simp only; omega))
    intro g1
    have g1 : ¬ x.k = 1#8 := of_decide_eq_false g1
    rw [if_neg g1] at lg2
    refine Cw.seq ?_
    refine Cw.region ?_
    refine Lw.val (Ex.fieldAddr (q := 0) Tryz.underlying45 rfl (sz_43 _) rfl) rfl ?_
    refine Lw.val (Ex.ldB (ag_43 _) rfl (by assumption) rfl) rfl ?_
    refine Lw.val (Ex.eql8 rfl (show _ = some (b8 (2#8)) from rfl)) rfl ?_
    refine Lw.val (Ex.assign rfl) rfl ?_
    refine Lw.nil ?_
    refine Pw.thenN (Cw.out ?_)
    refine Cw.cond rfl ?_ ?_
    · intro g2
      have g2 : x.k = 2#8 := of_decide_eq_true g2
      rw [if_pos g2] at lw2
      obtain ⟨t0, wts', rfl⟩ : ∃ t0 wts', wts = t0 :: wts' := by
        cases wts with
        | nil => simp at lw2; omega
        | cons t0 wts' => exact ⟨t0, wts', rfl⟩
      have hrec : R = if fitP (pv t0) x.s = true then allR (ts.map pv ++ [pv t0]) (gts.map pv) (wts'.map pv) (ls.drop (i + 1)) else none := by rw [← hrec, List.map_cons]; simp only [allR]; rw [if_neg g1, if_pos g2]
      have hws := (hwt.bs (hB.trans (hB4.mono (by omega)))).1
      have ht0 := ((hwt.2 t0 (by simp)).bs (hB.trans (hB4.mono (by omega))))
      simp only [List.length_cons] at lw2
      refine Cw.any mixed (fun w8 hd _ => ?_)
      refine Aw.cls (fun w' => Sl w' 2 wq (t0 :: wts').length (cellsOf (t0 :: wts'))) (fun hC => ?_) ((hws.bs hd))
      have b_n8 := b_n.bs hd
      have b_t8 := b_t.bs hd
      have hB8 := hB4.trans (hd.mono z7)
      have ht8 := ht0.bs hd
      have hws8 := hws.bs hd
      have one0 : [t0.x, t0.y].all (·.oneCell') = true := by rw [List.all_cons, List.all_cons, ht0.1.one', ht0.2.one']; rfl
      refine AwC.take (i := 0) (NoP.blk (NoP.thn (NoP.blk (NoP.thn (NoP.thn (NoP.blk (NoP.thn NoP.ret))))))) rfl (by kernel_rfl) (by kernel_rfl) (by kernel_rfl) (fun w1 hc => Ex.move rfl) rfl ?_
      refine AwC.take (i := 1) (NoP.blk (NoP.thn (NoP.blk (NoP.thn (NoP.thn (NoP.blk (NoP.thn NoP.ret))))))) rfl (by kernel_rfl) (by kernel_rfl) (by kernel_rfl) (fun w1 hc => Ex.idx st_25 rfl rfl hc 0 rfl (Nat.succ_pos _)) rfl ?_
      refine AwC.take (i := 2) (NoP.blk (NoP.thn (NoP.blk (NoP.thn (NoP.thn (NoP.blk (NoP.thn NoP.ret))))))) rfl (by kernel_rfl) (by kernel_rfl) (by kernel_rfl) (fun w1 hc => Ex.ldE (cs := [t0.x, t0.y]) (ag_29 _) (sz_29 _) rfl hc rfl (by decide) (ten_cells (ts := t0 :: wts') (j := 0) (Nat.succ_pos _))) rfl ?_
      refine AwC.take (i := 3) (NoP.blk (NoP.thn (NoP.blk (NoP.thn (NoP.thn (NoP.blk (NoP.thn NoP.ret))))))) rfl (by kernel_rfl) (by kernel_rfl) (by kernel_rfl) (fun w1 hc => Ex.move rfl) rfl ?_
      refine AwC.take (i := 4) (NoP.blk (NoP.thn (NoP.blk (NoP.thn (NoP.thn (NoP.blk (NoP.thn NoP.ret))))))) rfl (by kernel_rfl) (by kernel_rfl) (by kernel_rfl) (fun w1 hc => Ex.cutLv (i := 1) st_25 rfl rfl hc.shp (Nat.succ_pos _)) rfl ?_
      refine AwC.only (by assumption) (i := 5) (by kernel_rfl) rfl ?_
      refine Lw.unit (Xu.stA (cs := [t0.x, t0.y]) (k := 2) (by kernel_rfl) rfl rfl rfl one0 b_t8 rfl) ?_
      rintro w9 ⟨b_t9, hg9, hz9⟩
      have hB9 := hB8.grown hg9 hB8.size (by rintro _ e; have := Option.some.inj e; omega)
      have hws9 := ((hwt.bs (hB.trans (hB9.mono (by omega))))).1
      have b_n9 := b_n8.by hg9 (fun e => by have := Option.some.inj e; omega)
      refine AwC.back ?_
      refine AwC.take (i := 6) (NoP.blk (NoP.thn (NoP.blk (NoP.thn (NoP.thn (NoP.blk (NoP.thn NoP.ret))))))) rfl (by kernel_rfl) (by kernel_rfl) (by kernel_rfl) (fun w1 hc => Ex.assign rfl) rfl ?_
      refine AwC.done (by assumption) (by kernel_rfl) ?_
      refine Pw.blkN ?_
      refine Pw.thenN (Cw.out ?_)
      refine Cw.seq ?_
      refine Cw.seq ?_
      refine Cw.region ?_
      refine Lw.val (Ex.ldA (ag_29 _) (sz_29 _) rfl rfl (by assumption)) rfl ?_
      refine Lw.val (Ex.fieldAddr (q := 0) Tryz.underlying45 rfl (sz_26 _) rfl) rfl ?_
      refine Lw.val (Ex.ldB (ag_26 _) rfl (by assumption) rfl) rfl ?_
      have hB4 := hB9
      have z8 := hB4.size
      have b_n := b_n9
      have b_t := b_t9
      have ht0 : t0.at w9 := (hwt.2 t0 (by simp)).bs (hB.trans (hB9.mono (by omega)))
      have hxz := hx.bs hB4
      have h_s := hxz.s
      refine Lw.callF rfl rfl (fits_c t0 x.y x.s w9 ht0 h_s) ?_
      rintro _ wy ⟨rfl, hny⟩
      have hB4 := hB4.trans (hny.mono z8)
      have zy := hny.size
      have b_t := b_t.bs hny
      have hBy := hB.trans (hB4.mono (by omega))
      refine Lw.val (Ex.not rfl) rfl ?_
      refine Lw.nil ?_
      refine Pw.thenN (Cw.out ?_)
      refine Cw.cond rfl ?_ ?_
      · intro gf
        have gf : fitP (pv t0) x.s = false := by
          show (tok t0.s t0.l && decide (t0.s = x.s)) = false
          cases hq : (tok t0.s t0.l && decide (t0.s = x.s)) with
          | false => rfl
          | true => rw [hq] at gf; cases gf
        refine Cw.seq ?_
        refine Cw.region ?_
        refine Lw.val (Ex.assign rfl) rfl ?_
        refine Lw.val (Ex.assign rfl) rfl ?_
        refine Lw.nil ?_
        refine Pw.thenN (Cw.out ?_)
        refine Cw.ret ?_
        refine Pw.thenR ?_
        refine Pw.blkR ?_
        refine Pw.thenR ?_
        refine Pw.thenR ?_
        refine Pw.blkR ?_
        refine Pw.thenR ?_
        refine Pw.ret2 rfl rfl rfl ?_
        have hN : R = none := by rw [hrec, gf]; rfl
        rw [hN]
        exact ⟨hBy, rfl⟩
      intro gf
      have gf : fitP (pv t0) x.s = true := by
        show (tok t0.s t0.l && decide (t0.s = x.s)) = true
        cases hq : (tok t0.s t0.l && decide (t0.s = x.s)) with
        | true => rfl
        | false => rw [hq] at gf; cases gf
      rw [gf, if_pos rfl] at hrec
      have ktok : tok t0.s t0.l = true := by unfold fitP at gf; rw [Bool.and_eq_true] at gf; exact gf.1
      obtain ⟨kok, klen⟩ := tok_ok ktok
      have ksz := Shapes.size_le t0.s
      refine Cw.skip ?_
      refine Pw.thenN (Cw.out ?_)
      refine Cw.region ?_
      refine Lw.val (Ex.move rfl) rfl ?_
      refine Lw.val (Ex.ldA (ag_29 _) (sz_29 _) rfl rfl (by assumption)) rfl ?_
      refine Lw.callF rfl rfl (twin_c t0 wy (ht0.bs hny) (by have := (ok_len kok).2; omega) (by omega)) ?_
      rintro _ wx ⟨hnx, cx, cy, rfl, hM⟩
      have zx := hnx.size
      have hB4 := hB4.trans (hnx.mono (by omega))
      have c1 : [cx, cy].all (·.oneCell') = true := by rw [List.all_cons, List.all_cons, hM.row.slT.one', hM.col.slT.one']; rfl
      obtain ⟨c, hc⟩ : ∃ c : T4, c = ⟨cx, cy, t0.s, t0.l⟩ := ⟨_, rfl⟩
      have cpv : pv c = pv t0 := by rw [hc]; rfl
      have cmk : MadeK W wx c.x c.y c.s c.l := by rw [hc]; exact hM.mono (by omega)
      have cc : [cx, cy] = [c.x, c.y] := by rw [hc]
      refine Lw.valW (Xw.litA1 (cs := [cx, cy]) st_25 it_29 rfl rfl (by decide) (by decide)) rfl ?_
      rintro q wv ⟨o_q, -, hnv, -⟩
      rw [cc] at o_q
      have zv := hnv.size
      have hB4 := hB4.trans (hnv.mono (by omega))
      have o_l := own_bs o_l hB4
      have hoff := hoff.bs hB4
      have c1' : [c.x, c.y].all (·.oneCell') = true := by rw [← cc]; exact c1
      refine Lw.valW (Xw.append2 (base := w3.heap.size) st_25 it_29 rfl (by decide) rfl rfl o_l (own_sl o_q) c1' (by omega) (by omega) (by omega)) rfl ?_
      rintro l' wu ⟨o_l', hnu, hgu, -⟩
      have e1 : cellsOf ts ++ [c.x, c.y] = cellsOf (ts ++ [c]) := by rw [cellsOf_app]; rfl
      have hoff2 : madeA W wv (ts ++ [c]) := hoff.snoc (cmk.bs hnv)
      have hoff3 := hoff2.ty hgu (fun b e => own_ty o_l e) (by decide) (by decide)
      have e2 : ts.length + 1 = (ts ++ [c]).length := by rw [List.length_append]; rfl
      rw [e1, e2] at o_l'
      have hB3' := (hB3.trans (hB4.mono z4)).trans hnu
      have epv : (ts ++ [c]).map pv = ts.map pv ++ [pv c] := by rw [List.map_append]; rfl
      refine Lw.val (Ex.assign rfl) rfl ?_
      refine Lw.nil ?_
      refine Pw.blkN ?_
      refine Pw.thenN (Cw.out ?_)
      refine Cw.region ?_
      refine Lw.val (Ex.addI rfl rfl (by omega)) rfl ?_
      refine Lw.val (Ex.move rfl) rfl ?_
      refine Lw.nil ?_
      exact Pw.thenN (Pw.next ((i + 1, gq, gts, cut wq 2 1 (wts'.length + 1), wts', l', ts ++ [c])) ⟨rfl, rfl, rfl, rfl, rfl, rfl, rfl, trivial⟩ (⟨hi', hB3', hgt, hwt.tail, (show gts.length = inputs (ls.drop (i + 1)) by omega), (show wts'.length = wtsN (ls.drop (i + 1)) by omega), o_l', hoff3, by rw [List.length_append, lts]; rfl, by simp only; rw [epv, cpv]; exact hrec.symm⟩) (by simp only; omega))
    intro g2
    have g2 : ¬ x.k = 2#8 := of_decide_eq_false g2
    rw [if_neg g2] at lw2
    obtain ⟨ins, hins⟩ : ∃ ins : List T4, ins = x.i.map fun j => ts.getD j.toNat default := ⟨_, rfl⟩
    have lins : ins.length = x.i.length := by rw [hins, List.length_map]
    have hnorm : ins.map norm = insP (ts.map pv) x := by
      rw [hins, List.map_map]
      unfold insP
      refine List.map_congr_left fun j hj => ?_
      have hb := hji j hj
      simp only [List.length_nil, Nat.zero_add] at hb
      show norm (ts.getD j.toNat default) = _
      unfold norm
      congr 1
      rw [List.getD_eq_getElem?_getD, List.getD_eq_getElem?_getD, List.getElem?_map, List.getElem?_eq_getElem (by omega)]; rfl
    obtain ⟨dn1, dn2⟩ := do_norm x ins
    rw [hnorm] at dn1 dn2
    have hrec : R = if doE x (insP (ts.map pv) x) = 0 then allR (ts.map pv ++ [(actS x.k x (insP (ts.map pv) x), actL x.k x (insP (ts.map pv) x))]) (gts.map pv) (wts.map pv) (ls.drop (i + 1)) else none := by rw [← hrec]; simp only [allR]; rw [if_neg g1, if_neg g2]
    have hx7 := hx.bs hB4
    have h_i := hx7.i
    have hi4 := kindF_len (gshR_all ls [] ss hgR x (hxd ▸ List.getElem_mem hi'))
    refine Cw.seq ?_
    refine Cw.region ?_
    refine Lw.val (Ex.assign rfl) rfl ?_
    refine Lw.nil ?_
    refine Pw.thenN (Cw.out ?_)
    refine Cw.seq ?_
    refine Cw.seq ?_
    refine Cw.region ?_
    refine Lw.val (Ex.fieldAddr (q := 0) Tryz.underlying45 rfl (sz_26 _) rfl) rfl ?_
    refine Lw.val (Ex.ldB (ag_26 _) rfl (by assumption) rfl) rfl ?_
    refine Lw.val (Ex.lenS st_26 rfl (by assumption)) rfl ?_
    refine Lw.val (Ex.move rfl) rfl ?_
    refine Lw.nil ?_
    refine Pw.thenN (Cw.out ?_)
    refine Cw.block ?_
    refine Cw.loop (S := (Nat × Value)) (fun y => [(6, l), (7, .int .i64 0), (8, gq), (9, wq), (11, .pointer (some ⟨A_n, 0, none⟩)), (12, .pointer (some ⟨A_t, 0, none⟩)), (13, y.2), (31, v), (32, .int .i64 (ls.length : Int)), (33, .int .i64 (i : Int)), (38, x.x), (39, .int .i64 (x.i.length : Int)), (40, .int .i64 (y.1 : Int))]) (fun y w' => y.1 ≤ x.i.length ∧ Below w4.heap.size w4 w' ∧ w7.heap.size ≤ w'.heap.size ∧ Blk w' A_n 45 x.cells ∧ Blk w' A_t tenT [.slice none 0 0, .slice none 0 0] ∧ w'.ownsRow w7.heap.size tenT 2 y.2 y.1 (cellsOf (ins.take y.1))) (fun y => x.i.length - y.1) ((0, .slice none 0 0)) ⟨rfl, rfl, rfl, rfl, rfl, rfl, rfl, rfl, rfl, rfl, rfl, rfl, rfl, trivial⟩ ?_ ?_
    · exact ⟨Nat.zero_le _, hB4, Nat.le_refl _, b_n, b_t, ⟨rfl, .inl ⟨rfl, rfl⟩⟩⟩
    clear b_n b_t h_i hx7
    rintro ⟨j, iq⟩ w8 ⟨hj, hB4, z78, b_n, b_t, o_q⟩
    dsimp only at hj hB4 z78 b_n b_t o_q ⊢
    have h_i := (hx.bs hB4).i
    have o_l8 := own_bs o_l hB4
    have sl_l8 := own_sl o_l8
    have z8 := hB4.size
    refine Cw.seq ?_
    refine Cw.region ?_
    refine Lw.val (Ex.lss rfl rfl) rfl ?_
    refine Lw.nil ?_
    refine Pw.thenN (Cw.out ?_)
    refine Cw.seq ?_
    refine Cw.cond rfl ?_ ?_
    · intro gj
      have hj' : j < x.i.length := by have := of_decide_eq_true gj; omega
      obtain ⟨k, hk⟩ : ∃ k, k = x.i.getD j default := ⟨_, rfl⟩
      have hkm : k ∈ x.i := by rw [hk]; exact getD_mem hj'
      have hkb := hji k hkm
      simp only [List.length_nil, Nat.zero_add] at hkb
      have hkl : k.toNat < ts.length := by omega
      obtain ⟨q, hq⟩ : ∃ q, q = ts[k.toNat] := ⟨_, rfl⟩
      have hqm : q ∈ ts := by rw [hq]; exact List.getElem_mem hkl
      have hqat := ((hoff.bs hB4) q hqm).at
      have hqc := ten_cells hkl
      rw [← hq] at hqc
      have einq : ins[j]'(by omega) = q := by
        simp only [hins, List.getElem_map]
        have ek : x.i[j] = k := by rw [hk, List.getD_eq_getElem?_getD, List.getElem?_eq_getElem hj']; rfl
        rw [ek, hq, List.getD_eq_getElem?_getD, List.getElem?_eq_getElem hkl]; rfl
      have one1 : [q.x, q.y].all (·.oneCell') = true := by rw [List.all_cons, List.all_cons, hqat.1.one', hqat.2.one']; rfl
      refine Cw.skip ?_
      refine Pw.thenN (Cw.out ?_)
      refine Cw.seq ?_
      refine Cw.block ?_
      refine Cw.seq ?_
      refine Cw.region ?_
      refine Lw.val (Ex.idxT st_26 rfl rfl (by assumption) _ rfl (by omega)) rfl ?_
      refine Lw.val (Ex.as (Ex.ldT (ag_3 _) rfl h_i hj') (congrArg (Value.int .i64) hk.symm)) rfl ?_
      refine Lw.val (Ex.assign rfl) rfl ?_
      refine Lw.nil ?_
      refine Pw.thenN (Cw.out ?_)
      refine Cw.region ?_
      refine Lw.val (Ex.move rfl) rfl ?_
      refine Lw.val (Ex.move rfl) rfl ?_
      refine Lw.val (Ex.move rfl) rfl ?_
      refine Lw.val (Ex.idx st_25 rfl rfl sl_l8 k.toNat (show k = ((k.toNat : Nat) : Int) by omega) hkl) rfl ?_
      refine Lw.val (Ex.ldE (cs := [q.x, q.y]) (ag_29 _) (sz_29 _) rfl sl_l8 rfl (by decide) hqc) rfl ?_
      refine Lw.valW (Xw.litA1 (cs := [q.x, q.y]) st_25 it_29 rfl rfl (by decide) (by decide)) rfl ?_
      rintro lq w9 ⟨o_lq, -, hn9, -⟩
      have o_q := own_bs o_q hn9
      have z9 := hn9.size
      refine Lw.valW (Xw.append2 (base := w7.heap.size) st_25 it_29 rfl (by decide) rfl rfl o_q (own_sl o_lq) one1 (by omega) (by omega) (by omega)) rfl ?_
      rintro iq' w10 ⟨o_q', hn10, -, -⟩
      have e1 : cellsOf (ins.take j) ++ [q.x, q.y] = cellsOf (ins.take (j + 1)) := by
        rw [List.take_succ_eq_append_getElem (by omega), cellsOf_app, einq]; rfl
      rw [e1] at o_q'
      have b_n := (b_n.bs hn9).bl hn10 (by omega)
      have b_t := (b_t.bs hn9).bl hn10 (by omega)
      refine Lw.val (Ex.assign rfl) rfl ?_
      refine Lw.nil ?_
      refine Pw.blkN ?_
      refine Pw.thenN (Cw.out ?_)
      refine Cw.region ?_
      refine Lw.val (Ex.addI rfl rfl (by omega)) rfl ?_
      refine Lw.val (Ex.move rfl) rfl ?_
      refine Lw.nil ?_
      exact Pw.thenN (Pw.next ((j + 1, iq')) ⟨rfl, rfl, rfl, rfl, rfl, rfl, rfl, rfl, rfl, rfl, rfl, rfl, rfl, trivial⟩ (⟨hj', (hB4.trans (hn9.mono z8)).trans (hn10.mono z7), by have := hn10.size; omega, b_n, b_t, o_q'⟩) (by simp only; omega))
    intro gj
    have hj' : j = x.i.length := by have := of_decide_eq_false gj; omega
    subst hj'
    rw [← lins, List.take_length] at o_q
    have hT : Tens w8 iq ins := ⟨own_sl o_q, fun q hq => by
      rw [hins] at hq
      obtain ⟨k, hk, rfl⟩ := List.mem_map.1 hq
      have hkb := hji k hk
      simp only [List.length_nil, Nat.zero_add] at hkb
      have hkl : k.toNat < ts.length := by omega
      have e : ts.getD k.toNat default = ts[k.toNat] := by rw [List.getD_eq_getElem?_getD, List.getElem?_eq_getElem hkl]; rfl
      rw [e]
      exact ((hoff.bs hB4) _ (List.getElem_mem hkl)).at⟩
    refine Cw.exit ?_
    refine Pw.thenE ?_
    refine Pw.thenE ?_
    refine Pw.blkHit ?_
    refine Pw.thenN (Cw.out ?_)
    refine Cw.seq ?_
    refine Cw.seq ?_
    refine Cw.region ?_
    refine Lw.val (Ex.ldA (ag_45 _) (sz_45 _) rfl rfl (by assumption)) rfl ?_
    refine Lw.val (Ex.move rfl) rfl ?_
    refine Lw.callF rfl rfl (do_c x iq ins w8 (hx.bs hB4) hT) ?_
    rintro _ w9 ⟨hn9, c, rfl, hcat, hcno, hcyes⟩
    have z9 := hn9.size
    have hB4 := hB4.trans (hn9.mono z8)
    have b_n := b_n.bs hn9
    have b_t := b_t.bs hn9
    have c1 : [c.x, c.y].all (·.oneCell') = true := by rw [List.all_cons, List.all_cons, hcat.1.one', hcat.2.one']; rfl
    have b_t9 := b_t
    refine Lw.val (Ex.move rfl) rfl ?_
    refine Lw.val (Ex.extract (i := 0) rfl rfl) rfl ?_
    refine Lw.val (Ex.extract (i := 1) rfl rfl) rfl ?_
    refine Lw.unit (Xu.stA (cs := [c.x, c.y]) (k := 2) (by kernel_rfl) rfl rfl rfl c1 b_t rfl) ?_
    rintro w10 ⟨b_t, hg10, hz10⟩
    have hB4 := hB4.grown hg10 hB4.size (by rintro _ e; have := Option.some.inj e; omega)
    have hB10 := hB.trans (hB4.mono (by omega))
    refine Lw.val (Ex.assign rfl) rfl ?_
    refine Lw.nil ?_
    refine Pw.thenN (Cw.out ?_)
    refine Cw.seq ?_
    refine Cw.region ?_
    refine Lw.val (Ex.move rfl) rfl ?_
    refine Lw.val (Ex.neq rfl rfl) rfl ?_
    refine Lw.nil ?_
    refine Pw.thenN (Cw.out ?_)
    refine Cw.cond rfl ?_ ?_
    · intro ge
      have ge : ¬ doE x ins = 0 := by simpa using ge
      refine Cw.seq ?_
      refine Cw.region ?_
      refine Lw.val (Ex.assign rfl) rfl ?_
      refine Lw.val (Ex.assign rfl) rfl ?_
      refine Lw.nil ?_
      refine Pw.thenN (Cw.out ?_)
      refine Cw.ret ?_
      refine Pw.thenR ?_
      refine Pw.blkR ?_
      refine Pw.thenR ?_
      refine Pw.blkR ?_
      refine Pw.thenR ?_
      refine Pw.thenR ?_
      refine Pw.blkR ?_
      refine Pw.thenR ?_
      refine Pw.ret2 rfl rfl rfl ?_
      have hN : R = none := by rw [hrec, if_neg (by rw [dn1]; exact ge)]
      rw [hN]
      exact ⟨hB10, rfl⟩
    intro ge
    have ge : doE x ins = 0 := by simpa using ge
    obtain ⟨cs1, cl1, hM⟩ := hcyes ge
    rw [if_pos (by rw [dn1]; exact ge)] at hrec
    obtain ⟨es1, el1⟩ := dn2 ge
    have cpv : pv c = (actS x.k x (insP (ts.map pv) x), actL x.k x (insP (ts.map pv) x)) := by rw [es1, el1]; unfold pv; rw [cs1, cl1]
    rw [← cpv] at hrec
    have cmk : MadeK W w10 c.x c.y c.s c.l := by
      rw [cs1, cl1]
      have hm : MadeK W w9 c.x c.y (actS x.k x ins) (actL x.k x ins) := hM.mono (by omega)
      exact hm.ty hg10 (fun b e => by cases e; exact ⟨_, b_t9⟩) (by decide) (by decide)
    obtain ⟨cx, hcx⟩ : ∃ cx, cx = c.x := ⟨_, rfl⟩
    obtain ⟨cy, hcy⟩ : ∃ cy, cy = c.y := ⟨_, rfl⟩
    have cc : [cx, cy] = [c.x, c.y] := by rw [hcx, hcy]
    rw [← cc] at c1 b_t
    refine Cw.skip ?_
    refine Pw.thenN (Cw.out ?_)
    refine Cw.seq ?_
    refine Cw.region ?_
    refine Lw.val (Ex.move rfl) rfl ?_
    refine Lw.val (Ex.ldA (ag_29 _) (sz_29 _) rfl rfl (by assumption)) rfl ?_
    refine Lw.valW (Xw.litA1 (cs := [cx, cy]) st_25 it_29 rfl rfl (by decide) (by decide)) rfl ?_
    rintro q wv ⟨o_q, -, hnv, -⟩
    rw [cc] at o_q
    have zv := hnv.size
    have hB4 := hB4.trans (hnv.mono (by omega))
    have o_l := own_bs o_l hB4
    have hoff := hoff.bs hB4
    have c1' : [c.x, c.y].all (·.oneCell') = true := by rw [← cc]; exact c1
    refine Lw.valW (Xw.append2 (base := w3.heap.size) st_25 it_29 rfl (by decide) rfl rfl o_l (own_sl o_q) c1' (by omega) (by omega) (by omega)) rfl ?_
    rintro l' wu ⟨o_l', hnu, hgu, -⟩
    have e1 : cellsOf ts ++ [c.x, c.y] = cellsOf (ts ++ [c]) := by rw [cellsOf_app]; rfl
    have hoff2 : madeA W wv (ts ++ [c]) := hoff.snoc (cmk.bs hnv)
    have hoff3 := hoff2.ty hgu (fun b e => own_ty o_l e) (by decide) (by decide)
    have e2 : ts.length + 1 = (ts ++ [c]).length := by rw [List.length_append]; rfl
    rw [e1, e2] at o_l'
    have hB3' := (hB3.trans (hB4.mono z4)).trans hnu
    have epv : (ts ++ [c]).map pv = ts.map pv ++ [pv c] := by rw [List.map_append]; rfl
    refine Lw.val (Ex.assign rfl) rfl ?_
    refine Lw.nil ?_
    refine Pw.thenN (Cw.out ?_)
    refine Cw.exit ?_
    refine Pw.blkE rfl ?_
    refine Pw.thenE ?_
    refine Pw.blkHit ?_
    refine Pw.thenN (Cw.out ?_)
    refine Cw.region ?_
    refine Lw.val (Ex.addI rfl rfl (by omega)) rfl ?_
    refine Lw.val (Ex.move rfl) rfl ?_
    refine Lw.nil ?_
    exact Pw.thenN (Pw.next ((i + 1, gq, gts, wq, wts, l', ts ++ [c])) ⟨rfl, (congrArg (fun z => some (Value.int .i64 z)) ge), rfl, rfl, rfl, rfl, rfl, trivial⟩ (⟨hi', hB3', hgt, hwt, (show gts.length = inputs (ls.drop (i + 1)) by omega), (show wts.length = wtsN (ls.drop (i + 1)) by omega), o_l', hoff3, by rw [List.length_append, lts]; rfl, by simp only; rw [epv]; exact hrec.symm⟩) (by simp only; omega))
  intro gi
  have hi' : i = ls.length := by have := of_decide_eq_false gi; omega
  subst hi'
  rw [List.drop_length] at hrec
  have hR2 : R = some (ts.map pv) := by rw [← hrec]; rfl
  refine Cw.exit ?_
  refine Pw.thenE ?_
  refine Pw.thenE ?_
  refine Pw.blkHit ?_
  refine Pw.thenN (Cw.out ?_)
  refine Cw.seq ?_
  refine Cw.region ?_
  refine Lw.val (Ex.move rfl) rfl ?_
  refine Lw.callF rfl rfl (clipTs_c l ts w4 (own_sl o_l)) ?_
  rintro _ w5 ⟨rfl, hn5⟩
  refine Lw.val (Ex.assign rfl) rfl ?_
  refine Lw.val (Ex.assign rfl) rfl ?_
  refine Lw.nil ?_
  refine Pw.thenN (Cw.out ?_)
  refine Cw.ret ?_
  refine Pw.ret2 rfl rfl rfl ?_
  rw [hR2]
  exact ⟨hB.trans (hn5.mono (by omega)), _, ts, rfl, ⟨(Sl.clip (own_sl o_l)).bs hn5, fun q hq => (hoff q hq).at.bs hn5⟩, hoff.bs hn5, rfl⟩
theorem allR_len : ∀ (l : List N5) (acc gv ws vs : List PV), allR acc gv ws l = some vs → vs.length = acc.length + l.length
  | [], acc, gv, ws, vs, h => by cases h; simp
  | x :: l, acc, gv, ws, vs, h => by
    unfold allR at h
    split at h
    · split at h
      · split at h
        · have := allR_len l _ _ _ _ h; simp only [List.length_append, List.length_cons, List.length_nil] at this ⊢; omega
        · cases h
      · cases h
    · split at h
      · split at h
        · split at h
          · have := allR_len l _ _ _ _ h; simp only [List.length_append, List.length_cons, List.length_nil] at this ⊢; omega
          · cases h
        · cases h
      · split at h
        · have := allR_len l _ _ _ _ h; simp only [List.length_append, List.length_cons, List.length_nil] at this ⊢; omega
        · cases h
theorem allG_some {ls : List N5} {ws vs : List PV} {t : PV} (h : allG ls ws t = some vs) : (∃ ss, gsh ls = some ss) ∧ ws.length = wtsN ls ∧ allR [] [t] ws ls = some vs ∧ vs.length = ls.length := by
  unfold allG at h
  split at h
  · rename_i hc
    simp only [Bool.and_eq_true, decide_eq_true_eq] at hc
    refine ⟨Option.isSome_iff_exists.1 hc.1, hc.2, h, ?_⟩
    have := allR_len _ _ _ _ _ h
    simpa using this
  · cases h
def lastV (vs : List PV) : PV := vs.getD (vs.length - 1) ([], [])
theorem run_c (v : Value) (ls : List N5) (u : Value) (ws : List T4) (t : T4) (W : World) (h : GN W v ls) (hw : Tens W u ws) (ht : t.at W) :
    Fnc Tryz.prog 11 [.agg [v].toArray, u, t.v] W (fun r w' => Below W.heap.size W w' ∧ match allG ls (ws.map pv) (pv t) with
      | none => r = .tuple #[.agg #[.slice none 0 0, .slice none 0 0], .int .i64 1]
      | some vs => ∃ c : T4, r = .tuple #[c.v, .int .i64 0] ∧ MadeK W w' c.x c.y c.s c.l ∧ pv c = lastV vs) := by
  have hB := Below.refl W.heap.size W
  obtain ⟨R, hR⟩ : ∃ R, R = allG ls (ws.map pv) (pv t) := ⟨_, rfl⟩
  rw [← hR]
  refine Fnc.enter (n := 27) Tryz.func11 (by kernel_rfl) rfl rfl rfl ?_
  refine Cw.seq ?_
  refine Cw.region ?_
  refine Lw.boxV (cs := [v]) rfl rfl rfl ?_
  rintro A_g w eA_g b_g hn -
  replace hB := hB.bs hn
  clear hn
  have yg := blk_lt b_g
  refine Lw.boxV (cs := [t.x, t.y]) rfl rfl rfl ?_
  rintro A_in w eA_in b_in hn -
  replace hB := hB.bs hn
  replace b_g := b_g.bs hn
  clear hn
  have yi := blk_lt b_in
  refine Lw.newA it_29 rfl ?_
  rintro A_r w eA_r b_r hn -
  replace hB := hB.bs hn
  replace b_g := b_g.bs hn
  replace b_in := b_in.bs hn
  clear hn
  refine Lw.val (Ex.assign rfl) rfl ?_
  refine Lw.nil ?_
  refine Pw.thenN (Cw.out ?_)
  refine Cw.seq ?_
  refine Cw.region ?_
  refine Lw.val (Ex.ldA (ag_24 _) (sz_24 _) rfl rfl (by assumption)) rfl ?_
  refine Lw.val (Ex.move rfl) rfl ?_
  refine Lw.val (Ex.ldA (ag_29 _) (sz_29 _) rfl rfl (by assumption)) rfl ?_
  have z0 := below_size hB
  have yr := blk_lt b_r
  refine Lw.callF rfl rfl (all_c v ls u ws t w (h.bs hB) (hw.bs hB) (ht.bs hB)) ?_
  rintro r w1 ⟨hn1, hr⟩
  rw [← hR] at hr
  have b_r := b_r.bs hn1
  have z1 := hn1.size
  have hB1 := hB.trans (hn1.mono z0)
  cases eR : R with
  | none =>
    rw [eR] at hr
    obtain rfl := hr
    refine Lw.val (Ex.move rfl) rfl ?_
    refine Lw.val (Ex.extract (i := 0) rfl rfl) rfl ?_
    refine Lw.val (Ex.extract (i := 1) rfl rfl) rfl ?_
    refine Lw.val (Ex.assign rfl) rfl ?_
    refine Lw.val (Ex.assign rfl) rfl ?_
    refine Lw.nil ?_
    refine Pw.thenN (Cw.out ?_)
    refine Cw.seq ?_
    refine Cw.seq ?_
    refine Cw.region ?_
    refine Lw.val (Ex.move rfl) rfl ?_
    refine Lw.val (Ex.neq rfl rfl) rfl ?_
    refine Lw.nil ?_
    refine Pw.thenN (Cw.out ?_)
    refine Cw.condB rfl true (rfl) ?_
    refine Cw.seq ?_
    refine Cw.region ?_
    refine Lw.val (Ex.build (vs := []) (cs := [.slice none 0 0, .slice none 0 0]) rfl (by kernel_rfl)) rfl ?_
    refine Lw.val (Ex.move rfl) rfl ?_
    refine Lw.unit (Xu.stA (cs := [.slice none 0 0, .slice none 0 0]) (k := 2) (by kernel_rfl) rfl rfl rfl rfl b_r rfl) ?_
    rintro w2 ⟨b_r, hg, hz⟩
    have hB2 := hB1.grown hg (by omega) (by rintro _ e; have := Option.some.inj e; omega)
    refine Lw.val (Ex.assign rfl) rfl ?_
    refine Lw.nil ?_
    refine Pw.thenN (Cw.out ?_)
    refine Cw.ret ?_
    refine Pw.thenR ?_
    refine Pw.retCT rfl rfl rfl (by assumption) (Tryz.underlying29) rfl rfl rfl ?_
    exact ⟨hB2, rfl⟩
  | some vs =>
    rw [eR] at hr
    obtain ⟨q, ts, rfl, hT, hM, hv⟩ := hr
    obtain ⟨⟨ss, hss⟩, -, -, hvl⟩ := allG_some (hR.symm.trans eR)
    have lts : ts.length = ls.length := by rw [← hvl, ← hv, List.length_map]
    have hl1 := (gsh_R hss).2.2.1
    have hl32 := (gsh_R hss).2.2.2
    have hlt : ts.length - 1 < ts.length := by omega
    obtain ⟨c, hc⟩ : ∃ c, c = ts[ts.length - 1] := ⟨_, rfl⟩
    have hcm : c ∈ ts := hc ▸ List.getElem_mem hlt
    have hM1 := hM c hcm
    have hcc := ten_cells hlt
    rw [← hc] at hcc
    have c1 : [c.x, c.y].all (·.oneCell') = true := by rw [List.all_cons, List.all_cons, hM1.row.slT.one', hM1.col.slT.one']; rfl
    have hT1 := hT.1
    refine Lw.val (Ex.move rfl) rfl ?_
    refine Lw.val (Ex.extract (i := 0) rfl rfl) rfl ?_
    refine Lw.val (Ex.extract (i := 1) rfl rfl) rfl ?_
    refine Lw.val (Ex.assign rfl) rfl ?_
    refine Lw.val (Ex.assign rfl) rfl ?_
    refine Lw.nil ?_
    refine Pw.thenN (Cw.out ?_)
    refine Cw.seq ?_
    refine Cw.seq ?_
    refine Cw.region ?_
    refine Lw.val (Ex.move rfl) rfl ?_
    refine Lw.val (Ex.neq rfl rfl) rfl ?_
    refine Lw.nil ?_
    refine Pw.thenN (Cw.out ?_)
    refine Cw.condB rfl false (rfl) ?_
    refine Cw.skip ?_
    refine Pw.thenN (Cw.out ?_)
    refine Cw.seq ?_
    refine Cw.region ?_
    refine Lw.val (Ex.move rfl) rfl ?_
    refine Lw.val (Ex.move rfl) rfl ?_
    refine Lw.val (Ex.lenS st_25 rfl (by assumption)) rfl ?_
    refine Lw.val (Ex.as (Ex.subI rfl rfl (by omega)) (congrArg (Value.int .i64) (show (ts.length : Int) - 1 = ((ts.length - 1 : Nat) : Int) by omega))) rfl ?_
    refine Lw.val (Ex.idx st_25 rfl rfl hT1 (ts.length - 1) rfl hlt) rfl ?_
    refine Lw.val (Ex.ldE (cs := [c.x, c.y]) (ag_29 _) (sz_29 _) rfl hT1 rfl (by decide) hcc) rfl ?_
    refine Lw.unit (Xu.stA (cs := [c.x, c.y]) (k := 2) (by kernel_rfl) rfl rfl rfl c1 b_r rfl) ?_
    rintro w2 ⟨b_r2, hg, hz⟩
    have hB2 := hB1.grown hg (by omega) (by rintro _ e; have := Option.some.inj e; omega)
    have hM2 := (hM1.ty hg (fun b e => by cases e; exact ⟨_, b_r⟩) (by decide) (by decide)).mono (W := W) z0
    have hp : pv c = lastV vs := by
      unfold lastV
      rw [← hv, List.length_map, List.getD_eq_getElem?_getD, List.getElem?_map, List.getElem?_eq_getElem hlt, ← hc]; rfl
    refine Lw.val (Ex.assign rfl) rfl ?_
    refine Lw.nil ?_
    refine Pw.thenN (Cw.out ?_)
    refine Cw.ret ?_
    refine Pw.retCT rfl rfl rfl (by assumption) (Tryz.underlying29) rfl rfl rfl ?_
    exact ⟨hB2, c, rfl, hM2, hp⟩
end Go.Proofs.YtmipoeanpnnjoaaGreat

/-! Contracts: lists of tensors that are the same; how great a node, and tensors, are. -/
namespace Go.Proofs.YtmipoeanpnnjoaaGreat
open Go Go.Dd Go.RowKit
set_option maxRecDepth 100000

theorem sameT_c (a b : T4) (W : World) (h_a : a.at W) (h_b : b.at W) : Fnc Tryz.prog 50 [a.v, b.v] W (fun r w' => r = .bool (decide (pv a = pv b)) ∧ Below W.heap.size W w') := by
  have hB := Below.refl W.heap.size W
  have ep : decide (pv a = pv b) = (decide (a.s = b.s) && decide (a.l = b.l)) := by
    rw [← Bool.decide_and]
    exact decide_eq_decide.2 ⟨fun h => ⟨congrArg (·.1) h, congrArg (·.2) h⟩, fun ⟨h1, h2⟩ => by unfold pv; rw [h1, h2]⟩
  rw [ep]
  refine Fnc.enter (n := 17) Tryz.func50 (by kernel_rfl) rfl rfl rfl ?_
  refine Cw.seq ?_
  refine Cw.region ?_
  refine Lw.boxV (cs := [a.x, a.y]) rfl rfl rfl ?_
  rintro A_a w eA_a b_a hn -
  replace hB := hB.bs hn
  replace h_a := h_a.bs hn
  replace h_b := h_b.bs hn
  clear hn
  refine Lw.boxV (cs := [b.x, b.y]) rfl rfl rfl ?_
  rintro A_b w eA_b b_b hn -
  replace hB := hB.bs hn
  replace h_a := h_a.bs hn
  replace h_b := h_b.bs hn
  replace b_a := b_a.bs hn
  clear hn
  refine Lw.val (Ex.assign rfl) rfl ?_
  refine Lw.nil ?_
  refine Pw.thenN (Cw.out ?_)
  refine Cw.seq ?_
  refine Cw.region ?_
  refine Lw.val (Ex.fieldAddr (q := 0) Tryz.underlying29 rfl (sz_26 _) rfl) rfl ?_
  refine Lw.val (Ex.ldB (ag_26 _) rfl (by assumption) rfl) rfl ?_
  refine Lw.val (Ex.fieldAddr (q := 0) Tryz.underlying29 rfl (sz_26 _) rfl) rfl ?_
  refine Lw.val (Ex.ldB (ag_26 _) rfl (by assumption) rfl) rfl ?_
  have s_a := h_a.1
  have l_a := h_a.2
  refine Lw.callF rfl rfl (sameInts_c a.x b.x a.s b.s w h_a.1 h_b.1) ?_
  rintro _ w1 ⟨rfl, hn⟩
  have b_a := b_a.bs hn
  have b_b := b_b.bs hn
  have hB := bt hB hn
  have h_a := h_a.bs hn
  have h_b := h_b.bs hn
  refine Lw.val (Ex.move rfl) rfl ?_
  refine Lw.part 10 rfl ?_ ?_
  · intro g
    refine Lw.take (dj := 10) rfl rfl ?_
    refine Lw.val (Ex.fieldAddr (q := 0) Tryz.underlying29 rfl (sz_27 _) rfl) rfl ?_
    refine Lw.take (dj := 10) rfl rfl ?_
    refine Lw.val (Ex.ldB (ag_27 _) rfl (by assumption) rfl) rfl ?_
    refine Lw.take (dj := 10) rfl rfl ?_
    refine Lw.val (Ex.fieldAddr (q := 0) Tryz.underlying29 rfl (sz_27 _) rfl) rfl ?_
    refine Lw.take (dj := 10) rfl rfl ?_
    refine Lw.val (Ex.ldB (ag_27 _) rfl (by assumption) rfl) rfl ?_
    refine Lw.take (dj := 10) rfl rfl ?_
    refine Lw.callF rfl rfl (sameNumbers_c a.y b.y a.l b.l w1 h_a.2 h_b.2) ?_
    rintro _ w2 ⟨rfl, hn2⟩
    refine Lw.val (Ex.pickT rfl rfl) rfl ?_
    refine Lw.val (Ex.assign rfl) rfl ?_
    refine Lw.nil ?_
    refine Pw.thenN (Cw.out ?_)
    refine Cw.ret ?_
    refine Pw.ret1 rfl rfl ?_
    exact ⟨by rw [g, Bool.true_and], bt hB hn2⟩
  intro g
  refine Lw.pass (dj := 10) rfl rfl rfl rfl ?_
  refine Lw.pass (dj := 10) rfl rfl rfl rfl ?_
  refine Lw.pass (dj := 10) rfl rfl rfl rfl ?_
  refine Lw.pass (dj := 10) rfl rfl rfl rfl ?_
  refine Lw.pass (dj := 10) rfl rfl rfl rfl ?_
  refine Lw.val (Ex.pickF rfl rfl) rfl ?_
  refine Lw.val (Ex.assign rfl) rfl ?_
  refine Lw.nil ?_
  refine Pw.thenN (Cw.out ?_)
  refine Cw.ret ?_
  refine Pw.ret1 rfl rfl ?_
  exact ⟨by rw [g]; rfl, hB⟩
theorem sameTs_c (u v : Value) (xs ys : List T4) (W : World) (hu : Tens W u xs) (hv : Tens W v ys) : Fnc Tryz.prog 18 [u, v] W (fun r w' => r = .bool (decide (xs.map pv = ys.map pv)) ∧ Below W.heap.size W w') := by
  have su := hu.1
  have sv := hv.1
  have lu := hu.1.le
  refine Fnc.enter (n := 27) Tryz.func18 (by kernel_rfl) rfl rfl rfl ?_
  refine Cw.seq ?_
  refine Cw.region ?_
  refine Lw.val (Ex.assign rfl) rfl ?_
  refine Lw.nil ?_
  refine Pw.thenN (Cw.out ?_)
  refine Cw.seq ?_
  refine Cw.seq ?_
  refine Cw.region ?_
  refine Lw.val (Ex.move rfl) rfl ?_
  refine Lw.val (Ex.lenS st_25 rfl (by assumption)) rfl ?_
  refine Lw.val (Ex.move rfl) rfl ?_
  refine Lw.val (Ex.lenS st_25 rfl (by assumption)) rfl ?_
  refine Lw.val (Ex.neq rfl rfl) rfl ?_
  refine Lw.nil ?_
  refine Pw.thenN (Cw.out ?_)
  refine Cw.cond rfl ?_ ?_
  · intro g
    have g1 : ¬ xs.length = ys.length := fun e => by rw [e] at g; simp at g
    refine Cw.seq ?_
    refine Cw.region ?_
    refine Lw.val (Ex.assign rfl) rfl ?_
    refine Lw.nil ?_
    refine Pw.thenN (Cw.out ?_)
    refine Cw.ret ?_
    refine Pw.thenR ?_
    refine Pw.ret1 rfl rfl ?_
    exact ⟨by rw [decide_eq_false fun e => g1 (by have := congrArg List.length e; simpa using this)], Below.refl _ _⟩
  intro g
  have g1 : xs.length = ys.length := by simp at g; omega
  refine Cw.skip ?_
  refine Pw.thenN (Cw.out ?_)
  refine Cw.seq ?_
  refine Cw.seq ?_
  refine Cw.region ?_
  refine Lw.val (Ex.assign rfl) rfl ?_
  refine Lw.nil ?_
  refine Pw.thenN (Cw.out ?_)
  refine Cw.block ?_
  refine Cw.loop (S := Nat) (fun i => [(0, u), (1, v), (5, .int .i64 (i : Int))]) (fun i w' => i ≤ xs.length ∧ (xs.take i).map pv = (ys.take i).map pv ∧ Below W.heap.size W w') (fun i => xs.length - i) (0) ⟨rfl, rfl, rfl, trivial⟩ ?_ ?_
  · exact ⟨Nat.zero_le _, rfl, Below.refl _ _⟩
  rintro i w1 ⟨hi, he, hB⟩
  have su := hu.1.bs hB
  have sv := hv.1.bs hB
  refine Cw.seq ?_
  refine Cw.seq ?_
  refine Cw.region ?_
  refine Lw.val (Ex.move rfl) rfl ?_
  refine Lw.val (Ex.move rfl) rfl ?_
  refine Lw.val (Ex.lenS st_25 rfl (by assumption)) rfl ?_
  refine Lw.val (Ex.lss rfl rfl) rfl ?_
  refine Lw.nil ?_
  refine Pw.thenN (Cw.out ?_)
  refine Cw.cond rfl ?_ ?_
  · intro h
    have hi' : i < xs.length := by have := of_decide_eq_true h; omega
    have hi2 : i < ys.length := by omega
    obtain ⟨a, ha⟩ : ∃ a, a = xs[i] := ⟨_, rfl⟩
    obtain ⟨b, hb⟩ : ∃ b, b = ys[i] := ⟨_, rfl⟩
    have ca := ten_cells hi'
    have cb := ten_cells hi2
    rw [← ha] at ca
    rw [← hb] at cb
    have h_a := (hu.2 a (ha ▸ List.getElem_mem hi')).bs hB
    have h_b := (hv.2 b (hb ▸ List.getElem_mem hi2)).bs hB
    have ea : (xs.take (i + 1)).map pv = (xs.take i).map pv ++ [pv a] := by rw [List.take_succ_eq_append_getElem hi', List.map_append, ← ha]; rfl
    have eb : (ys.take (i + 1)).map pv = (ys.take i).map pv ++ [pv b] := by rw [List.take_succ_eq_append_getElem hi2, List.map_append, ← hb]; rfl
    refine Cw.skip ?_
    refine Pw.thenN (Cw.out ?_)
    refine Cw.seq ?_
    refine Cw.block ?_
    refine Cw.seq ?_
    refine Cw.any mixed (fun w2 hd _ => ?_)
    refine Aw.cls (fun w' => Below w1.heap.size w1 w') (fun hC => ?_) (hd)
    refine AwC.take (i := 0) (NoP.thn (NoP.blk (NoP.thn (NoP.thn (NoP.blk (NoP.thn NoP.ret)))))) rfl (by kernel_rfl) (by kernel_rfl) (by kernel_rfl) (fun w1 hc => Ex.move rfl) rfl ?_
    refine AwC.take (i := 1) (NoP.thn (NoP.blk (NoP.thn (NoP.thn (NoP.blk (NoP.thn NoP.ret)))))) rfl (by kernel_rfl) (by kernel_rfl) (by kernel_rfl) (fun w1 hc => Ex.move rfl) rfl ?_
    refine AwC.take (i := 2) (NoP.thn (NoP.blk (NoP.thn (NoP.thn (NoP.blk (NoP.thn NoP.ret)))))) rfl (by kernel_rfl) (by kernel_rfl) (by kernel_rfl) (fun w1 hc => Ex.idx st_25 rfl rfl (su.bs hc) i rfl hi') rfl ?_
    refine AwC.take (i := 3) (NoP.thn (NoP.blk (NoP.thn (NoP.thn (NoP.blk (NoP.thn NoP.ret)))))) rfl (by kernel_rfl) (by kernel_rfl) (by kernel_rfl) (fun w1 hc => Ex.ldE (cs := [a.x, a.y]) (ag_29 _) (sz_29 _) rfl (su.bs hc) rfl (by decide) ca) rfl ?_
    refine AwC.take (i := 4) (NoP.thn (NoP.blk (NoP.thn (NoP.thn (NoP.blk (NoP.thn NoP.ret)))))) rfl (by kernel_rfl) (by kernel_rfl) (by kernel_rfl) (fun w1 hc => Ex.move rfl) rfl ?_
    refine AwC.take (i := 5) (NoP.thn (NoP.blk (NoP.thn (NoP.thn (NoP.blk (NoP.thn NoP.ret)))))) rfl (by kernel_rfl) (by kernel_rfl) (by kernel_rfl) (fun w1 hc => Ex.move rfl) rfl ?_
    refine AwC.take (i := 6) (NoP.thn (NoP.blk (NoP.thn (NoP.thn (NoP.blk (NoP.thn NoP.ret)))))) rfl (by kernel_rfl) (by kernel_rfl) (by kernel_rfl) (fun w1 hc => Ex.idx st_25 rfl rfl (sv.bs hc) i rfl hi2) rfl ?_
    refine AwC.take (i := 7) (NoP.thn (NoP.blk (NoP.thn (NoP.thn (NoP.blk (NoP.thn NoP.ret)))))) rfl (by kernel_rfl) (by kernel_rfl) (by kernel_rfl) (fun w1 hc => Ex.ldE (cs := [b.x, b.y]) (ag_29 _) (sz_29 _) rfl (sv.bs hc) rfl (by decide) cb) rfl ?_
    refine AwC.only (by assumption) (i := 8) (by kernel_rfl) rfl ?_
    refine Lw.callF rfl rfl (sameT_c a b w2 (h_a.bs hd) (h_b.bs hd)) ?_
    rintro _ w3 ⟨rfl, hn⟩
    have hd3 : Below w1.heap.size w1 w3 := hd.trans (hn.mono hd.size)
    have hB3 := hB.trans (hd3.mono (below_size hB))
    refine AwC.back ?_
    refine AwC.take (i := 9) (NoP.thn (NoP.blk (NoP.thn (NoP.thn (NoP.blk (NoP.thn NoP.ret)))))) rfl (by kernel_rfl) (by kernel_rfl) (by kernel_rfl) (fun w1 hc => Ex.not rfl) rfl ?_
    refine AwC.done (by assumption) (by kernel_rfl) ?_
    refine Pw.thenN (Cw.out ?_)
    refine Cw.cond rfl ?_ ?_
    · intro g2
      have g2 : ¬ pv a = pv b := by simpa using g2
      refine Cw.seq ?_
      refine Cw.region ?_
      refine Lw.val (Ex.assign rfl) rfl ?_
      refine Lw.nil ?_
      refine Pw.thenN (Cw.out ?_)
      refine Cw.ret ?_
      refine Pw.blkR ?_
      refine Pw.thenR ?_
      refine Pw.thenR ?_
      refine Pw.blkR ?_
      refine Pw.thenR ?_
      refine Pw.ret1 rfl rfl ?_
      refine ⟨?_, hB3⟩
      rw [decide_eq_false fun e => g2 ?_]
      have h1 : (xs.map pv)[i]? = some (pv a) := by rw [List.getElem?_map, List.getElem?_eq_getElem hi', ← ha]; rfl
      have h2 : (ys.map pv)[i]? = some (pv b) := by rw [List.getElem?_map, List.getElem?_eq_getElem hi2, ← hb]; rfl
      rw [e, h2] at h1
      exact (Option.some.inj h1).symm
    intro g2
    have g2 : pv a = pv b := by simpa using g2
    refine Cw.skip ?_
    refine Pw.blkN ?_
    refine Pw.thenN (Cw.out ?_)
    refine Cw.region ?_
    refine Lw.val (Ex.move rfl) rfl ?_
    refine Lw.val (Ex.addI rfl rfl (by omega)) rfl ?_
    refine Lw.val (Ex.assign rfl) rfl ?_
    refine Lw.nil ?_
    exact Pw.thenN (Pw.next (i + 1) ⟨rfl, rfl, rfl, trivial⟩ (⟨hi', by rw [ea, eb, he, g2], hB3⟩) (by omega))
  intro h
  have hi' : i = xs.length := by have := of_decide_eq_false h; omega
  subst hi'
  have e2 : ys.take xs.length = ys := by rw [g1, List.take_length]
  rw [List.take_length, e2] at he
  refine Cw.exit ?_
  refine Pw.thenE ?_
  refine Pw.thenE ?_
  refine Pw.blkHit ?_
  refine Pw.thenN (Cw.out ?_)
  refine Cw.seq ?_
  refine Cw.region ?_
  refine Lw.val (Ex.assign rfl) rfl ?_
  refine Lw.nil ?_
  refine Pw.thenN (Cw.out ?_)
  refine Cw.ret ?_
  refine Pw.ret1 rfl rfl ?_
  exact ⟨by rw [decide_eq_true he], hB⟩
end Go.Proofs.YtmipoeanpnnjoaaGreat

/-! Plain law: what a node comes to may be, and has the shape that the graph tells. -/
namespace Go.Proofs.YtmipoeanpnnjoaaGreat
open Go Go.Dd Go.RowKit
set_option maxRecDepth 100000

theorem doE_0 {x : N5} {ts : List T4} (h : doE x ts = 0) : doOk x ts = true ∧ actE x.k x ts = 0 := by
  unfold doE at h
  split at h
  · exact ⟨by assumption, h⟩
  · cases h
theorem doOk_row {x : N5} {ts : List T4} (h : doOk x ts = true) : ∃ a b c d, dRow x.k.toNat = some (a, b, c, d) ∧ ts.length = x.i.length ∧ a ≤ (ts.length : Int) ∧ (ts.length : Int) ≤ b ∧ c ≤ x.n ∧ x.n ≤ d ∧ fldB x.k x.s x.p = true := by
  unfold doOk at h
  split at h
  · rename_i a b c d hd
    simp only [Bool.and_eq_true, decide_eq_true_eq] at h
    exact ⟨a, b, c, d, hd, by omega, by omega, by omega, by omega, by omega, h.2⟩
  · cases h
end Go.Proofs.YtmipoeanpnnjoaaGreat
