/- Contracts: what the statements on tensors use besides. -/
import Derived.Test.YthgckokpdgiilaaMathsShiftCode
import Derived.Test.YthgckokpdgiilaaTwins
namespace Go.Proofs.Ythgckokpdgiilaa
open Go Go.Dd Go.RowKit

theorem nilT (w : World) : (T4.mk (.slice none 0 0) (.slice none 0 0) [] []).at w := ⟨Sl.nil w 1, Sl.nil w 1⟩
theorem Made1.at {W w : World} {x y : Value} {s : List Int} {l : List (BitVec 32)} (h : Made1 W w x y s l) : (T4.mk x y s l).at w := ⟨h.sh, own_sl h.own⟩
/-- An answer, as a tensor. -/
theorem Ans.get {W w : World} {r : Value} {e : Int} {s : List Int} {l : List (BitVec 32)} (h : Ans W w r e s l) : ∃ a : T4, r = .tuple #[a.v, .int .i64 e] ∧ a.at w ∧ (e ≠ 0 → a.s = [] ∧ a.l = [] ∧ a.x = .slice none 0 0 ∧ a.y = .slice none 0 0) ∧ (e = 0 → a.s = s ∧ a.l = l ∧ Made1 W w a.x a.y s l) := by
  obtain ⟨x, y, rfl, q1, q2⟩ := h
  by_cases he : e = 0
  · exact ⟨⟨x, y, s, l⟩, rfl, (q2 he).at, fun h => absurd he h, fun _ => ⟨rfl, rfl, q2 he⟩⟩
  · obtain ⟨rfl, rfl⟩ := q1 he
    exact ⟨⟨_, _, [], []⟩, rfl, nilT w, fun _ => ⟨rfl, rfl, rfl, rfl⟩, fun h => absurd h he⟩

/-! What is reckoned, without memory. -/
def e2 (s : List Int) (l : List (BitVec 32)) (t : List Int) (m : List (BitVec 32)) : Int := if tok s l && tok t m then (if t = s then 0 else 10) else 1
def e1 (s : List Int) (l : List (BitVec 32)) : Int := if tok s l then 0 else 1
def z2 (f : BitVec 32 → BitVec 32 → BitVec 32) (s : List Int) (l m : List (BitVec 32)) : List (BitVec 32) := (List.range (Shapes.size s).toNat).map fun i => f (l.getD i default) (m.getD i default)
def z1 (f : BitVec 32 → BitVec 32) (s : List Int) (l : List (BitVec 32)) : List (BitVec 32) := (List.range (Shapes.size s).toNat).map fun i => f (l.getD i default)
theorem ofE_two (a b : T4) : ofE [a, b] a.s = e2 a.s a.l b.s b.l := by
  simp only [ofE, e2, List.all_cons, List.all_nil, T4.ok, Bool.and_true, decide_true, Bool.true_and, decide_eq_true_eq]
theorem ofE_one (a : T4) : ofE [a] a.s = e1 a.s a.l := by
  simp [ofE, e1, T4.ok]

/-- A contract's answer: a tensor of one's own, or none. -/
def Gets (W w : World) (r : Value) (e : Int) (s : List Int) (l : List (BitVec 32)) : Prop :=
  ∃ c : T4, r = .tuple #[c.v, .int .i64 e] ∧ c.at w ∧ (e ≠ 0 → c.s = [] ∧ c.l = []) ∧ (e = 0 → c.s = s ∧ c.l = l ∧ Made1 W w c.x c.y s l)
theorem Ans.gets {W w : World} {r : Value} {e : Int} {s : List Int} {l : List (BitVec 32)} (h : Ans W w r e s l) : Gets W w r e s l := by
  obtain ⟨a, h1, h2, h3, h4⟩ := h.get
  exact ⟨a, h1, h2, fun h => ⟨(h3 h).1, (h3 h).2.1⟩, h4⟩
theorem add_p (a b : T4) (W : World) (ha : a.at W) (hb : b.at W) : Fnc Try.prog 11 [a.v, b.v] W (fun r w' => Below W.heap.size W w' ∧ Gets W w' r (e2 a.s a.l b.s b.l) a.s (z2 (· + ·) a.s a.l b.l)) :=
  (add_c a b W ha hb).mono fun r w' ⟨h1, h2⟩ => ⟨h1, by rw [ofE_two] at h2; exact h2.gets⟩
theorem mul_p (a b : T4) (W : World) (ha : a.at W) (hb : b.at W) : Fnc Try.prog 13 [a.v, b.v] W (fun r w' => Below W.heap.size W w' ∧ Gets W w' r (e2 a.s a.l b.s b.l) a.s (z2 (· * ·) a.s a.l b.l)) :=
  (mul_c a b W ha hb).mono fun r w' ⟨h1, h2⟩ => ⟨h1, by rw [ofE_two] at h2; exact h2.gets⟩
theorem relu_p (a : T4) (W : World) (ha : a.at W) : Fnc Try.prog 19 [a.v] W (fun r w' => Below W.heap.size W w' ∧ Gets W w' r (e1 a.s a.l) a.s (z1 reluB a.s a.l)) :=
  (relu_c a W ha).mono fun r w' ⟨h1, h2⟩ => ⟨h1, by rw [ofE_one] at h2; exact h2.gets⟩
def shB (j : Nat) (x : BitVec 32) : BitVec 32 := BitVec.ofInt 32 (shI j x.toInt)
def eSh (s : List Int) (l : List (BitVec 32)) (n : Int) : Int := if n < 0 ∨ 31 < n then 1 else e1 s l
theorem shift_p (a : T4) (n : Int) (W : World) (ha : a.at W) : Fnc Try.prog 20 [a.v, .int .i64 n] W (fun r w' => Below W.heap.size W w' ∧ Gets W w' r (eSh a.s a.l n) a.s (z1 (shB n.toNat) a.s a.l)) :=
  (shift_c a n W ha).mono fun r w' ⟨h1, h2⟩ => ⟨h1, by unfold shE at h2; rw [ofE_one] at h2; exact h2.gets⟩

theorem of_c (u : Value) (l : List (BitVec 32)) (w : World) (hu : SlT i32 w u l) : Fnc Try.prog 22 [u] w (fun r w' => ∃ a : T4, r = a.v ∧ a.s = [(l.length : Int)] ∧ a.l = l ∧ a.at w' ∧ Below w.heap.size w w') := by
  have hB := Below.refl w.heap.size w
  have hu0 := hu
  refine Fnc.enter (n := 8) Try.func22 (by kernel_rfl) rfl rfl rfl ?_
  refine Cw.seq ?_
  refine Cw.region ?_
  refine Lw.valW (Xw.new it_25) rfl ?_
  rintro _ w1 ⟨rfl, b, hn, hs1⟩
  replace hB := hB.bs hn
  replace hu := hu.bs hn
  refine Lw.nil ?_
  refine Pw.thenN (Cw.out ?_)
  refine Cw.seq ?_
  refine Cw.region ?_
  refine Lw.val (Ex.move rfl) rfl ?_
  refine Lw.val (Ex.lenS st_23 rfl (by assumption)) rfl ?_
  refine Lw.valW (Xw.lit (vs := [(l.length : Int)].map (Value.int .i64)) st_22 it_3 rfl rfl rfl rfl rfl) rfl ?_
  rintro x w2 ⟨ho, -, hn, -⟩
  replace hB := hB.bs hn
  replace hu := hu.bs hn
  replace b := b.bs hn
  refine Lw.val (Ex.move rfl) rfl ?_
  refine Lw.val (Ex.build (vs := [(0, x), (1, u)]) (cs := [x, u]) rfl (bt_ten _ _ (own_sl ho).one hu.one)) rfl ?_
  refine Lw.unit (Xu.stA (cs := [x, u]) rfl rfl rfl rfl (by simp [(own_sl ho).one', hu.one']) b rfl) ?_
  rintro w3 ⟨b, hg, -⟩
  have z := hn.size
  have hB3 := hB.grown hg (below_size hB) (by rintro _ ⟨⟩; exact Nat.le_refl _)
  refine Lw.nil ?_
  refine Pw.thenN (Cw.out ?_)
  refine Cw.ret ?_
  refine Pw.retC rfl rfl (by assumption) (Try.underlying25) rfl rfl rfl ?_
  refine ⟨⟨x, u, [(l.length : Int)], l⟩, rfl, rfl, rfl, ⟨own_slT (ho.kept hg (.inr ?_)), hu0.bs hB3⟩, hB3⟩
  intro h
  have := (own_block ho _ h).1
  omega

theorem is_c (a : T4) (e : Int) (u : Value) (l : List (BitVec 32)) (w : World) (ha : a.at w) (hu : SlT i32 w u l) : Fnc Try.prog 23 [a.v, .int .i64 e, u] w (fun r w' => r = .bool (decide (e = 0) && (decide (a.s = [(l.length : Int)]) && decide (a.l = l))) ∧ Below w.heap.size w w') := by
  have hB := Below.refl w.heap.size w
  refine Fnc.enter (n := 15) Try.func23 (by kernel_rfl) rfl rfl rfl ?_
  refine Cw.seq ?_
  refine Cw.region ?_
  refine Lw.valW (Xw.box (cs := [a.x, a.y]) rfl rfl) rfl ?_
  rintro _ w1 ⟨rfl, b, hn, -⟩
  replace hB := hB.bs hn
  replace ha := ha.bs hn
  replace hu := hu.bs hn
  refine Lw.val (Ex.assign rfl) rfl ?_
  refine Lw.nil ?_
  refine Pw.thenN (Cw.out ?_)
  refine Cw.seq ?_
  refine Cw.any mixed (fun w2 hd _ => ?_)
  replace hB := hB.bs hd
  replace ha := ha.bs hd
  replace hu := hu.bs hd
  replace b := b.bs hd
  refine Aw.take (i := 0) (NoP.thn NoP.ret) rfl (by kernel_rfl) (by kernel_rfl) (by kernel_rfl) (fun _ => Ex.move rfl) rfl ?_
  refine Aw.take (i := 1) (NoP.thn NoP.ret) rfl (by kernel_rfl) (by kernel_rfl) (by kernel_rfl) (fun _ => Ex.eql rfl rfl) rfl ?_
  refine Aw.take (i := 2) (NoP.thn NoP.ret) rfl (by kernel_rfl) (by kernel_rfl) (by kernel_rfl) (fun _ => Ex.move rfl) rfl ?_
  refine Aw.part 9 rfl ?_ ?_
  · intro g
    refine Aw.takeG (i := 4) (dj := 9) (NoP.thn NoP.ret) rfl rfl rfl (by kernel_rfl) (by kernel_rfl) (by kernel_rfl) (fun _ => Ex.move rfl) rfl ?_
    refine Aw.two (i := 3) (j := 5) (by kernel_rfl) rfl rfl ?_ ?_
    · refine Lw.take (dj := 9) rfl rfl ?_
      refine Lw.val (Ex.ldA (ag_25 _) (sz_25 _) rfl rfl (by assumption)) rfl ?_
      refine Aw.back ?_
      refine Aw.only (i := 5) (by kernel_rfl) rfl ?_
      refine Lw.take (dj := 9) rfl rfl ?_
      refine Lw.callF rfl rfl (of_c u l w2 hu) ?_
      rintro _ w3 ⟨c, rfl, hcs, hcl, hx, hn⟩
      replace hB := hB.bs hn
      replace ha := ha.bs hn
      replace hu := hu.bs hn
      replace b := b.bs hn
      refine Aw.back ?_
      refine Aw.only (i := 6) (by kernel_rfl) rfl ?_
      refine Lw.take (dj := 9) rfl rfl ?_
      refine Lw.callF rfl rfl (same_c a.x a.y c.x c.y a.s c.s a.l c.l w3 ha.1 ha.2 hx.1 hx.2) ?_
      rintro _ w4 ⟨rfl, hn⟩
      replace hB := hB.bs hn
      replace ha := ha.bs hn
      replace hu := hu.bs hn
      replace b := b.bs hn
      refine Aw.back ?_
      refine Aw.take (i := 7) (NoP.thn NoP.ret) rfl (by kernel_rfl) (by kernel_rfl) (by kernel_rfl) (fun _ => Ex.pickT rfl rfl) rfl ?_
      refine Aw.take (i := 8) (NoP.thn NoP.ret) rfl (by kernel_rfl) (by kernel_rfl) (by kernel_rfl) (fun _ => Ex.assign rfl) rfl ?_
      refine Aw.done (by kernel_rfl) ?_
      refine Pw.thenN (Cw.out ?_)
      refine Cw.ret ?_
      refine Pw.ret1 rfl rfl ?_
      exact ⟨by rw [g, hcs, hcl]; rfl, hB⟩
    · refine Lw.take (dj := 9) rfl rfl ?_
      refine Lw.callF rfl rfl (of_c u l w2 hu) ?_
      rintro _ w3 ⟨c, rfl, hcs, hcl, hx, hn⟩
      replace hB := hB.bs hn
      replace ha := ha.bs hn
      replace hu := hu.bs hn
      replace b := b.bs hn
      refine Aw.back ?_
      refine Aw.only (i := 3) (by kernel_rfl) rfl ?_
      refine Lw.take (dj := 9) rfl rfl ?_
      refine Lw.val (Ex.ldA (ag_25 _) (sz_25 _) rfl rfl (by assumption)) rfl ?_
      refine Aw.back ?_
      refine Aw.only (i := 6) (by kernel_rfl) rfl ?_
      refine Lw.take (dj := 9) rfl rfl ?_
      refine Lw.callF rfl rfl (same_c a.x a.y c.x c.y a.s c.s a.l c.l w3 ha.1 ha.2 hx.1 hx.2) ?_
      rintro _ w4 ⟨rfl, hn⟩
      replace hB := hB.bs hn
      replace ha := ha.bs hn
      replace hu := hu.bs hn
      replace b := b.bs hn
      refine Aw.back ?_
      refine Aw.take (i := 7) (NoP.thn NoP.ret) rfl (by kernel_rfl) (by kernel_rfl) (by kernel_rfl) (fun _ => Ex.pickT rfl rfl) rfl ?_
      refine Aw.take (i := 8) (NoP.thn NoP.ret) rfl (by kernel_rfl) (by kernel_rfl) (by kernel_rfl) (fun _ => Ex.assign rfl) rfl ?_
      refine Aw.done (by kernel_rfl) ?_
      refine Pw.thenN (Cw.out ?_)
      refine Cw.ret ?_
      refine Pw.ret1 rfl rfl ?_
      exact ⟨by rw [g, hcs, hcl]; rfl, hB⟩
  · intro g
    refine Aw.passG (i := 3) (dj := 9) (NoP.thn NoP.ret) rfl rfl rfl rfl (by kernel_rfl) (by kernel_rfl) (by kernel_rfl) rfl ?_
    refine Aw.passG (i := 4) (dj := 9) (NoP.thn NoP.ret) rfl rfl rfl rfl (by kernel_rfl) (by kernel_rfl) (by kernel_rfl) rfl ?_
    refine Aw.passG (i := 5) (dj := 9) (NoP.thn NoP.ret) rfl rfl rfl rfl (by kernel_rfl) (by kernel_rfl) (by kernel_rfl) rfl ?_
    refine Aw.passG (i := 6) (dj := 9) (NoP.thn NoP.ret) rfl rfl rfl rfl (by kernel_rfl) (by kernel_rfl) (by kernel_rfl) rfl ?_
    refine Aw.take (i := 7) (NoP.thn NoP.ret) rfl (by kernel_rfl) (by kernel_rfl) (by kernel_rfl) (fun _ => Ex.pickF rfl rfl) rfl ?_
    refine Aw.take (i := 8) (NoP.thn NoP.ret) rfl (by kernel_rfl) (by kernel_rfl) (by kernel_rfl) (fun _ => Ex.assign rfl) rfl ?_
    refine Aw.done (by kernel_rfl) ?_
    refine Pw.thenN (Cw.out ?_)
    refine Cw.ret ?_
    refine Pw.ret1 rfl rfl ?_
    exact ⟨by rw [g]; rfl, hB⟩

theorem alive_c (w0 : World) : Fnc Try.prog 9 [] w0 (fun r w' => r = .bool true ∧ Below w0.heap.size w0 w') := by
  have hB := Below.refl w0.heap.size w0
  refine Fnc.enter (n := 99) Try.func9 (by kernel_rfl) rfl rfl rfl ?_
  refine Cw.seq ?_
  refine Cw.region ?_
  refine Lw.val (Ex.assign rfl) rfl ?_
  refine Lw.nil ?_
  refine Pw.thenN (Cw.out ?_)
  refine Cw.seq ?_
  refine Cw.region ?_
  refine Lw.valW (Xw.lit (vs := ([1#32, 2#32] : List (BitVec 32)).map i32) st_23 it_21 rfl (by kernel_rfl) rfl rfl rfl) rfl ?_
  rintro u w ⟨ho, -, hn, -⟩
  have t := own_slT ho
  clear ho
  replace hB := hB.bs hn
  clear hn
  refine Lw.callF rfl rfl (of_c u [1#32, 2#32] _ t) ?_
  rintro _ w ⟨p1, rfl, s1, l1, h1, hn⟩
  replace hB := hB.bs hn
  clear hn t
  refine Lw.valW (Xw.lit (vs := ([3#32, 2147483647#32] : List (BitVec 32)).map i32) st_23 it_21 rfl (by kernel_rfl) rfl rfl rfl) rfl ?_
  rintro u w ⟨ho, -, hn, -⟩
  have t := own_slT ho
  clear ho
  replace hB := hB.bs hn
  replace h1 := h1.bs hn
  clear hn
  refine Lw.callF rfl rfl (of_c u [3#32, 2147483647#32] _ t) ?_
  rintro _ w ⟨p2, rfl, s2, l2, h2, hn⟩
  replace hB := hB.bs hn
  replace h1 := h1.bs hn
  clear hn t
  refine Lw.callF rfl rfl (add_p p1 p2 _ h1 h2) ?_
  rintro r w ⟨hn, a1, rfl, ha1, -, hz⟩
  replace hB := hB.bs hn
  clear hn
  have e0 : e2 p1.s p1.l p2.s p2.l = 0 := by rw [s1, l1, s2, l2]; kernel_rfl
  obtain ⟨c1, d1, -⟩ := hz e0
  have d1 : a1.l = [4#32, 2147483649#32] := by rw [d1, s1, l1, l2]; kernel_rfl
  have c1 : a1.s = [2] := by rw [c1, s1]; rfl
  rw [e0]
  clear hz e0
  refine Lw.val (Ex.move rfl) rfl ?_
  refine Lw.val (Ex.extract (i := 0) rfl rfl) rfl ?_
  refine Lw.val (Ex.extract (i := 1) rfl rfl) rfl ?_
  refine Lw.valW (Xw.new it_25) rfl ?_
  rintro _ w ⟨rfl, b, hn, -⟩
  refine Lw.unit (Xu.stA (cs := [a1.x, a1.y]) rfl rfl rfl rfl ha1.one b rfl) ?_
  rintro w ⟨b1, hg, -⟩
  have hn := hn.grown hg (below_size hn) (by rintro _ ⟨⟩; exact Nat.le_refl _)
  clear hg b
  replace hB := hB.bs hn
  replace ha1 := ha1.bs hn
  clear hn
  refine Lw.val (Ex.assign rfl) rfl ?_
  refine Lw.nil ?_
  refine Pw.thenN (Cw.out ?_)
  refine Cw.seq ?_
  refine Cw.region ?_
  clear h1 h2
  refine Lw.valW (Xw.lit (vs := ([3#32] : List (BitVec 32)).map i32) st_23 it_21 rfl (by kernel_rfl) rfl rfl rfl) rfl ?_
  rintro u w ⟨ho, -, hn, -⟩
  have t := own_slT ho
  clear ho
  replace hB := hB.bs hn
  replace ha1 := ha1.bs hn
  replace b1 := b1.bs hn
  clear hn
  refine Lw.callF rfl rfl (of_c u [3#32] _ t) ?_
  rintro _ w ⟨p1, rfl, s1, l1, h1, hn⟩
  replace hB := hB.bs hn
  replace ha1 := ha1.bs hn
  replace b1 := b1.bs hn
  clear hn t
  refine Lw.valW (Xw.lit (vs := ([BitVec.ofInt 32 (-4)] : List (BitVec 32)).map i32) st_23 it_21 rfl (by kernel_rfl) rfl rfl rfl) rfl ?_
  rintro u w ⟨ho, -, hn, -⟩
  have t := own_slT ho
  clear ho
  replace hB := hB.bs hn
  replace ha1 := ha1.bs hn
  replace b1 := b1.bs hn
  replace h1 := h1.bs hn
  clear hn
  refine Lw.callF rfl rfl (of_c u [BitVec.ofInt 32 (-4)] _ t) ?_
  rintro _ w ⟨p2, rfl, s2, l2, h2, hn⟩
  replace hB := hB.bs hn
  replace ha1 := ha1.bs hn
  replace b1 := b1.bs hn
  replace h1 := h1.bs hn
  clear hn t
  refine Lw.callF rfl rfl (mul_p p1 p2 _ h1 h2) ?_
  rintro r w ⟨hn, a2, rfl, ha2, -, hz⟩
  replace hB := hB.bs hn
  replace ha1 := ha1.bs hn
  replace b1 := b1.bs hn
  clear hn
  have e0 : e2 p1.s p1.l p2.s p2.l = 0 := by rw [s1, l1, s2, l2]; kernel_rfl
  obtain ⟨c2, d2, -⟩ := hz e0
  have d2 : a2.l = [BitVec.ofInt 32 (-12)] := by rw [d2, s1, l1, l2]; kernel_rfl
  have c2 : a2.s = [1] := by rw [c2, s1]; rfl
  rw [e0]
  clear hz e0
  refine Lw.val (Ex.move rfl) rfl ?_
  refine Lw.val (Ex.extract (i := 0) rfl rfl) rfl ?_
  refine Lw.val (Ex.extract (i := 1) rfl rfl) rfl ?_
  refine Lw.valW (Xw.new it_25) rfl ?_
  rintro _ w ⟨rfl, b, hn, -⟩
  refine Lw.unit (Xu.stA (cs := [a2.x, a2.y]) rfl rfl rfl rfl ha2.one b rfl) ?_
  rintro w ⟨b2, hg, -⟩
  have hn := hn.grown hg (below_size hn) (by rintro _ ⟨⟩; exact Nat.le_refl _)
  clear hg b
  replace hB := hB.bs hn
  replace ha1 := ha1.bs hn
  replace b1 := b1.bs hn
  replace ha2 := ha2.bs hn
  clear hn
  refine Lw.val (Ex.assign rfl) rfl ?_
  refine Lw.nil ?_
  refine Pw.thenN (Cw.out ?_)
  refine Cw.seq ?_
  refine Cw.region ?_
  clear h1 h2
  refine Lw.valW (Xw.lit (vs := ([BitVec.ofInt 32 (-1), 5#32] : List (BitVec 32)).map i32) st_23 it_21 rfl (by kernel_rfl) rfl rfl rfl) rfl ?_
  rintro u w ⟨ho, -, hn, -⟩
  have t := own_slT ho
  clear ho
  replace hB := hB.bs hn
  replace ha1 := ha1.bs hn
  replace b1 := b1.bs hn
  replace ha2 := ha2.bs hn
  replace b2 := b2.bs hn
  clear hn
  refine Lw.callF rfl rfl (of_c u [BitVec.ofInt 32 (-1), 5#32] _ t) ?_
  rintro _ w ⟨p1, rfl, s1, l1, h1, hn⟩
  replace hB := hB.bs hn
  replace ha1 := ha1.bs hn
  replace b1 := b1.bs hn
  replace ha2 := ha2.bs hn
  replace b2 := b2.bs hn
  clear hn t
  refine Lw.callF rfl rfl (relu_p p1 _ h1) ?_
  rintro r w ⟨hn, a3, rfl, ha3, -, hz⟩
  replace hB := hB.bs hn
  replace ha1 := ha1.bs hn
  replace b1 := b1.bs hn
  replace ha2 := ha2.bs hn
  replace b2 := b2.bs hn
  clear hn
  have e0 : e1 p1.s p1.l = 0 := by rw [s1, l1]; kernel_rfl
  obtain ⟨c3, d3, -⟩ := hz e0
  have d3 : a3.l = [0#32, 5#32] := by rw [d3, s1, l1]; kernel_rfl
  have c3 : a3.s = [2] := by rw [c3, s1]; rfl
  rw [e0]
  clear hz e0
  refine Lw.val (Ex.move rfl) rfl ?_
  refine Lw.val (Ex.extract (i := 0) rfl rfl) rfl ?_
  refine Lw.val (Ex.extract (i := 1) rfl rfl) rfl ?_
  refine Lw.valW (Xw.new it_25) rfl ?_
  rintro _ w ⟨rfl, b, hn, -⟩
  refine Lw.unit (Xu.stA (cs := [a3.x, a3.y]) rfl rfl rfl rfl ha3.one b rfl) ?_
  rintro w ⟨b3, hg, -⟩
  have hn := hn.grown hg (below_size hn) (by rintro _ ⟨⟩; exact Nat.le_refl _)
  clear hg b
  replace hB := hB.bs hn
  replace ha1 := ha1.bs hn
  replace b1 := b1.bs hn
  replace ha2 := ha2.bs hn
  replace b2 := b2.bs hn
  replace ha3 := ha3.bs hn
  clear hn
  refine Lw.val (Ex.assign rfl) rfl ?_
  refine Lw.nil ?_
  refine Pw.thenN (Cw.out ?_)
  refine Cw.seq ?_
  refine Cw.region ?_
  clear h1
  refine Lw.valW (Xw.lit (vs := ([5#32, BitVec.ofInt 32 (-5), 6#32, BitVec.ofInt 32 (-6)] : List (BitVec 32)).map i32) st_23 it_21 rfl (by kernel_rfl) rfl rfl rfl) rfl ?_
  rintro u w ⟨ho, -, hn, -⟩
  have t := own_slT ho
  clear ho
  replace hB := hB.bs hn
  replace ha1 := ha1.bs hn
  replace b1 := b1.bs hn
  replace ha2 := ha2.bs hn
  replace b2 := b2.bs hn
  replace ha3 := ha3.bs hn
  replace b3 := b3.bs hn
  clear hn
  refine Lw.callF rfl rfl (of_c u [5#32, BitVec.ofInt 32 (-5), 6#32, BitVec.ofInt 32 (-6)] _ t) ?_
  rintro _ w ⟨p1, rfl, s1, l1, h1, hn⟩
  replace hB := hB.bs hn
  replace ha1 := ha1.bs hn
  replace b1 := b1.bs hn
  replace ha2 := ha2.bs hn
  replace b2 := b2.bs hn
  replace ha3 := ha3.bs hn
  replace b3 := b3.bs hn
  clear hn t
  refine Lw.callF rfl rfl (shift_p p1 2 _ h1) ?_
  rintro r w ⟨hn, a4, rfl, ha4, -, hz⟩
  replace hB := hB.bs hn
  replace ha1 := ha1.bs hn
  replace b1 := b1.bs hn
  replace ha2 := ha2.bs hn
  replace b2 := b2.bs hn
  replace ha3 := ha3.bs hn
  replace b3 := b3.bs hn
  clear hn
  have e0 : eSh p1.s p1.l 2 = 0 := by rw [s1, l1]; kernel_rfl
  obtain ⟨c4, d4, -⟩ := hz e0
  have d4 : a4.l = [1#32, BitVec.ofInt 32 (-1), 2#32, BitVec.ofInt 32 (-1)] := by rw [d4, s1, l1]; kernel_rfl
  have c4 : a4.s = [4] := by rw [c4, s1]; rfl
  rw [e0]
  clear hz e0
  refine Lw.val (Ex.move rfl) rfl ?_
  refine Lw.val (Ex.extract (i := 0) rfl rfl) rfl ?_
  refine Lw.val (Ex.extract (i := 1) rfl rfl) rfl ?_
  refine Lw.valW (Xw.new it_25) rfl ?_
  rintro _ w ⟨rfl, b, hn, -⟩
  refine Lw.unit (Xu.stA (cs := [a4.x, a4.y]) rfl rfl rfl rfl ha4.one b rfl) ?_
  rintro w ⟨b4, hg, -⟩
  have hn := hn.grown hg (below_size hn) (by rintro _ ⟨⟩; exact Nat.le_refl _)
  clear hg b
  replace hB := hB.bs hn
  replace ha1 := ha1.bs hn
  replace b1 := b1.bs hn
  replace ha2 := ha2.bs hn
  replace b2 := b2.bs hn
  replace ha3 := ha3.bs hn
  replace b3 := b3.bs hn
  replace ha4 := ha4.bs hn
  clear hn
  refine Lw.val (Ex.assign rfl) rfl ?_
  refine Lw.nil ?_
  refine Pw.thenN (Cw.out ?_)
  refine Cw.seq ?_
  refine Cw.region ?_
  clear h1
  refine Lw.valW (Xw.lit (vs := ([1000#32, BitVec.ofInt 32 (-1000)] : List (BitVec 32)).map i32) st_23 it_21 rfl (by kernel_rfl) rfl rfl rfl) rfl ?_
  rintro u w ⟨ho, -, hn, -⟩
  have t := own_slT ho
  clear ho
  replace hB := hB.bs hn
  replace ha1 := ha1.bs hn
  replace b1 := b1.bs hn
  replace ha2 := ha2.bs hn
  replace b2 := b2.bs hn
  replace ha3 := ha3.bs hn
  replace b3 := b3.bs hn
  replace ha4 := ha4.bs hn
  replace b4 := b4.bs hn
  clear hn
  refine Lw.callF rfl rfl (of_c u [1000#32, BitVec.ofInt 32 (-1000)] _ t) ?_
  rintro _ w ⟨p1, rfl, s1, l1, h1, hn⟩
  replace hB := hB.bs hn
  replace ha1 := ha1.bs hn
  replace b1 := b1.bs hn
  replace ha2 := ha2.bs hn
  replace b2 := b2.bs hn
  replace ha3 := ha3.bs hn
  replace b3 := b3.bs hn
  replace ha4 := ha4.bs hn
  replace b4 := b4.bs hn
  clear hn t
  refine Lw.callF rfl rfl (shift_p p1 0 _ h1) ?_
  rintro r w ⟨hn, a5, rfl, ha5, -, hz⟩
  replace hB := hB.bs hn
  replace ha1 := ha1.bs hn
  replace b1 := b1.bs hn
  replace ha2 := ha2.bs hn
  replace b2 := b2.bs hn
  replace ha3 := ha3.bs hn
  replace b3 := b3.bs hn
  replace ha4 := ha4.bs hn
  replace b4 := b4.bs hn
  clear hn
  have e0 : eSh p1.s p1.l 0 = 0 := by rw [s1, l1]; kernel_rfl
  obtain ⟨c5, d5, -⟩ := hz e0
  have d5 : a5.l = [127#32, BitVec.ofInt 32 (-128)] := by rw [d5, s1, l1]; kernel_rfl
  have c5 : a5.s = [2] := by rw [c5, s1]; rfl
  rw [e0]
  clear hz e0
  refine Lw.val (Ex.move rfl) rfl ?_
  refine Lw.val (Ex.extract (i := 0) rfl rfl) rfl ?_
  refine Lw.val (Ex.extract (i := 1) rfl rfl) rfl ?_
  refine Lw.valW (Xw.new it_25) rfl ?_
  rintro _ w ⟨rfl, b, hn, -⟩
  refine Lw.unit (Xu.stA (cs := [a5.x, a5.y]) rfl rfl rfl rfl ha5.one b rfl) ?_
  rintro w ⟨b5, hg, -⟩
  have hn := hn.grown hg (below_size hn) (by rintro _ ⟨⟩; exact Nat.le_refl _)
  clear hg b
  replace hB := hB.bs hn
  replace ha1 := ha1.bs hn
  replace b1 := b1.bs hn
  replace ha2 := ha2.bs hn
  replace b2 := b2.bs hn
  replace ha3 := ha3.bs hn
  replace b3 := b3.bs hn
  replace ha4 := ha4.bs hn
  replace b4 := b4.bs hn
  replace ha5 := ha5.bs hn
  clear hn
  refine Lw.val (Ex.assign rfl) rfl ?_
  refine Lw.nil ?_
  refine Pw.thenN (Cw.out ?_)
  refine Cw.seq ?_
  refine Cw.region ?_
  clear h1
  refine Lw.valW (Xw.lit (vs := ([1#32] : List (BitVec 32)).map i32) st_23 it_21 rfl (by kernel_rfl) rfl rfl rfl) rfl ?_
  rintro u w ⟨ho, -, hn, -⟩
  have t := own_slT ho
  clear ho
  replace hB := hB.bs hn
  replace ha1 := ha1.bs hn
  replace b1 := b1.bs hn
  replace ha2 := ha2.bs hn
  replace b2 := b2.bs hn
  replace ha3 := ha3.bs hn
  replace b3 := b3.bs hn
  replace ha4 := ha4.bs hn
  replace b4 := b4.bs hn
  replace ha5 := ha5.bs hn
  replace b5 := b5.bs hn
  clear hn
  refine Lw.callF rfl rfl (of_c u [1#32] _ t) ?_
  rintro _ w ⟨p1, rfl, s1, l1, h1, hn⟩
  replace hB := hB.bs hn
  replace ha1 := ha1.bs hn
  replace b1 := b1.bs hn
  replace ha2 := ha2.bs hn
  replace b2 := b2.bs hn
  replace ha3 := ha3.bs hn
  replace b3 := b3.bs hn
  replace ha4 := ha4.bs hn
  replace b4 := b4.bs hn
  replace ha5 := ha5.bs hn
  replace b5 := b5.bs hn
  clear hn t
  refine Lw.callF rfl rfl (shift_p p1 32 _ h1) ?_
  rintro r w ⟨hn, a6, rfl, ha6, -, -⟩
  replace hB := hB.bs hn
  replace ha1 := ha1.bs hn
  replace b1 := b1.bs hn
  replace ha2 := ha2.bs hn
  replace b2 := b2.bs hn
  replace ha3 := ha3.bs hn
  replace b3 := b3.bs hn
  replace ha4 := ha4.bs hn
  replace b4 := b4.bs hn
  replace ha5 := ha5.bs hn
  replace b5 := b5.bs hn
  clear hn
  have e0 : eSh p1.s p1.l 32 = 1 := by rw [s1, l1]; kernel_rfl
  rw [e0]
  refine Lw.val (Ex.move rfl) rfl ?_
  refine Lw.val (Ex.extract (i := 0) rfl rfl) rfl ?_
  refine Lw.val (Ex.extract (i := 1) rfl rfl) rfl ?_
  refine Lw.valW (Xw.new it_25) rfl ?_
  rintro _ w ⟨rfl, b, hn, -⟩
  refine Lw.unit (Xu.stA (cs := [a6.x, a6.y]) rfl rfl rfl rfl ha6.one b rfl) ?_
  rintro w ⟨b6, hg, -⟩
  have hn := hn.grown hg (below_size hn) (by rintro _ ⟨⟩; exact Nat.le_refl _)
  clear hg b
  replace hB := hB.bs hn
  replace ha1 := ha1.bs hn
  replace b1 := b1.bs hn
  replace ha2 := ha2.bs hn
  replace b2 := b2.bs hn
  replace ha3 := ha3.bs hn
  replace b3 := b3.bs hn
  replace ha4 := ha4.bs hn
  replace b4 := b4.bs hn
  replace ha5 := ha5.bs hn
  replace b5 := b5.bs hn
  replace ha6 := ha6.bs hn
  clear hn
  refine Lw.val (Ex.assign rfl) rfl ?_
  refine Lw.nil ?_
  refine Pw.thenN (Cw.out ?_)
  refine Cw.seq ?_
  refine Cw.region ?_
  refine Lw.valW (Xw.lit (vs := ([1#32] : List (BitVec 32)).map i32) st_23 it_21 rfl (by kernel_rfl) rfl rfl rfl) rfl ?_
  rintro u w ⟨ho, -, hn, -⟩
  have t := own_slT ho
  clear ho
  replace hB := hB.bs hn
  replace ha1 := ha1.bs hn
  replace b1 := b1.bs hn
  replace ha2 := ha2.bs hn
  replace b2 := b2.bs hn
  replace ha3 := ha3.bs hn
  replace b3 := b3.bs hn
  replace ha4 := ha4.bs hn
  replace b4 := b4.bs hn
  replace ha5 := ha5.bs hn
  replace b5 := b5.bs hn
  clear hn
  refine Lw.callF rfl rfl (of_c u [1#32] _ t) ?_
  rintro _ w ⟨p1, rfl, s1, l1, h1, hn⟩
  replace hB := hB.bs hn
  replace ha1 := ha1.bs hn
  replace b1 := b1.bs hn
  replace ha2 := ha2.bs hn
  replace b2 := b2.bs hn
  replace ha3 := ha3.bs hn
  replace b3 := b3.bs hn
  replace ha4 := ha4.bs hn
  replace b4 := b4.bs hn
  replace ha5 := ha5.bs hn
  replace b5 := b5.bs hn
  clear hn t
  refine Lw.valW (Xw.lit (vs := ([1#32, 2#32] : List (BitVec 32)).map i32) st_23 it_21 rfl (by kernel_rfl) rfl rfl rfl) rfl ?_
  rintro u w ⟨ho, -, hn, -⟩
  have t := own_slT ho
  clear ho
  replace hB := hB.bs hn
  replace ha1 := ha1.bs hn
  replace b1 := b1.bs hn
  replace ha2 := ha2.bs hn
  replace b2 := b2.bs hn
  replace ha3 := ha3.bs hn
  replace b3 := b3.bs hn
  replace ha4 := ha4.bs hn
  replace b4 := b4.bs hn
  replace ha5 := ha5.bs hn
  replace b5 := b5.bs hn
  replace h1 := h1.bs hn
  clear hn
  refine Lw.callF rfl rfl (of_c u [1#32, 2#32] _ t) ?_
  rintro _ w ⟨p2, rfl, s2, l2, h2, hn⟩
  replace hB := hB.bs hn
  replace ha1 := ha1.bs hn
  replace b1 := b1.bs hn
  replace ha2 := ha2.bs hn
  replace b2 := b2.bs hn
  replace ha3 := ha3.bs hn
  replace b3 := b3.bs hn
  replace ha4 := ha4.bs hn
  replace b4 := b4.bs hn
  replace ha5 := ha5.bs hn
  replace b5 := b5.bs hn
  replace h1 := h1.bs hn
  clear hn t
  refine Lw.callF rfl rfl (add_p p1 p2 _ h1 h2) ?_
  rintro r w ⟨hn, a7, rfl, ha7, -, -⟩
  replace hB := hB.bs hn
  replace ha1 := ha1.bs hn
  replace b1 := b1.bs hn
  replace ha2 := ha2.bs hn
  replace b2 := b2.bs hn
  replace ha3 := ha3.bs hn
  replace b3 := b3.bs hn
  replace ha4 := ha4.bs hn
  replace b4 := b4.bs hn
  replace ha5 := ha5.bs hn
  replace b5 := b5.bs hn
  clear hn
  have e0 : e2 p1.s p1.l p2.s p2.l = 10 := by rw [s1, l1, s2, l2]; kernel_rfl
  rw [e0]
  refine Lw.val (Ex.move rfl) rfl ?_
  refine Lw.val (Ex.extract (i := 0) rfl rfl) rfl ?_
  refine Lw.val (Ex.extract (i := 1) rfl rfl) rfl ?_
  refine Lw.valW (Xw.new it_25) rfl ?_
  rintro _ w ⟨rfl, b, hn, -⟩
  refine Lw.unit (Xu.stA (cs := [a7.x, a7.y]) rfl rfl rfl rfl ha7.one b rfl) ?_
  rintro w ⟨b7, hg, -⟩
  have hn := hn.grown hg (below_size hn) (by rintro _ ⟨⟩; exact Nat.le_refl _)
  clear hg b
  replace hB := hB.bs hn
  replace ha1 := ha1.bs hn
  replace b1 := b1.bs hn
  replace ha2 := ha2.bs hn
  replace b2 := b2.bs hn
  replace ha3 := ha3.bs hn
  replace b3 := b3.bs hn
  replace ha4 := ha4.bs hn
  replace b4 := b4.bs hn
  replace ha5 := ha5.bs hn
  replace b5 := b5.bs hn
  replace ha7 := ha7.bs hn
  clear hn
  refine Lw.val (Ex.assign rfl) rfl ?_
  refine Lw.nil ?_
  refine Pw.thenN (Cw.out ?_)
  refine Cw.seq ?_
  refine Cw.region ?_
  refine Lw.val (Ex.ldA (ag_25 _) (sz_25 _) rfl rfl (by assumption)) rfl ?_
  refine Lw.val (Ex.move rfl) rfl ?_
  refine Lw.valW (Xw.lit (vs := ([4#32, BitVec.ofInt 32 (-2147483647)] : List (BitVec 32)).map i32) st_23 it_21 rfl (by kernel_rfl) rfl rfl rfl) rfl ?_
  rintro u w ⟨ho, -, hn, -⟩
  have t := own_slT ho
  clear ho
  replace hB := hB.bs hn
  replace ha1 := ha1.bs hn
  replace b1 := b1.bs hn
  replace ha2 := ha2.bs hn
  replace b2 := b2.bs hn
  replace ha3 := ha3.bs hn
  replace b3 := b3.bs hn
  replace ha4 := ha4.bs hn
  replace b4 := b4.bs hn
  replace ha5 := ha5.bs hn
  replace b5 := b5.bs hn
  clear hn
  refine Lw.callF rfl rfl (is_c a1 _ u [4#32, BitVec.ofInt 32 (-2147483647)] _ ha1 t) ?_
  rintro _ w ⟨rfl, hn⟩
  replace hB := hB.bs hn
  replace ha1 := ha1.bs hn
  replace b1 := b1.bs hn
  replace ha2 := ha2.bs hn
  replace b2 := b2.bs hn
  replace ha3 := ha3.bs hn
  replace b3 := b3.bs hn
  replace ha4 := ha4.bs hn
  replace b4 := b4.bs hn
  replace ha5 := ha5.bs hn
  replace b5 := b5.bs hn
  clear hn t
  rw [c1, d1]
  refine Lw.val (Ex.move rfl) rfl ?_
  refine Lw.know 67 (v' := .bool true) rfl (congrArg Value.bool (by kernel_rfl)) ?_
  refine Lw.take (dj := 67) rfl rfl ?_
  refine Lw.val (Ex.ldA (ag_25 _) (sz_25 _) rfl rfl (by assumption)) rfl ?_
  refine Lw.take (dj := 67) rfl rfl ?_
  refine Lw.val (Ex.move rfl) rfl ?_
  refine Lw.take (dj := 67) rfl rfl ?_
  refine Lw.valW (Xw.lit (vs := ([BitVec.ofInt 32 (-12)] : List (BitVec 32)).map i32) st_23 it_21 rfl (by kernel_rfl) rfl rfl rfl) rfl ?_
  rintro u w ⟨ho, -, hn, -⟩
  have t := own_slT ho
  clear ho
  replace hB := hB.bs hn
  replace ha1 := ha1.bs hn
  replace b1 := b1.bs hn
  replace ha2 := ha2.bs hn
  replace b2 := b2.bs hn
  replace ha3 := ha3.bs hn
  replace b3 := b3.bs hn
  replace ha4 := ha4.bs hn
  replace b4 := b4.bs hn
  replace ha5 := ha5.bs hn
  replace b5 := b5.bs hn
  clear hn
  refine Lw.take (dj := 67) rfl rfl ?_
  refine Lw.callF rfl rfl (is_c a2 _ u [BitVec.ofInt 32 (-12)] _ ha2 t) ?_
  rintro _ w ⟨rfl, hn⟩
  replace hB := hB.bs hn
  replace ha1 := ha1.bs hn
  replace b1 := b1.bs hn
  replace ha2 := ha2.bs hn
  replace b2 := b2.bs hn
  replace ha3 := ha3.bs hn
  replace b3 := b3.bs hn
  replace ha4 := ha4.bs hn
  replace b4 := b4.bs hn
  replace ha5 := ha5.bs hn
  replace b5 := b5.bs hn
  clear hn t
  rw [c2, d2]
  refine Lw.val (Ex.pickT rfl rfl) rfl ?_
  refine Lw.val (Ex.move rfl) rfl ?_
  refine Lw.know 73 (v' := .bool true) rfl (congrArg Value.bool (by kernel_rfl)) ?_
  refine Lw.take (dj := 73) rfl rfl ?_
  refine Lw.val (Ex.ldA (ag_25 _) (sz_25 _) rfl rfl (by assumption)) rfl ?_
  refine Lw.take (dj := 73) rfl rfl ?_
  refine Lw.val (Ex.move rfl) rfl ?_
  refine Lw.take (dj := 73) rfl rfl ?_
  refine Lw.valW (Xw.lit (vs := ([0#32, 5#32] : List (BitVec 32)).map i32) st_23 it_21 rfl (by kernel_rfl) rfl rfl rfl) rfl ?_
  rintro u w ⟨ho, -, hn, -⟩
  have t := own_slT ho
  clear ho
  replace hB := hB.bs hn
  replace ha1 := ha1.bs hn
  replace b1 := b1.bs hn
  replace ha2 := ha2.bs hn
  replace b2 := b2.bs hn
  replace ha3 := ha3.bs hn
  replace b3 := b3.bs hn
  replace ha4 := ha4.bs hn
  replace b4 := b4.bs hn
  replace ha5 := ha5.bs hn
  replace b5 := b5.bs hn
  clear hn
  refine Lw.take (dj := 73) rfl rfl ?_
  refine Lw.callF rfl rfl (is_c a3 _ u [0#32, 5#32] _ ha3 t) ?_
  rintro _ w ⟨rfl, hn⟩
  replace hB := hB.bs hn
  replace ha1 := ha1.bs hn
  replace b1 := b1.bs hn
  replace ha2 := ha2.bs hn
  replace b2 := b2.bs hn
  replace ha3 := ha3.bs hn
  replace b3 := b3.bs hn
  replace ha4 := ha4.bs hn
  replace b4 := b4.bs hn
  replace ha5 := ha5.bs hn
  replace b5 := b5.bs hn
  clear hn t
  rw [c3, d3]
  refine Lw.val (Ex.pickT rfl rfl) rfl ?_
  refine Lw.val (Ex.move rfl) rfl ?_
  refine Lw.know 79 (v' := .bool true) rfl (congrArg Value.bool (by kernel_rfl)) ?_
  refine Lw.take (dj := 79) rfl rfl ?_
  refine Lw.val (Ex.ldA (ag_25 _) (sz_25 _) rfl rfl (by assumption)) rfl ?_
  refine Lw.take (dj := 79) rfl rfl ?_
  refine Lw.val (Ex.move rfl) rfl ?_
  refine Lw.take (dj := 79) rfl rfl ?_
  refine Lw.valW (Xw.lit (vs := ([1#32, BitVec.ofInt 32 (-1), 2#32, BitVec.ofInt 32 (-1)] : List (BitVec 32)).map i32) st_23 it_21 rfl (by kernel_rfl) rfl rfl rfl) rfl ?_
  rintro u w ⟨ho, -, hn, -⟩
  have t := own_slT ho
  clear ho
  replace hB := hB.bs hn
  replace ha1 := ha1.bs hn
  replace b1 := b1.bs hn
  replace ha2 := ha2.bs hn
  replace b2 := b2.bs hn
  replace ha3 := ha3.bs hn
  replace b3 := b3.bs hn
  replace ha4 := ha4.bs hn
  replace b4 := b4.bs hn
  replace ha5 := ha5.bs hn
  replace b5 := b5.bs hn
  clear hn
  refine Lw.take (dj := 79) rfl rfl ?_
  refine Lw.callF rfl rfl (is_c a4 _ u [1#32, BitVec.ofInt 32 (-1), 2#32, BitVec.ofInt 32 (-1)] _ ha4 t) ?_
  rintro _ w ⟨rfl, hn⟩
  replace hB := hB.bs hn
  replace ha1 := ha1.bs hn
  replace b1 := b1.bs hn
  replace ha2 := ha2.bs hn
  replace b2 := b2.bs hn
  replace ha3 := ha3.bs hn
  replace b3 := b3.bs hn
  replace ha4 := ha4.bs hn
  replace b4 := b4.bs hn
  replace ha5 := ha5.bs hn
  replace b5 := b5.bs hn
  clear hn t
  rw [c4, d4]
  refine Lw.val (Ex.pickT rfl rfl) rfl ?_
  refine Lw.val (Ex.move rfl) rfl ?_
  refine Lw.know 85 (v' := .bool true) rfl (congrArg Value.bool (by kernel_rfl)) ?_
  refine Lw.take (dj := 85) rfl rfl ?_
  refine Lw.val (Ex.ldA (ag_25 _) (sz_25 _) rfl rfl (by assumption)) rfl ?_
  refine Lw.take (dj := 85) rfl rfl ?_
  refine Lw.val (Ex.move rfl) rfl ?_
  refine Lw.take (dj := 85) rfl rfl ?_
  refine Lw.valW (Xw.lit (vs := ([127#32, BitVec.ofInt 32 (-128)] : List (BitVec 32)).map i32) st_23 it_21 rfl (by kernel_rfl) rfl rfl rfl) rfl ?_
  rintro u w ⟨ho, -, hn, -⟩
  have t := own_slT ho
  clear ho
  replace hB := hB.bs hn
  replace ha1 := ha1.bs hn
  replace b1 := b1.bs hn
  replace ha2 := ha2.bs hn
  replace b2 := b2.bs hn
  replace ha3 := ha3.bs hn
  replace b3 := b3.bs hn
  replace ha4 := ha4.bs hn
  replace b4 := b4.bs hn
  replace ha5 := ha5.bs hn
  replace b5 := b5.bs hn
  clear hn
  refine Lw.take (dj := 85) rfl rfl ?_
  refine Lw.callF rfl rfl (is_c a5 _ u [127#32, BitVec.ofInt 32 (-128)] _ ha5 t) ?_
  rintro _ w ⟨rfl, hn⟩
  replace hB := hB.bs hn
  replace ha1 := ha1.bs hn
  replace b1 := b1.bs hn
  replace ha2 := ha2.bs hn
  replace b2 := b2.bs hn
  replace ha3 := ha3.bs hn
  replace b3 := b3.bs hn
  replace ha4 := ha4.bs hn
  replace b4 := b4.bs hn
  replace ha5 := ha5.bs hn
  replace b5 := b5.bs hn
  clear hn t
  rw [c5, d5]
  refine Lw.val (Ex.pickT rfl rfl) rfl ?_
  refine Lw.val (Ex.move rfl) rfl ?_
  refine Lw.know 91 (v' := .bool true) rfl (congrArg Value.bool (by kernel_rfl)) ?_
  refine Lw.take (dj := 91) rfl rfl ?_
  refine Lw.val (Ex.move rfl) rfl ?_
  refine Lw.take (dj := 91) rfl rfl ?_
  refine Lw.val (Ex.eql rfl rfl) rfl ?_
  refine Lw.val (Ex.pickT rfl rfl) rfl ?_
  refine Lw.val (Ex.move rfl) rfl ?_
  refine Lw.know 95 (v' := .bool true) rfl (congrArg Value.bool (rfl)) ?_
  refine Lw.take (dj := 95) rfl rfl ?_
  refine Lw.val (Ex.move rfl) rfl ?_
  refine Lw.take (dj := 95) rfl rfl ?_
  refine Lw.val (Ex.eql rfl rfl) rfl ?_
  refine Lw.val (Ex.pickT rfl rfl) rfl ?_
  refine Lw.val (Ex.assign rfl) rfl ?_
  refine Lw.nil ?_
  refine Pw.thenN (Cw.out ?_)
  refine Cw.ret ?_
  refine Pw.ret1 rfl rfl ?_
  exact ⟨rfl, hB⟩

/-! How great an argument is. -/
def tsz (s : List Int) (l : List (BitVec 32)) : Int := if 1 + (s.length : Int) ≤ 1048576 then 1 + (s.length : Int) + (l.length : Int) else 1 + (s.length : Int)
def bey (n : Int) : List Int → Bool
  | [] => false
  | x :: l => if 1048576 < n + x then true else bey (n + x) l
theorem bey_no : ∀ {l : List Int} {n : Int}, 0 ≤ n → (∀ x ∈ l, 0 ≤ x) → bey n l = false → ∀ x ∈ l, x ≤ 1048576
  | [], _, _, _, _ => by simp
  | x :: l, n, h0, hx, h => by
    have h1 := hx x (by simp)
    simp only [bey] at h
    split at h
    · cases h
    · intro y hy
      rcases List.mem_cons.1 hy with rfl | hy
      · omega
      · exact bey_no (by omega) (fun z hz => hx z (by simp [hz])) h y hy
theorem bey_drop {l : List Int} {i : Nat} {n : Int} (h : i < l.length) : bey n (l.drop i) = (if 1048576 < n + l.getD i default then true else bey (n + l.getD i default) (l.drop (i + 1))) := by
  rw [List.drop_eq_getElem_cons h]; simp [bey, h]

theorem intsSize_c (u : Value) (l : List Int) (w : World) (hu : SlT (Value.int .i64) w u l) : Fnc Try.prog 29 [u] w (fun r w' => r = .int .i64 (l.length : Int) ∧ Below w.heap.size w w') := by
  refine Fnc.enter (n := 5) Try.func29 (by kernel_rfl) rfl rfl rfl ?_
  refine Cw.seq ?_
  refine Cw.region ?_
  refine Lw.val (Ex.assign rfl) rfl ?_
  refine Lw.nil ?_
  refine Pw.thenN (Cw.out ?_)
  refine Cw.seq ?_
  refine Cw.region ?_
  refine Lw.val (Ex.move rfl) rfl ?_
  refine Lw.val (Ex.lenS st_22 rfl (by assumption)) rfl ?_
  refine Lw.val (Ex.assign rfl) rfl ?_
  refine Lw.nil ?_
  refine Pw.thenN (Cw.out ?_)
  refine Cw.ret ?_
  refine Pw.ret1 rfl rfl ?_
  exact ⟨rfl, Below.refl _ _⟩
theorem numsSize_c (u : Value) (l : List (BitVec 32)) (w : World) (hu : SlT i32 w u l) : Fnc Try.prog 30 [u] w (fun r w' => r = .int .i64 (l.length : Int) ∧ Below w.heap.size w w') := by
  refine Fnc.enter (n := 5) Try.func30 (by kernel_rfl) rfl rfl rfl ?_
  refine Cw.seq ?_
  refine Cw.region ?_
  refine Lw.val (Ex.assign rfl) rfl ?_
  refine Lw.nil ?_
  refine Pw.thenN (Cw.out ?_)
  refine Cw.seq ?_
  refine Cw.region ?_
  refine Lw.val (Ex.move rfl) rfl ?_
  refine Lw.val (Ex.lenS st_23 rfl (by assumption)) rfl ?_
  refine Lw.val (Ex.assign rfl) rfl ?_
  refine Lw.nil ?_
  refine Pw.thenN (Cw.out ?_)
  refine Cw.ret ?_
  refine Pw.ret1 rfl rfl ?_
  exact ⟨rfl, Below.refl _ _⟩

theorem tsize_c (a : T4) (w : World) (ha : a.at w) (hs : a.s.length ≤ 1125899906842624) (hl : a.l.length ≤ 1125899906842624) : Fnc Try.prog 15 [a.v] w (fun r w' => r = .int .i64 (tsz a.s a.l) ∧ Below w.heap.size w w') := by
  have hB := Below.refl w.heap.size w
  refine Fnc.enter (n := 19) Try.func15 (by kernel_rfl) rfl rfl rfl ?_
  refine Cw.seq ?_
  refine Cw.region ?_
  refine Lw.valW (Xw.box (cs := [a.x, a.y]) rfl rfl) rfl ?_
  rintro _ w1 ⟨rfl, b, hn, -⟩
  replace hB := hB.bs hn
  replace ha := ha.bs hn
  have hx := ha.1
  refine Lw.val (Ex.assign rfl) rfl ?_
  refine Lw.nil ?_
  refine Pw.thenN (Cw.out ?_)
  refine Cw.seq ?_
  refine Cw.region ?_
  refine Lw.val (Ex.assign rfl) rfl ?_
  refine Lw.nil ?_
  refine Pw.thenN (Cw.out ?_)
  refine Cw.seq ?_
  refine Cw.seq ?_
  refine Cw.region ?_
  refine Lw.val (Ex.move rfl) rfl ?_
  refine Lw.val (Ex.leq rfl rfl) rfl ?_
  refine Lw.nil ?_
  refine Pw.thenN (Cw.out ?_)
  refine Cw.condB rfl true (by decide) ?_
  refine Cw.region ?_
  refine Lw.val (Ex.move rfl) rfl ?_
  refine Lw.val (Ex.fieldAddr (q := 0) Try.underlying25 rfl (sz_22 _) rfl) rfl ?_
  refine Lw.val (Ex.ldB (ag_22 _) rfl (by assumption) rfl) rfl ?_
  refine Lw.callF rfl rfl (intsSize_c a.x a.s w1 ha.1) ?_
  rintro _ w2 ⟨rfl, hn⟩
  replace hB := hB.bs hn
  replace ha := ha.bs hn
  replace b := b.bs hn
  refine Lw.val (Ex.addI rfl rfl (by omega)) rfl ?_
  refine Lw.val (Ex.assign rfl) rfl ?_
  refine Lw.nil ?_
  refine Pw.thenN (Cw.out ?_)
  refine Cw.seq ?_
  refine Cw.seq ?_
  refine Cw.region ?_
  refine Lw.val (Ex.move rfl) rfl ?_
  refine Lw.val (Ex.leq rfl rfl) rfl ?_
  refine Lw.nil ?_
  refine Pw.thenN (Cw.out ?_)
  refine Cw.cond rfl ?_ ?_
  · intro g
    have g' := of_decide_eq_true g
    refine Cw.region ?_
    refine Lw.val (Ex.move rfl) rfl ?_
    refine Lw.val (Ex.fieldAddr (q := 0) Try.underlying25 rfl (sz_23 _) rfl) rfl ?_
    refine Lw.val (Ex.ldB (ag_23 _) rfl (by assumption) rfl) rfl ?_
    refine Lw.callF rfl rfl (numsSize_c a.y a.l w2 ha.2) ?_
    rintro _ w3 ⟨rfl, hn⟩
    replace hB := hB.bs hn
    replace ha := ha.bs hn
    replace b := b.bs hn
    refine Lw.val (Ex.addI rfl rfl (by omega)) rfl ?_
    refine Lw.val (Ex.assign rfl) rfl ?_
    refine Lw.nil ?_
    refine Pw.thenN (Cw.out ?_)
    refine Cw.seq ?_
    refine Cw.region ?_
    refine Lw.val (Ex.move rfl) rfl ?_
    refine Lw.val (Ex.assign rfl) rfl ?_
    refine Lw.nil ?_
    refine Pw.thenN (Cw.out ?_)
    refine Cw.ret ?_
    refine Pw.ret1 rfl rfl ?_
    exact ⟨by rw [tsz, if_pos g'], hB⟩
  · intro g
    have g' := of_decide_eq_false g
    refine Cw.skip ?_
    refine Pw.thenN (Cw.out ?_)
    refine Cw.seq ?_
    refine Cw.region ?_
    refine Lw.val (Ex.move rfl) rfl ?_
    refine Lw.val (Ex.assign rfl) rfl ?_
    refine Lw.nil ?_
    refine Pw.thenN (Cw.out ?_)
    refine Cw.ret ?_
    refine Pw.ret1 rfl rfl ?_
    exact ⟨by rw [tsz, if_neg g'], hB⟩

theorem beyond_c (u : Value) (l : List Int) (w : World) (hu : SlT (Value.int .i64) w u l) (hb : ∀ x ∈ l, 0 ≤ x ∧ x ≤ 4503599627370496) : Fnc Try.prog 14 [u] w (fun r w' => r = .bool (bey 0 l) ∧ Below w.heap.size w w') := by
  have hle := hu.le
  refine Fnc.enter (n := 19) Try.func14 (by kernel_rfl) rfl rfl rfl ?_
  refine Cw.seq ?_
  refine Cw.region ?_
  refine Lw.val (Ex.assign rfl) rfl ?_
  refine Lw.nil ?_
  refine Pw.thenN (Cw.out ?_)
  refine Cw.seq ?_
  refine Cw.region ?_
  refine Lw.val (Ex.assign rfl) rfl ?_
  refine Lw.nil ?_
  refine Pw.thenN (Cw.out ?_)
  refine Cw.seq ?_
  refine Cw.seq ?_
  refine Cw.region ?_
  refine Lw.val (Ex.assign rfl) rfl ?_
  refine Lw.nil ?_
  refine Pw.thenN (Cw.out ?_)
  refine Cw.block ?_
  refine Cw.loop (S := (Nat × Int)) (fun s => [(0, u), (3, .int .i64 s.2), (4, .int .i64 (s.1 : Int))]) (fun s w' => s.1 ≤ l.length ∧ (0 ≤ s.2 ∧ s.2 ≤ 1048576) ∧ bey s.2 (l.drop s.1) = bey 0 l ∧ w' = w) (fun s => l.length - s.1) ((0, 0)) ⟨rfl, rfl, rfl, trivial⟩ ?_ ?_
  · exact ⟨by simp, by simp, by simp, rfl⟩
  rintro ⟨i, n⟩ w1 ⟨hi, hn, ht, rfl⟩
  dsimp only at hi hn ht ⊢
  refine Cw.seq ?_
  refine Cw.seq ?_
  refine Cw.region ?_
  refine Lw.val (Ex.move rfl) rfl ?_
  refine Lw.val (Ex.move rfl) rfl ?_
  refine Lw.val (Ex.lenS st_22 rfl (by assumption)) rfl ?_
  refine Lw.val (Ex.lss rfl rfl) rfl ?_
  refine Lw.nil ?_
  refine Pw.thenN (Cw.out ?_)
  refine Cw.cond rfl ?_ ?_
  · intro h
    have hi' : i < l.length := by simp at h; omega
    have hx : 0 ≤ l.getD i default ∧ l.getD i default ≤ 4503599627370496 := by
      have := hb l[i] (List.getElem_mem hi')
      simpa [hi'] using this
    rw [bey_drop hi'] at ht
    refine Cw.skip ?_
    refine Pw.thenN (Cw.out ?_)
    refine Cw.seq ?_
    refine Cw.block ?_
    refine Cw.seq ?_
    refine Cw.region ?_
    refine Lw.val (Ex.move rfl) rfl ?_
    refine Lw.val (Ex.move rfl) rfl ?_
    refine Lw.val (Ex.move rfl) rfl ?_
    refine Lw.val (Ex.idxT st_22 rfl rfl (by assumption) _ rfl (by omega)) rfl ?_
    refine Lw.val (Ex.ldT (ag_3 _) rfl (by assumption) (by omega)) rfl ?_
    refine Lw.val (Ex.addI rfl rfl (by omega)) rfl ?_
    refine Lw.val (Ex.assign rfl) rfl ?_
    refine Lw.nil ?_
    refine Pw.thenN (Cw.out ?_)
    refine Cw.seq ?_
    refine Cw.region ?_
    refine Lw.val (Ex.move rfl) rfl ?_
    refine Lw.val (Ex.gtr rfl rfl) rfl ?_
    refine Lw.nil ?_
    refine Pw.thenN (Cw.out ?_)
    refine Cw.cond rfl ?_ ?_
    · intro g
      have g' := of_decide_eq_true g
      refine Cw.seq ?_
      refine Cw.region ?_
      refine Lw.val (Ex.assign rfl) rfl ?_
      refine Lw.nil ?_
      refine Pw.thenN (Cw.out ?_)
      refine Cw.ret ?_
      refine Pw.blkR ?_
      refine Pw.thenR ?_
      refine Pw.thenR ?_
      refine Pw.blkR ?_
      refine Pw.thenR ?_
      refine Pw.ret1 rfl rfl ?_
      exact ⟨by rw [← ht, if_pos g'], Below.refl _ _⟩
    · intro g
      have g' := of_decide_eq_false g
      rw [if_neg g'] at ht
      refine Cw.skip ?_
      refine Pw.blkN ?_
      refine Pw.thenN (Cw.out ?_)
      refine Cw.region ?_
      refine Lw.val (Ex.move rfl) rfl ?_
      refine Lw.val (Ex.addI rfl rfl (by omega)) rfl ?_
      refine Lw.val (Ex.assign rfl) rfl ?_
      refine Lw.nil ?_
      exact Pw.thenN (Pw.next ((i + 1, n + l.getD i default)) ⟨rfl, rfl, rfl, trivial⟩ (⟨hi', ⟨by simp only; omega, by simp only; omega⟩, ht, rfl⟩) (by simp only; omega))
  · intro h
    have hi' : i = l.length := by simp at h; omega
    subst hi'
    refine Cw.exit ?_
    refine Pw.thenE ?_
    refine Pw.thenE ?_
    refine Pw.blkHit ?_
    refine Pw.thenN (Cw.out ?_)
    refine Cw.seq ?_
    refine Cw.region ?_
    refine Lw.val (Ex.assign rfl) rfl ?_
    refine Lw.nil ?_
    refine Pw.thenN (Cw.out ?_)
    refine Cw.ret ?_
    refine Pw.ret1 rfl rfl ?_
    exact ⟨by rw [← ht, List.drop_length]; rfl, Below.refl _ _⟩
end Go.Proofs.Ythgckokpdgiilaa
