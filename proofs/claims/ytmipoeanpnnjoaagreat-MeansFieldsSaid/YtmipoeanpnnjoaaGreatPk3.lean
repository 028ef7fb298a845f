/- Texts of this proof, one behind the other: MathsLaw, TensorsArg, TwinTensor, ProductsCode, WinCode. -/
import Derived.Test.YtmipoeanpnnjoaaGreatPk2
import Derived.Test.YtmipoeanpnnjoaaGreatPk1

/-! Contracts: what the statements on tensors use besides. -/
namespace Go.Proofs.YtmipoeanpnnjoaaGreat
open Go Go.Dd Go.RowKit
set_option maxRecDepth 100000

/-- An answer, as a tensor. -/
theorem Ans.get {W w : World} {r : Value} {e : Int} {s : List Int} {l : List (BitVec 32)} (h : Ans W w r e s l) : ∃ a : T4, r = .tuple #[a.v, .int .i64 e] ∧ a.at w ∧ (e ≠ 0 → a.s = [] ∧ a.l = [] ∧ a.x = .slice none 0 0 ∧ a.y = .slice none 0 0) ∧ (e = 0 → a.s = s ∧ a.l = l ∧ Made1 W w a.x a.y s l) := by
  obtain ⟨x, y, rfl, q1, q2⟩ := h
  by_cases he : e = 0
  · exact ⟨⟨x, y, s, l⟩, rfl, (q2 he).at, fun h => absurd he h, fun _ => ⟨rfl, rfl, q2 he⟩⟩
  · obtain ⟨rfl, rfl⟩ := q1 he
    exact ⟨⟨_, _, [], []⟩, rfl, nilT w, fun _ => ⟨rfl, rfl, rfl, rfl⟩, fun h => absurd h he⟩

/-! What is reckoned, without memory. -/
def e2 (s : List Int) (l : List (BitVec 32)) (t : List Int) (m : List (BitVec 32)) : Int := if tok s l && tok t m then (if t = s then 0 else 10) else 1
def e1 (s : List Int) (l : List (BitVec 32)) : Int := if tok s l then 0 else 1
def z2 (f : BitVec 32 → BitVec 32 → BitVec 32) (s : List Int) (l m : List (BitVec 32)) : List (BitVec 32) := (List.range (Shapes.size s).toNat).map fun i => f (l.getD i default) (m.getD i default)
def z1 (f : BitVec 32 → BitVec 32) (s : List Int) (l : List (BitVec 32)) : List (BitVec 32) := (List.range (Shapes.size s).toNat).map fun i => f (l.getD i default)
theorem ofE_two (a b : T4) : ofE [a, b] a.s = e2 a.s a.l b.s b.l := by
  simp only [ofE, e2, List.all_cons, List.all_nil, T4.ok, Bool.and_true, decide_true, Bool.true_and, decide_eq_true_eq]
theorem ofE_one (a : T4) : ofE [a] a.s = e1 a.s a.l := by
  simp [ofE, e1, T4.ok]

theorem Ans.gets {W w : World} {r : Value} {e : Int} {s : List Int} {l : List (BitVec 32)} (h : Ans W w r e s l) : Gets W w r e s l := by
  obtain ⟨a, h1, h2, h3, h4⟩ := h.get
  exact ⟨a, h1, h2, fun h => ⟨(h3 h).1, (h3 h).2.1⟩, h4⟩
theorem add_p (a b : T4) (W : World) (ha : a.at W) (hb : b.at W) : Fnc Tryz.prog 73 [a.v, b.v] W (fun r w' => Below W.heap.size W w' ∧ Gets W w' r (e2 a.s a.l b.s b.l) a.s (z2 (· + ·) a.s a.l b.l)) :=
  (add_c a b W ha hb).mono fun r w' ⟨h1, h2⟩ => ⟨h1, by rw [ofE_two] at h2; exact h2.gets⟩
theorem mul_p (a b : T4) (W : World) (ha : a.at W) (hb : b.at W) : Fnc Tryz.prog 17 [a.v, b.v] W (fun r w' => Below W.heap.size W w' ∧ Gets W w' r (e2 a.s a.l b.s b.l) a.s (z2 (· * ·) a.s a.l b.l)) :=
  (mul_c a b W ha hb).mono fun r w' ⟨h1, h2⟩ => ⟨h1, by rw [ofE_two] at h2; exact h2.gets⟩
theorem relu_p (a : T4) (W : World) (ha : a.at W) : Fnc Tryz.prog 77 [a.v] W (fun r w' => Below W.heap.size W w' ∧ Gets W w' r (e1 a.s a.l) a.s (z1 reluB a.s a.l)) :=
  (relu_c a W ha).mono fun r w' ⟨h1, h2⟩ => ⟨h1, by rw [ofE_one] at h2; exact h2.gets⟩
def shB (j : Nat) (x : BitVec 32) : BitVec 32 := BitVec.ofInt 32 (shI j x.toInt)
def eSh (s : List Int) (l : List (BitVec 32)) (n : Int) : Int := if n < 0 ∨ 31 < n then 1 else e1 s l
theorem shift_p (a : T4) (n : Int) (W : World) (ha : a.at W) : Fnc Tryz.prog 79 [a.v, .int .i64 n] W (fun r w' => Below W.heap.size W w' ∧ Gets W w' r (eSh a.s a.l n) a.s (z1 (shB n.toNat) a.s a.l)) :=
  (shift_c a n W ha).mono fun r w' ⟨h1, h2⟩ => ⟨h1, by unfold shE at h2; rw [ofE_one] at h2; exact h2.gets⟩




end Go.Proofs.YtmipoeanpnnjoaaGreat

/-! A tensor as a statement's argument. -/
namespace Go.Proofs.YtmipoeanpnnjoaaGreat
open Go Go.Dd Go.RowKit Go.ChangeShapes Go.WideShapes
set_option maxRecDepth 100000

theorem two_of {α : Type} {l : List α} (h : l.length = 2) : ∃ a b, l = [a, b] := by
  match l, h with
  | [a, b], _ => exact ⟨a, b, rfl⟩

theorem in_ten {H : Type} {enc : TypeId × Value → H} {w : World} {cs : List Value} (h : In enc Tryz.prog w 29 cs) : ∃ a : T4, cs = [a.x, a.y] ∧ a.at w ∧ a.s.length ≤ 17592186044416 ∧ a.l.length ≤ 35184372088832 := by
  obtain ⟨hlen, hel⟩ := h.struct Tryz.underlying29
  have c2 : Tryz.prog.cellsOf 29 = 2 := by kernel_rfl
  have c1 : Tryz.prog.cellsOf 26 = 1 := by kernel_rfl
  have d1 : Tryz.prog.cellsOf 27 = 1 := by kernel_rfl
  rw [c2] at hlen
  obtain ⟨x, y, rfl⟩ := two_of hlen
  obtain ⟨u0, s, e0, h0, q0⟩ := (hel 0 _ rfl).slT un_26 (by kernel_rfl) (fun cs h => (In.int un_3 h).imp fun _ h => h.1)
  obtain ⟨u1, l, e1, h1, q1⟩ := (hel 1 _ rfl).slT un_27 (by kernel_rfl) (fun cs h => In.num (BitVec.ofInt 32) i32 (fun _ h => wf_i32 h) un_21 h)
  have k0 : Tryz.prog.bytesOf 3 = 8 := by kernel_rfl
  have k1 : Tryz.prog.bytesOf 21 = 4 := by kernel_rfl
  rw [k0] at q0
  rw [k1] at q1
  simp [c1, d1] at e0 e1
  subst e0 e1
  have hr : reachBytes ≤ 140737488355328 := by decide
  exact ⟨⟨x, y, s, l⟩, rfl, ⟨h0, h1⟩, by simp only; omega, by simp only; omega⟩

end Go.Proofs.YtmipoeanpnnjoaaGreat

/-! Contract: a tensor's twin, in memory of its own. -/
namespace Go.Proofs.YtmipoeanpnnjoaaGreat
open Go Go.Dd Go.RowKit
set_option maxRecDepth 100000

theorem _root_.Go.Dd.Twn.own {α : Type} {w : World} {base : Nat} {T : TypeId} {enc : α → Value} {mark v : Value} {l : List α} (h : Twn w base T enc mark v l) : w.ownsRow base T 1 v l.length (l.map enc) := by
  obtain ⟨b, cap, rfl, ho⟩ := h
  exact own_short ho (by simp)


end Go.Proofs.YtmipoeanpnnjoaaGreat

/-! Contracts: rows with columns. -/
namespace Go.Proofs.YtmipoeanpnnjoaaGreat
open Go Go.Dd Go.RowKit
set_option maxRecDepth 100000

def pshE (a b : List Int) : Int := if Shapes.ok a && Shapes.ok b then (if a.length = 2 ∧ b.length = 2 ∧ a.getD 1 default = b.getD 0 default then 0 else 10) else 1
theorem pshE_no {a b : List Int} (h : Shapes.ok a = false ∨ Shapes.ok b = false) : pshE a b = 1 := by
  unfold pshE
  rw [if_neg]
  rcases h with h | h <;> simp [h]
theorem pshE_ten {a b : List Int} (h1 : Shapes.ok a = true) (h2 : Shapes.ok b = true) (h : ¬ (a.length = 2 ∧ b.length = 2 ∧ a.getD 1 default = b.getD 0 default)) : pshE a b = 10 := by
  unfold pshE
  rw [h1, h2, if_neg h]; rfl
theorem pshE_yes {a b : List Int} (h1 : Shapes.ok a = true) (h2 : Shapes.ok b = true) (h : a.length = 2 ∧ b.length = 2 ∧ a.getD 1 default = b.getD 0 default) : pshE a b = 0 := by
  unfold pshE
  rw [h1, h2, if_pos h]; rfl

/-- What Shape tells. -/
def PShp (W w : World) (r : Value) (a b : List Int) : Prop :=
  ∃ x, r = .tuple #[x, .int .i64 (pshE a b)] ∧ (pshE a b ≠ 0 → x = .slice none 0 0) ∧ (pshE a b = 0 → w.ownsRow W.heap.size 3 1 x 2 ([a.getD 0 default, b.getD 1 default].map (Value.int .i64)))

theorem pshape_c (u v : Value) (a b : List Int) (W : World) (hu : SlT (Value.int .i64) W u a) (hv : SlT (Value.int .i64) W v b) :
    Fnc Tryz.prog 65 [u, v] W (fun r w' => Below W.heap.size W w' ∧ PShp W w' r a b) := by
  have hB := Below.refl W.heap.size W
  refine Fnc.enter (n := 40) Tryz.func65 (by kernel_rfl) rfl rfl rfl ?_
  refine Cw.seq ?_
  refine Cw.region ?_
  refine Lw.val (Ex.assign rfl) rfl ?_
  refine Lw.val (Ex.assign rfl) rfl ?_
  refine Lw.nil ?_
  refine Pw.thenN (Cw.out ?_)
  refine Cw.seq ?_
  refine Cw.block ?_
  refine Cw.seq ?_
  refine Cw.region ?_
  refine Lw.val (Ex.move rfl) rfl ?_
  refine Lw.callF rfl rfl (check_c u a _ hu) ?_
  rintro _ w ⟨rfl, hn⟩
  replace hB := hB.bs hn
  replace hu := hu.bs hn
  replace hv := hv.bs hn
  clear hn
  refine Lw.val (Ex.not rfl) rfl ?_
  refine Lw.val (Ex.move rfl) rfl ?_
  refine Lw.part 10 rfl ?_ ?_
  · intro g
    have e := pshE_no (a := a) (b := b) (.inl (by simpa using g))
    refine Lw.pass (dj := 10) rfl rfl rfl rfl ?_
    refine Lw.pass (dj := 10) rfl rfl rfl rfl ?_
    refine Lw.pass (dj := 10) rfl rfl rfl rfl ?_
    refine Lw.val (Ex.pickT rfl rfl) rfl ?_
    refine Lw.val (Ex.assign rfl) rfl ?_
    refine Lw.nil ?_
    refine Pw.thenN (Cw.out ?_)
    refine Cw.condT rfl ?_
    refine Cw.seq ?_
    refine Cw.region ?_
    refine Lw.val (Ex.assign rfl) rfl ?_
    refine Lw.val (Ex.assign rfl) rfl ?_
    refine Lw.nil ?_
    refine Pw.thenN (Cw.out ?_)
    refine Cw.ret ?_
    refine Pw.blkR ?_
    refine Pw.thenR ?_
    refine Pw.ret2 rfl rfl rfl ?_
    exact ⟨hB, _, by rw [e], fun _ => rfl, fun h => by rw [e] at h; cases h⟩
  intro g
  have ka : Shapes.ok a = true := by simpa using g
  refine Lw.take (dj := 10) rfl rfl ?_
  refine Lw.val (Ex.move rfl) rfl ?_
  refine Lw.take (dj := 10) rfl rfl ?_
  refine Lw.callF rfl rfl (check_c v b _ hv) ?_
  rintro _ w ⟨rfl, hn⟩
  replace hB := hB.bs hn
  replace hu := hu.bs hn
  replace hv := hv.bs hn
  clear hn
  refine Lw.take (dj := 10) rfl rfl ?_
  refine Lw.val (Ex.not rfl) rfl ?_
  refine Lw.val (Ex.pickF rfl rfl) rfl ?_
  refine Lw.val (Ex.assign rfl) rfl ?_
  refine Lw.nil ?_
  refine Pw.thenN (Cw.out ?_)
  refine Cw.cond rfl ?_ ?_
  · intro g
    have e := pshE_no (a := a) (b := b) (.inr (by simpa using g))
    refine Cw.seq ?_
    refine Cw.region ?_
    refine Lw.val (Ex.assign rfl) rfl ?_
    refine Lw.val (Ex.assign rfl) rfl ?_
    refine Lw.nil ?_
    refine Pw.thenN (Cw.out ?_)
    refine Cw.ret ?_
    refine Pw.blkR ?_
    refine Pw.thenR ?_
    refine Pw.ret2 rfl rfl rfl ?_
    exact ⟨hB, _, by rw [e], fun _ => rfl, fun h => by rw [e] at h; cases h⟩
  intro g
  have kb : Shapes.ok b = true := by simpa using g
  refine Cw.seq ?_
  refine Cw.quiet mixed (by kernel_rfl) ?_
  refine Qw.val (fun w1 hq => Ex.move rfl) rfl ?_
  refine Qw.val (fun w1 hq => Ex.lenS st_26 rfl (Sl.bs (by assumption) hq)) rfl ?_
  refine Qw.val (fun w1 hq => Ex.neq rfl rfl) rfl ?_
  refine Qw.val (fun w1 hq => Ex.move rfl) rfl ?_
  refine Qw.part 19 rfl ?_ ?_
  · intro g
    have e : pshE a b = 10 := pshE_ten ka kb fun h => by simp [h.1] at g
    refine Qw.pass (dj := 19) rfl rfl rfl rfl ?_
    refine Qw.pass (dj := 19) rfl rfl rfl rfl ?_
    refine Qw.pass (dj := 19) rfl rfl rfl rfl ?_
    refine Qw.val (fun w1 hq => Ex.pickT rfl rfl) rfl ?_
    refine Qw.val (fun w1 hq => Ex.move rfl) rfl ?_
    refine Qw.pass (dj := 24) rfl rfl rfl rfl ?_
    refine Qw.pass (dj := 24) rfl rfl rfl rfl ?_
    refine Qw.pass (dj := 24) rfl rfl rfl rfl ?_
    refine Qw.pass (dj := 24) rfl rfl rfl rfl ?_
    refine Qw.pass (dj := 24) rfl rfl rfl rfl ?_
    refine Qw.pass (dj := 24) rfl rfl rfl rfl ?_
    refine Qw.pass (dj := 24) rfl rfl rfl rfl ?_
    refine Qw.val (fun w1 hq => Ex.pickT rfl rfl) rfl ?_
    refine Qw.val (fun w1 hq => Ex.assign rfl) rfl ?_
    refine Qw.nil (fun w2 hq => ?_)
    refine Pw.thenN (Cw.out ?_)
    refine Cw.condT rfl ?_
    refine Cw.seq ?_
    refine Cw.region ?_
    refine Lw.val (Ex.assign rfl) rfl ?_
    refine Lw.val (Ex.assign rfl) rfl ?_
    refine Lw.nil ?_
    refine Pw.thenN (Cw.out ?_)
    refine Cw.ret ?_
    refine Pw.blkR ?_
    refine Pw.thenR ?_
    refine Pw.ret2 rfl rfl rfl ?_
    exact ⟨bt hB hq, _, by rw [e], fun _ => rfl, fun h => by rw [e] at h; cases h⟩
  intro g
  have la : a.length = 2 := by simp at g; omega
  refine Qw.take (dj := 19) rfl rfl ?_
  refine Qw.val (fun w1 hq => Ex.move rfl) rfl ?_
  refine Qw.take (dj := 19) rfl rfl ?_
  refine Qw.val (fun w1 hq => Ex.lenS st_26 rfl (Sl.bs (by assumption) hq)) rfl ?_
  refine Qw.take (dj := 19) rfl rfl ?_
  refine Qw.val (fun w1 hq => Ex.neq rfl rfl) rfl ?_
  refine Qw.val (fun w1 hq => Ex.pickF rfl rfl) rfl ?_
  refine Qw.val (fun w1 hq => Ex.move rfl) rfl ?_
  refine Qw.part 24 rfl ?_ ?_
  · intro g
    have e : pshE a b = 10 := pshE_ten ka kb fun h => by simp [h.2.1] at g
    refine Qw.pass (dj := 24) rfl rfl rfl rfl ?_
    refine Qw.pass (dj := 24) rfl rfl rfl rfl ?_
    refine Qw.pass (dj := 24) rfl rfl rfl rfl ?_
    refine Qw.pass (dj := 24) rfl rfl rfl rfl ?_
    refine Qw.pass (dj := 24) rfl rfl rfl rfl ?_
    refine Qw.pass (dj := 24) rfl rfl rfl rfl ?_
    refine Qw.pass (dj := 24) rfl rfl rfl rfl ?_
    refine Qw.val (fun w1 hq => Ex.pickT rfl rfl) rfl ?_
    refine Qw.val (fun w1 hq => Ex.assign rfl) rfl ?_
    refine Qw.nil (fun w2 hq => ?_)
    refine Pw.thenN (Cw.out ?_)
    refine Cw.condT rfl ?_
    refine Cw.seq ?_
    refine Cw.region ?_
    refine Lw.val (Ex.assign rfl) rfl ?_
    refine Lw.val (Ex.assign rfl) rfl ?_
    refine Lw.nil ?_
    refine Pw.thenN (Cw.out ?_)
    refine Cw.ret ?_
    refine Pw.blkR ?_
    refine Pw.thenR ?_
    refine Pw.ret2 rfl rfl rfl ?_
    exact ⟨bt hB hq, _, by rw [e], fun _ => rfl, fun h => by rw [e] at h; cases h⟩
  intro g
  have lb : b.length = 2 := by simp at g; omega
  refine Qw.take (dj := 24) rfl rfl ?_
  refine Qw.val (fun w1 hq => Ex.move rfl) rfl ?_
  refine Qw.take (dj := 24) rfl rfl ?_
  refine Qw.val (fun w1 hq => Ex.idxT st_26 rfl rfl (Sl.bs (by assumption) hq) 1 rfl (by omega)) rfl ?_
  refine Qw.take (dj := 24) rfl rfl ?_
  refine Qw.val (fun w1 hq => Ex.ldT (ag_3 _) rfl (Sl.bs (by assumption) hq) (by omega)) rfl ?_
  refine Qw.take (dj := 24) rfl rfl ?_
  refine Qw.val (fun w1 hq => Ex.move rfl) rfl ?_
  refine Qw.take (dj := 24) rfl rfl ?_
  refine Qw.val (fun w1 hq => Ex.idxT st_26 rfl rfl (Sl.bs (by assumption) hq) 0 rfl (by omega)) rfl ?_
  refine Qw.take (dj := 24) rfl rfl ?_
  refine Qw.val (fun w1 hq => Ex.ldT (ag_3 _) rfl (Sl.bs (by assumption) hq) (by omega)) rfl ?_
  refine Qw.take (dj := 24) rfl rfl ?_
  refine Qw.val (fun w1 hq => Ex.neq rfl rfl) rfl ?_
  refine Qw.val (fun w1 hq => Ex.pickF rfl rfl) rfl ?_
  refine Qw.val (fun w1 hq => Ex.assign rfl) rfl ?_
  refine Qw.nil (fun w2 hq => ?_)
  refine Pw.thenN (Cw.out ?_)
  refine Cw.cond rfl ?_ ?_
  · intro g
    have e : pshE a b = 10 := pshE_ten ka kb fun h => by simp at g; exact g (by simpa using h.2.2)
    refine Cw.seq ?_
    refine Cw.region ?_
    refine Lw.val (Ex.assign rfl) rfl ?_
    refine Lw.val (Ex.assign rfl) rfl ?_
    refine Lw.nil ?_
    refine Pw.thenN (Cw.out ?_)
    refine Cw.ret ?_
    refine Pw.blkR ?_
    refine Pw.thenR ?_
    refine Pw.ret2 rfl rfl rfl ?_
    exact ⟨bt hB hq, _, by rw [e], fun _ => rfl, fun h => by rw [e] at h; cases h⟩
  intro g
  have e : pshE a b = 0 := pshE_yes ka kb ⟨la, lb, by simpa using g⟩
  replace hB := hB.bs hq
  replace hu := hu.bs hq
  replace hv := hv.bs hq
  clear hq
  refine Cw.skip ?_
  refine Pw.blkN ?_
  refine Pw.thenN (Cw.out ?_)
  refine Cw.seq ?_
  refine Cw.tail 6 mixed (by kernel_rfl) ?_
  refine Qw.val (fun w1 hq => Ex.move rfl) rfl ?_
  refine Qw.val (fun w1 hq => Ex.idxT st_26 rfl rfl (Sl.bs (by assumption) hq) 0 rfl (by omega)) rfl ?_
  refine Qw.val (fun w1 hq => Ex.ldT (ag_3 _) rfl (Sl.bs (by assumption) hq) (by omega)) rfl ?_
  refine Qw.val (fun w1 hq => Ex.move rfl) rfl ?_
  refine Qw.val (fun w1 hq => Ex.idxT st_26 rfl rfl (Sl.bs (by assumption) hq) 1 rfl (by omega)) rfl ?_
  refine Qw.val (fun w1 hq => Ex.ldT (ag_3 _) rfl (Sl.bs (by assumption) hq) (by omega)) rfl ?_
  refine Qw.done (fun w3 hq => ?_)
  replace hB := hB.bs hq
  replace hu := hu.bs hq
  replace hv := hv.bs hq
  clear hq
  refine Lw.valW (Xw.lit (vs := [a.getD 0 default, b.getD 1 default].map (Value.int .i64)) st_26 it_3 rfl rfl rfl rfl rfl) rfl ?_
  rintro x w4 ⟨ho, -, hn, -⟩
  have z := hB.size
  replace hB := hB.bs hn
  replace hu := hu.bs hn
  replace hv := hv.bs hn
  refine Lw.val (Ex.assign rfl) rfl ?_
  refine Lw.val (Ex.assign rfl) rfl ?_
  refine Lw.nil ?_
  refine Pw.thenN (Cw.out ?_)
  refine Cw.ret ?_
  refine Pw.ret2 rfl rfl rfl ?_
  exact ⟨hB, x, by rw [e], fun h => absurd e h, fun _ => own_mono ho z⟩

theorem gathers_c (w : World) : Fnc Tryz.prog 103 [] w (fun r w' => r = .func (.func 126) #[] #[.pointer (some ⟨w.heap.size, 0, none⟩)] ∧ Blk w' w.heap.size 21 [i32 0#32] ∧ Below w.heap.size w w' ∧ w'.heap.size = w.heap.size + 1) := by
  refine Fnc.enter (n := 3) Tryz.func103 (by kernel_rfl) rfl rfl rfl ?_
  refine Cw.seq ?_
  refine Cw.region ?_
  refine Lw.val (Ex.assign rfl) rfl ?_
  refine Lw.nil ?_
  refine Pw.thenN (Cw.out ?_)
  refine Cw.seq ?_
  refine Cw.region ?_
  refine Lw.boxed1 (u := i32 0#32) it_21 sz_21 rfl (fun _ => rfl) (rfl) ?_
  rintro A_s w1 eA_s b_s hn zhn
  subst eA_s
  refine Lw.nil ?_
  refine Pw.thenN (Cw.out ?_)
  refine Cw.seq ?_
  refine Cw.region ?_
  refine Lw.val (Ex.mkFn (vs := []) (us := [.pointer (some ⟨w.heap.size, 0, none⟩)]) rfl rfl) rfl ?_
  refine Lw.val (Ex.assign rfl) rfl ?_
  refine Lw.nil ?_
  refine Pw.thenN (Cw.out ?_)
  refine Cw.ret ?_
  refine Pw.ret1 rfl rfl ?_
  exact ⟨rfl, b_s, hn, zhn⟩

theorem gather_c (A : Nat) (s x y : BitVec 32) (w : World) (hb : Blk w A 21 [i32 s]) : Fnc Tryz.prog 126 [i32 x, i32 y, .pointer (some ⟨A, 0, none⟩)] w (fun r w' => r = i32 (s + x * y) ∧ Blk w' A 21 [i32 (s + x * y)] ∧ w.grownBy w' (some A)) := by
  refine Fnc.enter (n := 12) Tryz.func126 (by kernel_rfl) rfl rfl rfl ?_
  refine Cw.seq ?_
  refine Cw.region ?_
  refine Lw.val (Ex.assign (show _ = some (i32 (0#32)) from rfl)) rfl ?_
  refine Lw.nil ?_
  refine Pw.thenN (Cw.out ?_)
  refine Cw.seq ?_
  refine Cw.region ?_
  refine Lw.val (Ex.ldB (ag_21 _) rfl (by assumption) rfl) rfl ?_
  refine Lw.val (Ex.move rfl) rfl ?_
  refine Lw.val (Ex.move rfl) rfl ?_
  refine Lw.val (Ex.muli32 rfl rfl) rfl ?_
  refine Lw.val (Ex.addi32 rfl rfl) rfl ?_
  refine Lw.unit (Xu.stB (u := i32 (s + x * y)) (sz_21 _) rfl rfl rfl hb (by simp)) ?_
  rintro w1 ⟨b1, hg, -⟩
  refine Lw.nil ?_
  refine Pw.thenN (Cw.out ?_)
  refine Cw.seq ?_
  refine Cw.region ?_
  refine Lw.val (Ex.ldB (ag_21 _) rfl (by assumption) rfl) rfl ?_
  refine Lw.val (Ex.assign rfl) rfl ?_
  refine Lw.nil ?_
  refine Pw.thenN (Cw.out ?_)
  refine Cw.ret ?_
  refine Pw.ret1 rfl rfl ?_
  exact ⟨rfl, b1, hg⟩

def prdE (a b : T4) : Int := if tok a.s a.l && tok b.s b.l then pshE a.s b.s else 1
def prdL (a b : T4) : List (BitVec 32) := prd (a.s.getD 0 default).toNat (b.s.getD 0 default).toNat (b.s.getD 1 default).toNat a.l b.l

theorem ok_dims {s : List Int} (h : Shapes.ok s = true) {i : Nat} (hi : i < s.length) : 1 ≤ s.getD i default ∧ s.getD i default ≤ 64 := by
  have := ((Shapes.ok_iff s).1 h).2.1 s[i] (List.getElem_mem hi)
  simpa [hi] using this
theorem two_ok {m n : Int} (h1 : 1 ≤ m ∧ m ≤ 64) (h2 : 1 ≤ n ∧ n ≤ 64) (h : m * n ≤ 4096) : Shapes.ok [m, n] = true := by
  rw [Shapes.ok_iff]
  refine ⟨by simp, fun x hx => ?_, by simp [Shapes.prod]; omega⟩
  simp at hx
  rcases hx with rfl | rfl <;> assumption
theorem mul64 {m n : Int} (h1 : 1 ≤ m ∧ m ≤ 64) (h2 : 1 ≤ n ∧ n ≤ 64) : 1 ≤ m * n ∧ m * n ≤ 4096 := by
  have e1 := Int.mul_le_mul h1.1 h2.1 (by omega) (by omega)
  have e2 := Int.mul_le_mul h1.2 h2.2 (by omega) (by omega)
  omega
theorem len_two {α : Type} [Inhabited α] {l : List α} (h : l.length = 2) : l = [l.getD 0 default, l.getD 1 default] := by
  match l, h with
  | [a, b], _ => rfl
theorem size_two {s : List Int} (h : Shapes.ok s = true) (hl : s.length = 2) : Shapes.size s = s.getD 0 default * s.getD 1 default := by
  rw [Shapes.size_ok h]
  conv => lhs; rw [len_two hl]
  simp [Shapes.prod]

/-- What comes of it: a tensor of one's own, or none. -/
def Ans0 (W w : World) (r : Value) (e : Int) (s : List Int) (l : List (BitVec 32)) : Prop :=
  ∃ x y, r = .tuple #[.agg #[x, y], .int .i64 e] ∧ (e ≠ 0 → x = .slice none 0 0 ∧ y = .slice none 0 0) ∧ (e = 0 → Made1 W w x y s l)
theorem Ans0.gets {W w : World} {r : Value} {e : Int} {s : List Int} {l : List (BitVec 32)} (h : Ans0 W w r e s l) : Gets W w r e s l := by
  obtain ⟨x, y, rfl, q1, q2⟩ := h
  by_cases he : e = 0
  · exact ⟨⟨x, y, s, l⟩, rfl, (q2 he).at, fun h => absurd he h, fun _ => ⟨rfl, rfl, q2 he⟩⟩
  · obtain ⟨rfl, rfl⟩ := q1 he
    exact ⟨⟨_, _, [], []⟩, rfl, nilT w, fun _ => ⟨rfl, rfl⟩, fun h => absurd h he⟩
theorem prod0_c (a b : T4) (W : World) (h_a : a.at W) (h_b : b.at W) :
    Fnc Tryz.prog 74 [a.v, b.v] W (fun r w' => Below W.heap.size W w' ∧ Ans0 W w' r (prdE a b) [a.s.getD 0 default, b.s.getD 1 default] (prdL a b)) := by
  have hB := Below.refl W.heap.size W
  refine Fnc.enter (n := 94) Tryz.func74 (by kernel_rfl) rfl rfl rfl ?_
  refine Cw.seq ?_
  refine Cw.region ?_
  refine Lw.boxV (cs := [a.x, a.y]) rfl rfl rfl ?_
  rintro A_a w eA_a b_a hn -
  replace hB := hB.bs hn
  replace h_a := h_a.bs hn
  replace h_b := h_b.bs hn
  clear hn
  refine Lw.boxV (cs := [b.x, b.y]) rfl rfl rfl ?_
  rintro A_b w eA_b b_b hn -
  replace hB := hB.bs hn
  replace h_a := h_a.bs hn
  replace h_b := h_b.bs hn
  replace b_a := b_a.bs hn
  clear hn
  have z0 := below_size hB
  refine Lw.newA it_29 rfl ?_
  rintro A_r w eA_r b_r hn -
  replace hB := hB.bs hn
  replace h_a := h_a.bs hn
  replace h_b := h_b.bs hn
  replace b_a := b_a.bs hn
  replace b_b := b_b.bs hn
  clear hn
  refine Lw.val (Ex.assign rfl) rfl ?_
  refine Lw.nil ?_
  refine Pw.thenN (Cw.out ?_)
  refine Cw.seq ?_
  refine Cw.seq ?_
  refine Cw.region ?_
  refine Lw.val (Ex.ldA (ag_29 _) (sz_29 _) rfl rfl (by assumption)) rfl ?_
  have z_r := blk_lt b_r
  have zr : W.heap.size ≤ A_r := by omega
  refine Lw.callF rfl rfl (tcheck_c a.x a.y a.s a.l _ h_a.1 h_a.2) ?_
  rintro _ w ⟨rfl, hn⟩
  replace hB := hB.bs hn
  replace h_a := h_a.bs hn
  replace h_b := h_b.bs hn
  replace b_a := b_a.bs hn
  replace b_b := b_b.bs hn
  replace b_r := b_r.bs hn
  clear hn
  refine Lw.val (Ex.not rfl) rfl ?_
  refine Lw.val (Ex.move rfl) rfl ?_
  refine Lw.part 20 rfl ?_ ?_
  · intro g
    have e : prdE a b = 1 := by unfold prdE; rw [if_neg]; simp at g; simp [g]
    refine Lw.pass (dj := 20) rfl rfl rfl rfl ?_
    refine Lw.pass (dj := 20) rfl rfl rfl rfl ?_
    refine Lw.pass (dj := 20) rfl rfl rfl rfl ?_
    refine Lw.val (Ex.pickT rfl rfl) rfl ?_
    refine Lw.nil ?_
    refine Pw.thenN (Cw.out ?_)
    refine Cw.condT rfl ?_
    refine Cw.seq ?_
    refine Cw.region ?_
    refine Lw.val (Ex.build (vs := []) (cs := [.slice none 0 0, .slice none 0 0]) rfl (by kernel_rfl)) rfl ?_
    have b_r1 := b_r
    refine Lw.unit (Xu.stA (cs := [.slice none 0 0, .slice none 0 0]) rfl rfl rfl rfl rfl b_r rfl) ?_
    rintro w9 ⟨b_r, hg, -⟩
    have hB := hB.grown hg (below_size hB) (by rintro _ ⟨⟩; omega)
    refine Lw.val (Ex.assign rfl) rfl ?_
    refine Lw.nil ?_
    refine Pw.thenN (Cw.out ?_)
    refine Cw.ret ?_
    refine Pw.thenR ?_
    refine Pw.retCT rfl rfl rfl (by assumption) (Tryz.underlying29) rfl rfl rfl ?_
    exact ⟨hB, _, _, by rw [e], fun _ => ⟨rfl, rfl⟩, fun h => by rw [e] at h; cases h⟩
  intro g
  have t_a : tok a.s a.l = true := by simpa using g
  refine Lw.take (dj := 20) rfl rfl ?_
  refine Lw.val (Ex.ldA (ag_29 _) (sz_29 _) rfl rfl (by assumption)) rfl ?_
  refine Lw.take (dj := 20) rfl rfl ?_
  refine Lw.callF rfl rfl (tcheck_c b.x b.y b.s b.l _ h_b.1 h_b.2) ?_
  rintro _ w ⟨rfl, hn⟩
  replace hB := hB.bs hn
  replace h_a := h_a.bs hn
  replace h_b := h_b.bs hn
  replace b_a := b_a.bs hn
  replace b_b := b_b.bs hn
  replace b_r := b_r.bs hn
  clear hn
  refine Lw.take (dj := 20) rfl rfl ?_
  refine Lw.val (Ex.not rfl) rfl ?_
  refine Lw.val (Ex.pickF rfl rfl) rfl ?_
  refine Lw.nil ?_
  refine Pw.thenN (Cw.out ?_)
  refine Cw.cond rfl ?_ ?_
  · intro g
    have e : prdE a b = 1 := by unfold prdE; rw [if_neg]; simp at g; simp [g]
    refine Cw.seq ?_
    refine Cw.region ?_
    refine Lw.val (Ex.build (vs := []) (cs := [.slice none 0 0, .slice none 0 0]) rfl (by kernel_rfl)) rfl ?_
    have b_r1 := b_r
    refine Lw.unit (Xu.stA (cs := [.slice none 0 0, .slice none 0 0]) rfl rfl rfl rfl rfl b_r rfl) ?_
    rintro w9 ⟨b_r, hg, -⟩
    have hB := hB.grown hg (below_size hB) (by rintro _ ⟨⟩; omega)
    refine Lw.val (Ex.assign rfl) rfl ?_
    refine Lw.nil ?_
    refine Pw.thenN (Cw.out ?_)
    refine Cw.ret ?_
    refine Pw.thenR ?_
    refine Pw.retCT rfl rfl rfl (by assumption) (Tryz.underlying29) rfl rfl rfl ?_
    exact ⟨hB, _, _, by rw [e], fun _ => ⟨rfl, rfl⟩, fun h => by rw [e] at h; cases h⟩
  intro g
  have t_b : tok b.s b.l = true := by simpa using g
  have ee : prdE a b = pshE a.s b.s := by unfold prdE; rw [t_a, t_b]; rfl
  refine Cw.skip ?_
  refine Pw.thenN (Cw.out ?_)
  refine Cw.seq ?_
  refine Cw.region ?_
  refine Lw.val (Ex.fieldAddr (q := 0) Tryz.underlying29 rfl (sz_26 _) rfl) rfl ?_
  refine Lw.val (Ex.ldB (ag_26 _) rfl (by assumption) rfl) rfl ?_
  refine Lw.val (Ex.fieldAddr (q := 0) Tryz.underlying29 rfl (sz_26 _) rfl) rfl ?_
  refine Lw.val (Ex.ldB (ag_26 _) rfl (by assumption) rfl) rfl ?_
  refine Lw.callF rfl rfl (pshape_c a.x b.x a.s b.s w h_a.1 h_b.1) ?_
  rintro _ w ⟨hn, sv, rfl, hs1, hs2⟩
  have z2 := below_size hB
  replace hB := hB.bs hn
  replace h_a := h_a.bs hn
  replace h_b := h_b.bs hn
  replace b_a := b_a.bs hn
  replace b_b := b_b.bs hn
  replace b_r := b_r.bs hn
  clear hn
  refine Lw.val (Ex.move rfl) rfl ?_
  refine Lw.val (Ex.extract (i := 0) rfl rfl) rfl ?_
  refine Lw.val (Ex.extract (i := 1) rfl rfl) rfl ?_
  refine Lw.val (Ex.assign rfl) rfl ?_
  refine Lw.val (Ex.assign rfl) rfl ?_
  refine Lw.nil ?_
  refine Pw.thenN (Cw.out ?_)
  refine Cw.seq ?_
  refine Cw.seq ?_
  refine Cw.region ?_
  refine Lw.val (Ex.move rfl) rfl ?_
  refine Lw.val (Ex.neq rfl rfl) rfl ?_
  refine Lw.nil ?_
  refine Pw.thenN (Cw.out ?_)
  refine Cw.cond rfl ?_ ?_
  · intro g
    have hne : pshE a.s b.s ≠ 0 := by simpa using g
    refine Cw.seq ?_
    refine Cw.region ?_
    refine Lw.val (Ex.build (vs := []) (cs := [.slice none 0 0, .slice none 0 0]) rfl (by kernel_rfl)) rfl ?_
    refine Lw.val (Ex.move rfl) rfl ?_
    refine Lw.unit (Xu.stA (cs := [.slice none 0 0, .slice none 0 0]) rfl rfl rfl rfl rfl b_r rfl) ?_
    rintro w9 ⟨b_r, hg, -⟩
    have hB := hB.grown hg (below_size hB) (by rintro _ ⟨⟩; omega)
    refine Lw.val (Ex.assign rfl) rfl ?_
    refine Lw.nil ?_
    refine Pw.thenN (Cw.out ?_)
    refine Cw.ret ?_
    refine Pw.thenR ?_
    refine Pw.retCT rfl rfl rfl (by assumption) (Tryz.underlying29) rfl rfl rfl ?_
    exact ⟨hB, _, _, by rw [ee], fun _ => ⟨rfl, rfl⟩, fun h => absurd (ee ▸ h) hne⟩
  intro g
  have e0 : pshE a.s b.s = 0 := by simpa using g
  have hsv := hs2 e0
  have e0' := ee.trans e0
  obtain ⟨la, lb, hmid⟩ : a.s.length = 2 ∧ b.s.length = 2 ∧ a.s.getD 1 default = b.s.getD 0 default := by
    have := e0
    unfold pshE at this
    rw [(tok_ok t_a).1, (tok_ok t_b).1] at this
    simp only [Bool.and_self, if_true] at this
    split at this
    · assumption
    · cases this
  have ka := (tok_ok t_a).1
  have kb := (tok_ok t_b).1
  have d0 := ok_dims ka (i := 0) (by omega)
  have d1 := ok_dims kb (i := 1) (by omega)
  have d2 := ok_dims kb (i := 0) (by omega)
  obtain ⟨m, hm⟩ : ∃ m : Nat, (m : Int) = a.s.getD 0 default := ⟨(a.s.getD 0 default).toNat, by omega⟩
  obtain ⟨n, hnn⟩ : ∃ n : Nat, (n : Int) = b.s.getD 1 default := ⟨(b.s.getD 1 default).toNat, by omega⟩
  obtain ⟨k, hk⟩ : ∃ k : Nat, (k : Int) = b.s.getD 0 default := ⟨(b.s.getD 0 default).toNat, by omega⟩
  have hL : prdL a b = prd m k n a.l b.l := by unfold prdL; rw [← hm, ← hnn, ← hk]; rfl
  have hmn := mul64 d0 d1
  rw [← hm, ← hnn] at hmn
  have hok : Shapes.ok [(m : Int), (n : Int)] = true := by rw [hm, hnn]; exact two_ok d0 d1 (by rw [← hm, ← hnn]; exact hmn.2)
  have hsz : (Shapes.size [(m : Int), (n : Int)]).toNat = m * n := by
    rw [Shapes.size_ok hok]
    simp [Shapes.prod]
    exact_mod_cast Int.toNat_natCast (m * n)
  have la2 : a.l.length = m * k := by
    have h1 := (tok_ok t_a).2
    rw [size_two ka la, hmid, ← hm, ← hk] at h1
    rw [h1]; exact_mod_cast Int.toNat_natCast (m * k)
  have lb2 : b.l.length = k * n := by
    have h1 := (tok_ok t_b).2
    rw [size_two kb lb, ← hnn, ← hk] at h1
    rw [h1]; exact_mod_cast Int.toNat_natCast (k * n)
  rw [← hm, ← hnn] at hsv
  rw [e0']
  have sl_s := own_slT hsv
  refine Cw.skip ?_
  refine Pw.thenN (Cw.out ?_)
  refine Cw.seq ?_
  refine Cw.region ?_
  refine Lw.val (Ex.move rfl) rfl ?_
  refine Lw.callF rfl rfl (new_c sv [(m : Int), (n : Int)] w sl_s) ?_
  rintro r w3 ⟨hn3, hcase⟩
  obtain ⟨zx, zy, rfl, hz⟩ : ∃ x y, r = .tuple #[.agg #[x, y], .int .i64 0] ∧ Made1 w w3 x y [(m : Int), (n : Int)] (List.replicate (m * n) 0#32) := by
    rw [hsz] at hcase
    rcases hcase with ⟨_, h⟩ | ⟨h, _⟩
    · exact h
    · rw [hok] at h; cases h
  refine Lw.val (Ex.move rfl) rfl ?_
  refine Lw.val (Ex.extract (i := 0) rfl rfl) rfl ?_
  refine Lw.val (Ex.extract (i := 1) rfl rfl) rfl ?_
  refine Lw.boxed (cs := [zx, zy]) it_29 rfl rfl rfl rfl (fun _ => rfl) (hz.one) ?_
  rintro A_t w4 eA_t b_t hn4 zhn4
  have M := mine_new hz eA_t b_t hn4 zhn4 hn3.size
  have hw4 := bt hn3 hn4
  clear hz b_t hcase eA_t
  have b_a4 := b_a.bs hw4
  have b_b4 := b_b.bs hw4
  have s4 := sl_s.bs hw4
  have x4 := (h_b.bs hw4).1
  have hz4 := hw4.size
  refine Lw.val (Ex.assign rfl) rfl ?_
  refine Lw.nil ?_
  refine Pw.thenN (Cw.out ?_)
  refine Cw.seq ?_
  refine Cw.quiet mixed (by kernel_rfl) ?_
  refine Qw.val (fun w1 hq => Ex.fieldAddr (q := 0) Tryz.underlying29 rfl (sz_26 _) rfl) rfl ?_
  refine Qw.val (fun w1 hq => Ex.ldB (ag_26 _) rfl (Blk.bs (by assumption) hq) rfl) rfl ?_
  refine Qw.val (fun w1 hq => Ex.idxS st_26 rfl rfl x4.shp 0 rfl (by omega)) rfl ?_
  refine Qw.val (fun w1 hq => (Ex.ldT (ag_3 _) rfl (x4.bs hq) (by omega)).as (congrArg (Value.int .i64) hk.symm)) rfl ?_
  refine Qw.val (fun w1 hq => Ex.move rfl) rfl ?_
  refine Qw.val (fun w1 hq => Ex.idxS st_26 rfl rfl s4.shp 1 rfl (by simp)) rfl ?_
  refine Qw.val (fun w1 hq => Ex.ldT (ag_3 _) rfl (s4.bs hq) (by simp)) rfl ?_
  refine Qw.val (fun w1 hq => Ex.assign rfl) rfl ?_
  refine Qw.val (fun w1 hq => Ex.assign rfl) rfl ?_
  refine Qw.nil (fun w5 hq => ?_)
  refine Pw.thenN (Cw.out ?_)
  refine Cw.seq ?_
  refine Cw.seq ?_
  have hw5 := bt hw4 hq
  have hs5 := hq.size
  have M := M.bs hq
  have b_t5 := M.box
  have l5 := M.sly
  clear hq b_a4 b_b4 s4 x4 hn3 hn4 zhn4
  have lrep : (List.replicate (m * n) 0#32).length = m * n := by rw [List.length_replicate]
  refine Cw.region ?_
  refine Lw.val (Ex.fieldAddr (q := 0) Tryz.underlying29 rfl (sz_27 _) rfl) rfl ?_
  refine Lw.val (Ex.ldB (ag_27 _) rfl (by assumption) rfl) rfl ?_
  refine Lw.val ((Ex.lenS (sz := 1) st_27 rfl l5).as (congrArg (fun j : Nat => Value.int .i64 (j : Int)) lrep)) rfl ?_
  refine Lw.val (Ex.move rfl) rfl ?_
  refine Lw.nil ?_
  refine Pw.thenN (Cw.out ?_)
  refine Cw.block ?_
  obtain ⟨pl, hpl⟩ : ∃ pl, pl = prd m k n a.l b.l := ⟨_, rfl⟩
  have npl : pl.length = (List.replicate (m * n) 0#32).length := by rw [hpl, prd_length, lrep]
  refine Cw.loop (S := Nat) (fun i => [(2, .pointer (some ⟨A_a, 0, none⟩)), (3, .pointer (some ⟨A_b, 0, none⟩)), (4, .pointer (some ⟨A_r, 0, none⟩)), (5, .int .i64 0), (8, .pointer (some ⟨A_t, 0, none⟩)), (10, .int .i64 (k : Int)), (11, .int .i64 (n : Int)), (52, .int .i64 ((m * n : Nat) : Int)), (53, .int .i64 (i : Int))]) (fun i w' => i ≤ m * n ∧ w4.heap.size ≤ w'.heap.size ∧ Below w.heap.size w w' ∧ MineT w' w.heap.size w4.heap.size A_t zx zy [(m : Int), (n : Int)] (pl.take i ++ (List.replicate (m * n) 0#32).drop i)) (fun i => m * n - i) (0) ⟨rfl, rfl, rfl, rfl, rfl, rfl, rfl, rfl, rfl, trivial⟩ ?_ ?_
  · exact ⟨by omega, hs5, hw5, by rw [td_zero]; exact M⟩
  clear M l5 b_t5 hw5
  have y_a := h_a.2
  have y_b := h_b.2
  have zrw := blk_lt b_r
  rintro i w6 ⟨hi, hs6, hw6, M⟩
  refine Cw.seq ?_
  refine Cw.region ?_
  refine Lw.val (Ex.lss rfl rfl) rfl ?_
  refine Lw.nil ?_
  refine Pw.thenN (Cw.out ?_)
  refine Cw.seq ?_
  refine Cw.cond rfl ?_ ?_
  · intro h
    have hi' : i < m * n := by simp at h; omega
    obtain ⟨r1, r2, r3⟩ := at_rc hi'
    have hir : i < (List.replicate (m * n) 0#32).length := by rw [lrep]; exact hi'
    refine Cw.skip ?_
    refine Pw.thenN (Cw.out ?_)
    refine Cw.seq ?_
    refine Cw.block ?_
    refine Cw.seq ?_
    refine Cw.region ?_
    refine Lw.val (Ex.move rfl) rfl ?_
    refine Lw.val (Ex.assign rfl) rfl ?_
    refine Lw.nil ?_
    refine Pw.thenN (Cw.out ?_)
    refine Cw.seq ?_
    refine Cw.any mixed (fun w7 hd _ => ?_)
    have hw7 := bt hw6 hd
    have M7 := M.bs hd
    refine Aw.take (i := 1) (NoP.thn (NoP.blk (NoP.thn (NoP.thn (NoP.blk (NoP.thn NoP.ret)))))) rfl (by kernel_rfl) (by kernel_rfl) (by kernel_rfl) (fun _ => Ex.move rfl) rfl ?_
    refine Aw.take (i := 2) (NoP.thn (NoP.blk (NoP.thn (NoP.thn (NoP.blk (NoP.thn NoP.ret)))))) rfl (by kernel_rfl) (by kernel_rfl) (by kernel_rfl) (fun _ => Ex.move rfl) rfl ?_
    refine Aw.take (i := 3) (NoP.thn (NoP.blk (NoP.thn (NoP.thn (NoP.blk (NoP.thn NoP.ret)))))) rfl (by kernel_rfl) (by kernel_rfl) (by kernel_rfl) (fun _ => Ex.quoN rfl rfl (by omega) (by omega)) rfl ?_
    refine Aw.take (i := 4) (NoP.thn (NoP.blk (NoP.thn (NoP.thn (NoP.blk (NoP.thn NoP.ret)))))) rfl (by kernel_rfl) (by kernel_rfl) (by kernel_rfl) (fun _ => Ex.move rfl) rfl ?_
    refine Aw.take (i := 5) (NoP.thn (NoP.blk (NoP.thn (NoP.thn (NoP.blk (NoP.thn NoP.ret)))))) rfl (by kernel_rfl) (by kernel_rfl) (by kernel_rfl) (fun _ => Ex.move rfl) rfl ?_
    refine Aw.take (i := 6) (NoP.thn (NoP.blk (NoP.thn (NoP.thn (NoP.blk (NoP.thn NoP.ret)))))) rfl (by kernel_rfl) (by kernel_rfl) (by kernel_rfl) (fun _ => Ex.remN rfl rfl (by omega)) rfl ?_
    refine Aw.only (i := 0) (by kernel_rfl) rfl ?_
    refine Lw.callF rfl rfl (gathers_c w7) ?_
    rintro _ w8 ⟨rfl, b_g, hn8, zhn8⟩
    have hw8 := bt hw7 hn8
    have M8 := M7.bs hn8
    have z7 := hd.size
    have z8 := hn8.size
    obtain ⟨G, hG⟩ : ∃ G, G = w7.heap.size := ⟨_, rfl⟩
    rw [← hG] at b_g
    rw [← hG]
    obtain ⟨f, hf⟩ : ∃ f : Nat → BitVec 32, f = fun p => a.l.getD (i / n * k + p) default * b.l.getD (p * n + i % n) default := ⟨_, rfl⟩
    obtain ⟨c, hc0⟩ : ∃ c, c = pl.take i ++ (List.replicate (m * n) 0#32).drop i := ⟨_, rfl⟩
    have lc : c.length = m * n := by rw [hc0, td_len npl, lrep]
    have hfull : pl.getD i default = sm k f := by
      have := prd_at (k := k) a.l b.l r1 r2
      rw [r3] at this
      rw [hpl, hf]
      exact this
    have hzero : c.set i (sm 0 f) = c := by
      have h1 : c.getD i default = 0#32 := by rw [hc0, td_get npl hir, getD_rep hi']
      refine set_same ?_ ?_
      · omega
      · rw [h1]; rfl
    have hlast : c.set i (sm k f) = pl.take (i + 1) ++ (List.replicate (m * n) 0#32).drop (i + 1) := by rw [← hfull, hc0]; exact td_set npl hir
    rw [← hc0] at M8
    refine Aw.back ?_
    refine Aw.take (i := 7) (NoP.thn (NoP.blk (NoP.thn (NoP.thn (NoP.blk (NoP.thn NoP.ret)))))) rfl (by kernel_rfl) (by kernel_rfl) (by kernel_rfl) (fun _ => Ex.assign rfl) rfl ?_
    refine Aw.take (i := 8) (NoP.thn (NoP.blk (NoP.thn (NoP.thn (NoP.blk (NoP.thn NoP.ret)))))) rfl (by kernel_rfl) (by kernel_rfl) (by kernel_rfl) (fun _ => Ex.assign rfl) rfl ?_
    refine Aw.take (i := 9) (NoP.thn (NoP.blk (NoP.thn (NoP.thn (NoP.blk (NoP.thn NoP.ret)))))) rfl (by kernel_rfl) (by kernel_rfl) (by kernel_rfl) (fun _ => Ex.assign rfl) rfl ?_
    refine Aw.done (by kernel_rfl) ?_
    refine Pw.thenN (Cw.out ?_)
    refine Cw.seq ?_
    refine Cw.region ?_
    refine Lw.val (Ex.move rfl) rfl ?_
    refine Lw.val (Ex.move rfl) rfl ?_
    refine Lw.nil ?_
    refine Pw.thenN (Cw.out ?_)
    refine Cw.block ?_
    refine Cw.loop (S := Nat) (fun p => [(2, .pointer (some ⟨A_a, 0, none⟩)), (3, .pointer (some ⟨A_b, 0, none⟩)), (4, .pointer (some ⟨A_r, 0, none⟩)), (5, .int .i64 0), (8, .pointer (some ⟨A_t, 0, none⟩)), (10, .int .i64 (k : Int)), (11, .int .i64 (n : Int)), (12, .int .i64 (i : Int)), (13, .func (.func 126) #[] #[.pointer (some ⟨G, 0, none⟩)]), (14, .int .i64 ((i / n : Nat) : Int)), (15, .int .i64 ((i % n : Nat) : Int)), (52, .int .i64 ((m * n : Nat) : Int)), (53, .int .i64 (i : Int)), (63, .int .i64 (k : Int)), (64, .int .i64 (p : Int))]) (fun p w' => p ≤ k ∧ w4.heap.size ≤ w'.heap.size ∧ Below w.heap.size w w' ∧ MineT w' w.heap.size w4.heap.size A_t zx zy [(m : Int), (n : Int)] (c.set i (sm p f)) ∧ Blk w' G 21 [i32 (sm p f)]) (fun p => k - p) (0) ⟨rfl, rfl, rfl, rfl, rfl, rfl, rfl, rfl, rfl, rfl, rfl, rfl, rfl, rfl, rfl, trivial⟩ ?_ ?_
    · exact ⟨by omega, by omega, hw8, by rw [hzero]; exact M8, b_g⟩
    clear M M7 M8 b_g hw7 hw8 hd hn8
    rintro p w9 ⟨hp, hs9, hw9, M, b_g⟩
    refine Cw.seq ?_
    refine Cw.region ?_
    refine Lw.val (Ex.lss rfl rfl) rfl ?_
    refine Lw.nil ?_
    refine Pw.thenN (Cw.out ?_)
    refine Cw.seq ?_
    refine Cw.cond rfl ?_ ?_
    · intro h
      have hp' : p < k := by simp at h; omega
      have hab : i / n * k + p < a.l.length := by rw [la2]; exact rc_lt r1 hp'
      have hbb : p * n + i % n < b.l.length := by rw [lb2]; exact rc_lt hp' r2
      have hla := y_a.le
      have hlb := y_b.le
      refine Cw.skip ?_
      refine Pw.thenN (Cw.out ?_)
      refine Cw.seq ?_
      refine Cw.block ?_
      refine Cw.seq ?_
      refine Cw.region ?_
      refine Lw.val (Ex.move rfl) rfl ?_
      refine Lw.val (Ex.assign rfl) rfl ?_
      refine Lw.nil ?_
      refine Pw.thenN (Cw.out ?_)
      refine Cw.any mixed (fun w10 hd _ => ?_)
      have hw10 := bt hw9 hd
      have M10 := M.bs hd
      have b_g10 := b_g.bs hd
      have z10 := hd.size
      refine Aw.cls (fun w' => Below w.heap.size w w' ∧ Blk w' A_t 29 [zx, zy]) (fun hC => ?_) (⟨hw10, M10.box⟩)
      refine AwC.take (i := 0) (NoP.blk (NoP.thn (NoP.thn (NoP.blk (NoP.blk (NoP.thn (NoP.thn (NoP.blk (NoP.thn NoP.ret))))))))) rfl (by kernel_rfl) (by kernel_rfl) (by kernel_rfl) (fun w1 hc => Ex.fieldAddr (q := 0) Tryz.underlying29 rfl (sz_27 _) rfl) rfl ?_
      refine AwC.take (i := 1) (NoP.blk (NoP.thn (NoP.thn (NoP.blk (NoP.blk (NoP.thn (NoP.thn (NoP.blk (NoP.thn NoP.ret))))))))) rfl (by kernel_rfl) (by kernel_rfl) (by kernel_rfl) (fun w1 hc => Ex.ldB (ag_27 _) rfl (by first | exact Blk.bs (by assumption) hc.1 | exact hc.2) rfl) rfl ?_
      refine AwC.take (i := 2) (NoP.blk (NoP.thn (NoP.thn (NoP.blk (NoP.blk (NoP.thn (NoP.thn (NoP.blk (NoP.thn NoP.ret))))))))) rfl (by kernel_rfl) (by kernel_rfl) (by kernel_rfl) (fun w1 hc => Ex.move rfl) rfl ?_
      refine AwC.take (i := 3) (NoP.blk (NoP.thn (NoP.thn (NoP.blk (NoP.blk (NoP.thn (NoP.thn (NoP.blk (NoP.thn NoP.ret))))))))) rfl (by kernel_rfl) (by kernel_rfl) (by kernel_rfl) (fun w1 hc => Ex.move rfl) rfl ?_
      refine AwC.take (i := 4) (NoP.blk (NoP.thn (NoP.thn (NoP.blk (NoP.blk (NoP.thn (NoP.thn (NoP.blk (NoP.thn NoP.ret))))))))) rfl (by kernel_rfl) (by kernel_rfl) (by kernel_rfl) (fun w1 hc => Ex.fieldAddr (q := 0) Tryz.underlying29 rfl (sz_27 _) rfl) rfl ?_
      refine AwC.take (i := 5) (NoP.blk (NoP.thn (NoP.thn (NoP.blk (NoP.blk (NoP.thn (NoP.thn (NoP.blk (NoP.thn NoP.ret))))))))) rfl (by kernel_rfl) (by kernel_rfl) (by kernel_rfl) (fun w1 hc => Ex.ldB (ag_27 _) rfl (by first | exact Blk.bs (by assumption) hc.1 | exact hc.2) rfl) rfl ?_
      refine AwC.take (i := 6) (NoP.blk (NoP.thn (NoP.thn (NoP.blk (NoP.blk (NoP.thn (NoP.thn (NoP.blk (NoP.thn NoP.ret))))))))) rfl (by kernel_rfl) (by kernel_rfl) (by kernel_rfl) (fun w1 hc => Ex.move rfl) rfl ?_
      refine AwC.take (i := 7) (NoP.blk (NoP.thn (NoP.thn (NoP.blk (NoP.blk (NoP.thn (NoP.thn (NoP.blk (NoP.thn NoP.ret))))))))) rfl (by kernel_rfl) (by kernel_rfl) (by kernel_rfl) (fun w1 hc => Ex.move rfl) rfl ?_
      refine AwC.take (i := 8) (NoP.blk (NoP.thn (NoP.thn (NoP.blk (NoP.blk (NoP.thn (NoP.thn (NoP.blk (NoP.thn NoP.ret))))))))) rfl (by kernel_rfl) (by kernel_rfl) (by kernel_rfl) (fun w1 hc => Ex.mulN rfl rfl (by omega)) rfl ?_
      refine AwC.take (i := 9) (NoP.blk (NoP.thn (NoP.thn (NoP.blk (NoP.blk (NoP.thn (NoP.thn (NoP.blk (NoP.thn NoP.ret))))))))) rfl (by kernel_rfl) (by kernel_rfl) (by kernel_rfl) (fun w1 hc => Ex.move rfl) rfl ?_
      refine AwC.take (i := 10) (NoP.blk (NoP.thn (NoP.thn (NoP.blk (NoP.blk (NoP.thn (NoP.thn (NoP.blk (NoP.thn NoP.ret))))))))) rfl (by kernel_rfl) (by kernel_rfl) (by kernel_rfl) (fun w1 hc => Ex.addN rfl rfl (by omega)) rfl ?_
      refine AwC.take (i := 11) (NoP.blk (NoP.thn (NoP.thn (NoP.blk (NoP.blk (NoP.thn (NoP.thn (NoP.blk (NoP.thn NoP.ret))))))))) rfl (by kernel_rfl) (by kernel_rfl) (by kernel_rfl) (fun w1 hc => Ex.idxT st_27 rfl rfl (y_a.bs hc.1) _ rfl hab) rfl ?_
      refine AwC.take (i := 12) (NoP.blk (NoP.thn (NoP.thn (NoP.blk (NoP.blk (NoP.thn (NoP.thn (NoP.blk (NoP.thn NoP.ret))))))))) rfl (by kernel_rfl) (by kernel_rfl) (by kernel_rfl) (fun w1 hc => Ex.ldT (ag_21 _) rfl (y_a.bs hc.1) hab) rfl ?_
      refine AwC.take (i := 13) (NoP.blk (NoP.thn (NoP.thn (NoP.blk (NoP.blk (NoP.thn (NoP.thn (NoP.blk (NoP.thn NoP.ret))))))))) rfl (by kernel_rfl) (by kernel_rfl) (by kernel_rfl) (fun w1 hc => Ex.fieldAddr (q := 0) Tryz.underlying29 rfl (sz_27 _) rfl) rfl ?_
      refine AwC.take (i := 14) (NoP.blk (NoP.thn (NoP.thn (NoP.blk (NoP.blk (NoP.thn (NoP.thn (NoP.blk (NoP.thn NoP.ret))))))))) rfl (by kernel_rfl) (by kernel_rfl) (by kernel_rfl) (fun w1 hc => Ex.ldB (ag_27 _) rfl (by first | exact Blk.bs (by assumption) hc.1 | exact hc.2) rfl) rfl ?_
      refine AwC.take (i := 15) (NoP.blk (NoP.thn (NoP.thn (NoP.blk (NoP.blk (NoP.thn (NoP.thn (NoP.blk (NoP.thn NoP.ret))))))))) rfl (by kernel_rfl) (by kernel_rfl) (by kernel_rfl) (fun w1 hc => Ex.move rfl) rfl ?_
      refine AwC.take (i := 16) (NoP.blk (NoP.thn (NoP.thn (NoP.blk (NoP.blk (NoP.thn (NoP.thn (NoP.blk (NoP.thn NoP.ret))))))))) rfl (by kernel_rfl) (by kernel_rfl) (by kernel_rfl) (fun w1 hc => Ex.move rfl) rfl ?_
      refine AwC.take (i := 17) (NoP.blk (NoP.thn (NoP.thn (NoP.blk (NoP.blk (NoP.thn (NoP.thn (NoP.blk (NoP.thn NoP.ret))))))))) rfl (by kernel_rfl) (by kernel_rfl) (by kernel_rfl) (fun w1 hc => Ex.mulN rfl rfl (by omega)) rfl ?_
      refine AwC.take (i := 18) (NoP.blk (NoP.thn (NoP.thn (NoP.blk (NoP.blk (NoP.thn (NoP.thn (NoP.blk (NoP.thn NoP.ret))))))))) rfl (by kernel_rfl) (by kernel_rfl) (by kernel_rfl) (fun w1 hc => Ex.move rfl) rfl ?_
      refine AwC.take (i := 19) (NoP.blk (NoP.thn (NoP.thn (NoP.blk (NoP.blk (NoP.thn (NoP.thn (NoP.blk (NoP.thn NoP.ret))))))))) rfl (by kernel_rfl) (by kernel_rfl) (by kernel_rfl) (fun w1 hc => Ex.addN rfl rfl (by omega)) rfl ?_
      refine AwC.take (i := 20) (NoP.blk (NoP.thn (NoP.thn (NoP.blk (NoP.blk (NoP.thn (NoP.thn (NoP.blk (NoP.thn NoP.ret))))))))) rfl (by kernel_rfl) (by kernel_rfl) (by kernel_rfl) (fun w1 hc => Ex.idxT st_27 rfl rfl (y_b.bs hc.1) _ rfl hbb) rfl ?_
      refine AwC.take (i := 21) (NoP.blk (NoP.thn (NoP.thn (NoP.blk (NoP.blk (NoP.thn (NoP.thn (NoP.blk (NoP.thn NoP.ret))))))))) rfl (by kernel_rfl) (by kernel_rfl) (by kernel_rfl) (fun w1 hc => Ex.ldT (ag_21 _) rfl (y_b.bs hc.1) hbb) rfl ?_
      refine AwC.only (by assumption) (i := 22) (by kernel_rfl) rfl ?_
      refine Lw.callV (p := []) rfl rfl rfl (gather_c G (sm p f) _ _ w10 b_g10) ?_
      rintro _ w11 ⟨rfl, b_g11, hg11⟩
      have M11 := M10.keep hg11 (by rintro _ ⟨⟩; omega)
      have hw11 := hw10.grown hg11 (below_size hw10) (by rintro _ ⟨⟩; have := below_size hw6; omega)
      have z11 := hg11.size
      have hC11 := And.intro hw11 M11.box
      have hsm : sm p f + a.l.getD (i / n * k + p) default * b.l.getD (p * n + i % n) default = sm (p + 1) f := by rw [sm, hf]
      rw [hsm] at b_g11
      rw [hsm]
      refine AwC.back ?_
      refine AwC.take (i := 23) (NoP.blk (NoP.thn (NoP.thn (NoP.blk (NoP.blk (NoP.thn (NoP.thn (NoP.blk (NoP.thn NoP.ret))))))))) rfl (by kernel_rfl) (by kernel_rfl) (by kernel_rfl) (fun w1 hc => Ex.idxS st_27 rfl rfl M10.sly.shp i rfl (by rw [List.length_set]; omega)) rfl ?_
      refine AwC.only (by assumption) (i := 24) (by kernel_rfl) rfl ?_
      refine Lw.unit (M11.st (sz_21 _) rfl rfl (by rw [List.length_set]; omega)) ?_
      rintro w12 ⟨M12, hg12, -⟩
      have hw12 := M11.below hw11 (Nat.le_refl _) hg12
      have b_g12 := b_g11.by hg12 (fun e => by have := M11.lst.blk _ e.symm; omega)
      have z12 := hg12.size
      have hC12 := And.intro hw12 M12.box
      rw [List.set_set] at M12
      refine AwC.back ?_
      refine AwC.done (by assumption) (by kernel_rfl) ?_
      refine Pw.blkN ?_
      refine Pw.thenN (Cw.out ?_)
      refine Cw.region ?_
      refine Lw.val (Ex.addI rfl rfl (by omega)) rfl ?_
      refine Lw.val (Ex.move rfl) rfl ?_
      refine Lw.nil ?_
      exact Pw.thenN (Pw.next (p + 1) ⟨rfl, rfl, rfl, rfl, rfl, rfl, rfl, rfl, rfl, rfl, rfl, rfl, rfl, rfl, rfl, trivial⟩ (⟨hp', by omega, hw12, M12, b_g12⟩) (by omega))
    intro h
    have hp' : p = k := by simp at h; omega
    subst hp'
    rw [hlast] at M
    refine Cw.exit ?_
    refine Pw.thenE ?_
    refine Pw.thenE ?_
    refine Pw.blkHit ?_
    refine Pw.blkN ?_
    refine Pw.thenN (Cw.out ?_)
    refine Cw.region ?_
    refine Lw.val (Ex.addI rfl rfl (by omega)) rfl ?_
    refine Lw.val (Ex.move rfl) rfl ?_
    refine Lw.nil ?_
    exact Pw.thenN (Pw.next (i + 1) ⟨rfl, rfl, rfl, rfl, rfl, rfl, rfl, rfl, rfl, trivial⟩ (⟨hi', hs9, hw9, M⟩) (by omega))
  intro h
  have hi' : i = m * n := by simp at h; omega
  subst hi'
  have hall : pl.take (m * n) ++ (List.replicate (m * n) 0#32).drop (m * n) = pl := by
    have := td_all npl
    rwa [lrep] at this
  rw [hall] at M
  have b_t6 := M.box
  have b_r6 := b_r.bs hw6
  refine Cw.exit ?_
  refine Pw.thenE ?_
  refine Pw.thenE ?_
  refine Pw.blkHit ?_
  refine Pw.thenN (Cw.out ?_)
  refine Cw.seq ?_
  refine Cw.region ?_
  refine Lw.val (Ex.ldA (ag_29 _) (sz_29 _) rfl rfl (by assumption)) rfl ?_
  refine Lw.unit (Xu.stA (cs := [zx, zy]) rfl rfl rfl rfl (by simp [M.sh.one', M.sly.one']) b_r6 rfl) ?_
  rintro w9 ⟨b_r9, hg9, -⟩
  have M9 := M.keep hg9 (by rintro _ ⟨⟩; omega)
  have zW := below_size hB
  have hB9 := (bt hB hw6).grown hg9 (below_size (bt hB hw6)) (by rintro _ ⟨⟩; omega)
  refine Lw.val (Ex.assign rfl) rfl ?_
  refine Lw.nil ?_
  refine Pw.thenN (Cw.out ?_)
  refine Cw.ret ?_
  refine Pw.retCT rfl rfl rfl (by assumption) (Tryz.underlying29) rfl rfl rfl ?_
  rw [← hm, ← hnn, hL, ← hpl]
  exact ⟨hB9, zx, zy, rfl, fun h => absurd rfl h, fun _ => ⟨M9.row.mono zW, own_mono M9.lst.own zW, M9.yx⟩⟩

theorem prod_c (a b : T4) (W : World) (h_a : a.at W) (h_b : b.at W) :
    Fnc Tryz.prog 74 [a.v, b.v] W (fun r w' => Below W.heap.size W w' ∧ Gets W w' r (prdE a b) [a.s.getD 0 default, b.s.getD 1 default] (prdL a b)) :=
  (prod0_c a b W h_a h_b).mono fun _ _ ⟨h1, h2⟩ => ⟨h1, h2.gets⟩
end Go.Proofs.YtmipoeanpnnjoaaGreat

/-! Contracts: windows' shapes, spots, pictures. -/
namespace Go.Proofs.YtmipoeanpnnjoaaGreat
open Go Go.Dd Go.RowKit
set_option maxRecDepth 100000

theorem slides_c (rows look step : Int) (w : World) (h1 : 0 ≤ rows ∧ rows ≤ 1000000) (h2 : 0 ≤ look ∧ look ≤ 1000000) (h3 : 1 ≤ step ∧ step ≤ 1000000) :
    Fnc Tryz.prog 99 [.int .i64 rows, .int .i64 look, .int .i64 step] w (fun r w' => r = .int .i64 (slid rows look step) ∧ Below w.heap.size w w') := by
  refine Fnc.enter (n := 16) Tryz.func99 (by kernel_rfl) rfl rfl rfl ?_
  refine Cw.seq ?_
  refine Cw.region ?_
  refine Lw.val (Ex.assign rfl) rfl ?_
  refine Lw.nil ?_
  refine Pw.thenN (Cw.out ?_)
  refine Cw.seq ?_
  refine Cw.seq ?_
  refine Cw.region ?_
  refine Lw.val (Ex.move rfl) rfl ?_
  refine Lw.val (Ex.move rfl) rfl ?_
  refine Lw.val (Ex.lss rfl rfl) rfl ?_
  refine Lw.nil ?_
  refine Pw.thenN (Cw.out ?_)
  refine Cw.cond rfl ?_ ?_
  · intro g
    have g := of_decide_eq_true g
    refine Cw.seq ?_
    refine Cw.region ?_
    refine Lw.val (Ex.assign rfl) rfl ?_
    refine Lw.nil ?_
    refine Pw.thenN (Cw.out ?_)
    refine Cw.ret ?_
    refine Pw.thenR ?_
    refine Pw.ret1 rfl rfl ?_
    exact ⟨by rw [slid, if_pos g], Below.refl _ _⟩
  intro g
  have g := of_decide_eq_false g
  have h4 := Int.ediv_le_self step (show 0 ≤ rows - look by omega)
  have h5 := Int.ediv_nonneg (show 0 ≤ rows - look by omega) (show 0 ≤ step by omega)
  refine Cw.skip ?_
  refine Pw.thenN (Cw.out ?_)
  refine Cw.seq ?_
  refine Cw.region ?_
  refine Lw.val (Ex.move rfl) rfl ?_
  refine Lw.val (Ex.move rfl) rfl ?_
  refine Lw.val (Ex.subI rfl rfl (by omega)) rfl ?_
  refine Lw.val (Ex.move rfl) rfl ?_
  refine Lw.val (Ex.quoI rfl rfl (by omega) (by omega)) rfl ?_
  refine Lw.val (Ex.addI rfl rfl (by omega)) rfl ?_
  refine Lw.val (Ex.assign rfl) rfl ?_
  refine Lw.nil ?_
  refine Pw.thenN (Cw.out ?_)
  refine Cw.ret ?_
  refine Pw.ret1 rfl rfl ?_
  exact ⟨by rw [slid, if_neg g], Below.refl _ _⟩
/-- An answer: whole numbers in memory of their own, or none. -/
def GotI (W w : World) (r : Value) (e : Int) (l : List Int) : Prop :=
  ∃ (x : Value) (m : List Int), r = .tuple #[x, .int .i64 e] ∧ w.ownsRow W.heap.size 3 1 x m.length (m.map (Value.int .i64)) ∧ (e ≠ 0 → x = .slice none 0 0 ∧ m = []) ∧ (e = 0 → m = l)
theorem gotI_no {W w : World} {e : Int} {l : List Int} (h : e ≠ 0) : GotI W w (.tuple #[.slice none 0 0, .int .i64 e]) e l := ⟨_, [], rfl, World.ownsRow_nil _ _ _ _, fun _ => ⟨rfl, rfl⟩, fun h0 => absurd h0 h⟩
theorem wshB_1 {t s : List Int} (h : ¬ t.length = 3) : wshB t s = false := by simp only [wshB, decide_eq_false h, Bool.false_and]
theorem wshB_2 {t s : List Int} (h : ¬ s.length = 4) : wshB t s = false := by simp only [wshB, decide_eq_false h, Bool.false_and, Bool.and_false]
theorem wshB_3 {t s : List Int} (h : ¬ t.getD 0 default = s.getD 1 default) : wshB t s = false := by simp only [wshB, decide_eq_false h, Bool.and_false]
theorem wshape_c (t s : List Int) (step pad : Int) (u v : Value) (W : World) (h_u : SlT (Value.int .i64) W u t) (h_v : SlT (Value.int .i64) W v s) :
    Fnc Tryz.prog 66 [u, v, .int .i64 step, .int .i64 pad] W (fun r w' => Below W.heap.size W w' ∧ GotI W w' r (wshE t s step pad) (wshS t s step pad)) := by
  have hB := Below.refl W.heap.size W
  refine Fnc.enter (n := 84) Tryz.func66 (by kernel_rfl) rfl rfl rfl ?_
  refine Cw.seq ?_
  refine Cw.region ?_
  refine Lw.val (Ex.assign rfl) rfl ?_
  refine Lw.val (Ex.assign rfl) rfl ?_
  refine Lw.nil ?_
  refine Pw.thenN (Cw.out ?_)
  refine Cw.seq ?_
  refine Cw.block ?_
  refine Cw.seq ?_
  refine Cw.region ?_
  refine Lw.val (Ex.move rfl) rfl ?_
  refine Lw.callF rfl rfl (check_c u t _ h_u) ?_
  rintro _ w ⟨rfl, hn⟩
  replace hB := hB.bs hn
  replace h_u := h_u.bs hn
  replace h_v := h_v.bs hn
  clear hn
  refine Lw.val (Ex.not rfl) rfl ?_
  refine Lw.val (Ex.move rfl) rfl ?_
  refine Lw.part 15 rfl ?_ ?_
  · intro g1
    refine Lw.pass (dj := 15) rfl rfl rfl rfl ?_
    refine Lw.pass (dj := 15) rfl rfl rfl rfl ?_
    refine Lw.pass (dj := 15) rfl rfl rfl rfl ?_
    refine Lw.val (Ex.pickT rfl rfl) rfl ?_
    refine Lw.val (Ex.move rfl) rfl ?_
    refine Lw.pass (dj := 20) rfl rfl rfl rfl ?_
    refine Lw.pass (dj := 20) rfl rfl rfl rfl ?_
    refine Lw.val (Ex.pickT rfl rfl) rfl ?_
    refine Lw.val (Ex.move rfl) rfl ?_
    refine Lw.pass (dj := 24) rfl rfl rfl rfl ?_
    refine Lw.pass (dj := 24) rfl rfl rfl rfl ?_
    refine Lw.val (Ex.pickT rfl rfl) rfl ?_
    refine Lw.val (Ex.move rfl) rfl ?_
    refine Lw.pass (dj := 28) rfl rfl rfl rfl ?_
    refine Lw.pass (dj := 28) rfl rfl rfl rfl ?_
    refine Lw.val (Ex.pickT rfl rfl) rfl ?_
    refine Lw.val (Ex.move rfl) rfl ?_
    refine Lw.pass (dj := 32) rfl rfl rfl rfl ?_
    refine Lw.pass (dj := 32) rfl rfl rfl rfl ?_
    refine Lw.val (Ex.pickT rfl rfl) rfl ?_
    refine Lw.val (Ex.assign rfl) rfl ?_
    refine Lw.nil ?_
    refine Pw.thenN (Cw.out ?_)
    refine Cw.condT rfl ?_
    refine Cw.seq ?_
    refine Cw.region ?_
    refine Lw.val (Ex.assign rfl) rfl ?_
    refine Lw.val (Ex.assign rfl) rfl ?_
    refine Lw.nil ?_
    refine Pw.thenN (Cw.out ?_)
    refine Cw.ret ?_
    refine Pw.blkR ?_
    refine Pw.thenR ?_
    refine Pw.ret2 rfl rfl rfl ?_
    rw [show wshE t s step pad = 1 by simp [wshE, show wshA t s step pad = true by simp_all [wshA]]]
    exact ⟨hB, gotI_no (by decide)⟩
  intro g1
  refine Lw.take (dj := 15) rfl rfl ?_
  refine Lw.val (Ex.move rfl) rfl ?_
  refine Lw.take (dj := 15) rfl rfl ?_
  refine Lw.callF rfl rfl (check_c v s _ h_v) ?_
  rintro _ w ⟨rfl, hn⟩
  replace hB := hB.bs hn
  replace h_u := h_u.bs hn
  replace h_v := h_v.bs hn
  clear hn
  refine Lw.take (dj := 15) rfl rfl ?_
  refine Lw.val (Ex.not rfl) rfl ?_
  refine Lw.val (Ex.pickF rfl rfl) rfl ?_
  refine Lw.val (Ex.move rfl) rfl ?_
  refine Lw.part 20 rfl ?_ ?_
  · intro g2
    refine Lw.pass (dj := 20) rfl rfl rfl rfl ?_
    refine Lw.pass (dj := 20) rfl rfl rfl rfl ?_
    refine Lw.val (Ex.pickT rfl rfl) rfl ?_
    refine Lw.val (Ex.move rfl) rfl ?_
    refine Lw.pass (dj := 24) rfl rfl rfl rfl ?_
    refine Lw.pass (dj := 24) rfl rfl rfl rfl ?_
    refine Lw.val (Ex.pickT rfl rfl) rfl ?_
    refine Lw.val (Ex.move rfl) rfl ?_
    refine Lw.pass (dj := 28) rfl rfl rfl rfl ?_
    refine Lw.pass (dj := 28) rfl rfl rfl rfl ?_
    refine Lw.val (Ex.pickT rfl rfl) rfl ?_
    refine Lw.val (Ex.move rfl) rfl ?_
    refine Lw.pass (dj := 32) rfl rfl rfl rfl ?_
    refine Lw.pass (dj := 32) rfl rfl rfl rfl ?_
    refine Lw.val (Ex.pickT rfl rfl) rfl ?_
    refine Lw.val (Ex.assign rfl) rfl ?_
    refine Lw.nil ?_
    refine Pw.thenN (Cw.out ?_)
    refine Cw.condT rfl ?_
    refine Cw.seq ?_
    refine Cw.region ?_
    refine Lw.val (Ex.assign rfl) rfl ?_
    refine Lw.val (Ex.assign rfl) rfl ?_
    refine Lw.nil ?_
    refine Pw.thenN (Cw.out ?_)
    refine Cw.ret ?_
    refine Pw.blkR ?_
    refine Pw.thenR ?_
    refine Pw.ret2 rfl rfl rfl ?_
    rw [show wshE t s step pad = 1 by simp [wshE, show wshA t s step pad = true by simp_all [wshA]]]
    exact ⟨hB, gotI_no (by decide)⟩
  intro g2
  refine Lw.take (dj := 20) rfl rfl ?_
  refine Lw.val (Ex.move rfl) rfl ?_
  refine Lw.take (dj := 20) rfl rfl ?_
  refine Lw.val (Ex.lss rfl rfl) rfl ?_
  refine Lw.val (Ex.pickF rfl rfl) rfl ?_
  refine Lw.val (Ex.move rfl) rfl ?_
  refine Lw.part 24 rfl ?_ ?_
  · intro g3
    refine Lw.pass (dj := 24) rfl rfl rfl rfl ?_
    refine Lw.pass (dj := 24) rfl rfl rfl rfl ?_
    refine Lw.val (Ex.pickT rfl rfl) rfl ?_
    refine Lw.val (Ex.move rfl) rfl ?_
    refine Lw.pass (dj := 28) rfl rfl rfl rfl ?_
    refine Lw.pass (dj := 28) rfl rfl rfl rfl ?_
    refine Lw.val (Ex.pickT rfl rfl) rfl ?_
    refine Lw.val (Ex.move rfl) rfl ?_
    refine Lw.pass (dj := 32) rfl rfl rfl rfl ?_
    refine Lw.pass (dj := 32) rfl rfl rfl rfl ?_
    refine Lw.val (Ex.pickT rfl rfl) rfl ?_
    refine Lw.val (Ex.assign rfl) rfl ?_
    refine Lw.nil ?_
    refine Pw.thenN (Cw.out ?_)
    refine Cw.condT rfl ?_
    refine Cw.seq ?_
    refine Cw.region ?_
    refine Lw.val (Ex.assign rfl) rfl ?_
    refine Lw.val (Ex.assign rfl) rfl ?_
    refine Lw.nil ?_
    refine Pw.thenN (Cw.out ?_)
    refine Cw.ret ?_
    refine Pw.blkR ?_
    refine Pw.thenR ?_
    refine Pw.ret2 rfl rfl rfl ?_
    rw [show wshE t s step pad = 1 by simp [wshE, show wshA t s step pad = true by simp_all [wshA]]]
    exact ⟨hB, gotI_no (by decide)⟩
  intro g3
  refine Lw.take (dj := 24) rfl rfl ?_
  refine Lw.val (Ex.move rfl) rfl ?_
  refine Lw.take (dj := 24) rfl rfl ?_
  refine Lw.val (Ex.gtr rfl rfl) rfl ?_
  refine Lw.val (Ex.pickF rfl rfl) rfl ?_
  refine Lw.val (Ex.move rfl) rfl ?_
  refine Lw.part 28 rfl ?_ ?_
  · intro g4
    refine Lw.pass (dj := 28) rfl rfl rfl rfl ?_
    refine Lw.pass (dj := 28) rfl rfl rfl rfl ?_
    refine Lw.val (Ex.pickT rfl rfl) rfl ?_
    refine Lw.val (Ex.move rfl) rfl ?_
    refine Lw.pass (dj := 32) rfl rfl rfl rfl ?_
    refine Lw.pass (dj := 32) rfl rfl rfl rfl ?_
    refine Lw.val (Ex.pickT rfl rfl) rfl ?_
    refine Lw.val (Ex.assign rfl) rfl ?_
    refine Lw.nil ?_
    refine Pw.thenN (Cw.out ?_)
    refine Cw.condT rfl ?_
    refine Cw.seq ?_
    refine Cw.region ?_
    refine Lw.val (Ex.assign rfl) rfl ?_
    refine Lw.val (Ex.assign rfl) rfl ?_
    refine Lw.nil ?_
    refine Pw.thenN (Cw.out ?_)
    refine Cw.ret ?_
    refine Pw.blkR ?_
    refine Pw.thenR ?_
    refine Pw.ret2 rfl rfl rfl ?_
    rw [show wshE t s step pad = 1 by simp [wshE, show wshA t s step pad = true by simp_all [wshA]]]
    exact ⟨hB, gotI_no (by decide)⟩
  intro g4
  refine Lw.take (dj := 28) rfl rfl ?_
  refine Lw.val (Ex.move rfl) rfl ?_
  refine Lw.take (dj := 28) rfl rfl ?_
  refine Lw.val (Ex.lss rfl rfl) rfl ?_
  refine Lw.val (Ex.pickF rfl rfl) rfl ?_
  refine Lw.val (Ex.move rfl) rfl ?_
  refine Lw.part 32 rfl ?_ ?_
  · intro g5
    refine Lw.pass (dj := 32) rfl rfl rfl rfl ?_
    refine Lw.pass (dj := 32) rfl rfl rfl rfl ?_
    refine Lw.val (Ex.pickT rfl rfl) rfl ?_
    refine Lw.val (Ex.assign rfl) rfl ?_
    refine Lw.nil ?_
    refine Pw.thenN (Cw.out ?_)
    refine Cw.condT rfl ?_
    refine Cw.seq ?_
    refine Cw.region ?_
    refine Lw.val (Ex.assign rfl) rfl ?_
    refine Lw.val (Ex.assign rfl) rfl ?_
    refine Lw.nil ?_
    refine Pw.thenN (Cw.out ?_)
    refine Cw.ret ?_
    refine Pw.blkR ?_
    refine Pw.thenR ?_
    refine Pw.ret2 rfl rfl rfl ?_
    rw [show wshE t s step pad = 1 by simp [wshE, show wshA t s step pad = true by simp_all [wshA]]]
    exact ⟨hB, gotI_no (by decide)⟩
  intro g5
  have gT : Shapes.ok t = true := by simpa using g1
  have gS : Shapes.ok s = true := by simpa using g2
  have gst : 1 ≤ step := by simpa using g3
  have gst2 : step ≤ 8 := by simpa using g4
  have gp : 0 ≤ pad := by simpa using g5
  refine Lw.take (dj := 32) rfl rfl ?_
  refine Lw.val (Ex.move rfl) rfl ?_
  refine Lw.take (dj := 32) rfl rfl ?_
  refine Lw.val (Ex.gtr rfl rfl) rfl ?_
  refine Lw.val (Ex.pickF rfl rfl) rfl ?_
  refine Lw.val (Ex.assign rfl) rfl ?_
  refine Lw.nil ?_
  refine Pw.thenN (Cw.out ?_)
  refine Cw.cond rfl ?_ ?_
  · intro g6
    refine Cw.seq ?_
    refine Cw.region ?_
    refine Lw.val (Ex.assign rfl) rfl ?_
    refine Lw.val (Ex.assign rfl) rfl ?_
    refine Lw.nil ?_
    refine Pw.thenN (Cw.out ?_)
    refine Cw.ret ?_
    refine Pw.blkR ?_
    refine Pw.thenR ?_
    refine Pw.ret2 rfl rfl rfl ?_
    rw [show wshE t s step pad = 1 by simp [wshE, show wshA t s step pad = true by simp_all [wshA]]]
    exact ⟨hB, gotI_no (by decide)⟩
  intro g6
  have gp2 : pad ≤ 8 := by simpa using g6
  have gA : wshA t s step pad = false := by simp_all [wshA]
  clear g1 g2 g3 g4 g5 g6
  have hT := (Shapes.ok_iff t).1 gT
  have hS := (Shapes.ok_iff s).1 gS
  refine Cw.seq ?_
  refine Cw.quiet mixed (by kernel_rfl) ?_
  refine Qw.val (fun w1 hq => Ex.move rfl) rfl ?_
  refine Qw.val (fun w1 hq => Ex.lenS st_26 rfl (Sl.bs (by assumption) hq)) rfl ?_
  refine Qw.val (fun w1 hq => Ex.neq rfl rfl) rfl ?_
  refine Qw.val (fun w1 hq => Ex.move rfl) rfl ?_
  refine Qw.part 40 rfl ?_ ?_
  · intro g
    refine Qw.pass (dj := 40) rfl rfl rfl rfl ?_
    refine Qw.pass (dj := 40) rfl rfl rfl rfl ?_
    refine Qw.pass (dj := 40) rfl rfl rfl rfl ?_
    refine Qw.val (fun w1 hq => Ex.pickT rfl rfl) rfl ?_
    refine Qw.val (fun w1 hq => Ex.move rfl) rfl ?_
    refine Qw.pass (dj := 45) rfl rfl rfl rfl ?_
    refine Qw.pass (dj := 45) rfl rfl rfl rfl ?_
    refine Qw.pass (dj := 45) rfl rfl rfl rfl ?_
    refine Qw.pass (dj := 45) rfl rfl rfl rfl ?_
    refine Qw.pass (dj := 45) rfl rfl rfl rfl ?_
    refine Qw.pass (dj := 45) rfl rfl rfl rfl ?_
    refine Qw.pass (dj := 45) rfl rfl rfl rfl ?_
    refine Qw.val (fun w1 hq => Ex.pickT rfl rfl) rfl ?_
    refine Qw.val (fun w1 hq => Ex.assign rfl) rfl ?_
    refine Qw.nil (fun w1 hq => ?_)
    refine Pw.thenN (Cw.out ?_)
    refine Cw.condT rfl ?_
    refine Cw.seq ?_
    refine Cw.region ?_
    refine Lw.val (Ex.assign rfl) rfl ?_
    refine Lw.val (Ex.assign rfl) rfl ?_
    refine Lw.nil ?_
    refine Pw.thenN (Cw.out ?_)
    refine Cw.ret ?_
    refine Pw.blkR ?_
    refine Pw.thenR ?_
    refine Pw.ret2 rfl rfl rfl ?_
    rw [show wshE t s step pad = 10 by rw [wshE, gA, wshB_1 (fun h => by simp [h] at g)]; rfl]
    exact ⟨bt hB hq, gotI_no (by decide)⟩
  intro g7
  have lt : t.length = 3 := by have := g7; simp at this; omega
  refine Qw.take (dj := 40) rfl rfl ?_
  refine Qw.val (fun w1 hq => Ex.move rfl) rfl ?_
  refine Qw.take (dj := 40) rfl rfl ?_
  refine Qw.val (fun w1 hq => Ex.lenS st_26 rfl (Sl.bs (by assumption) hq)) rfl ?_
  refine Qw.take (dj := 40) rfl rfl ?_
  refine Qw.val (fun w1 hq => Ex.neq rfl rfl) rfl ?_
  refine Qw.val (fun w1 hq => Ex.pickF rfl rfl) rfl ?_
  refine Qw.val (fun w1 hq => Ex.move rfl) rfl ?_
  refine Qw.part 45 rfl ?_ ?_
  · intro g
    refine Qw.pass (dj := 45) rfl rfl rfl rfl ?_
    refine Qw.pass (dj := 45) rfl rfl rfl rfl ?_
    refine Qw.pass (dj := 45) rfl rfl rfl rfl ?_
    refine Qw.pass (dj := 45) rfl rfl rfl rfl ?_
    refine Qw.pass (dj := 45) rfl rfl rfl rfl ?_
    refine Qw.pass (dj := 45) rfl rfl rfl rfl ?_
    refine Qw.pass (dj := 45) rfl rfl rfl rfl ?_
    refine Qw.val (fun w1 hq => Ex.pickT rfl rfl) rfl ?_
    refine Qw.val (fun w1 hq => Ex.assign rfl) rfl ?_
    refine Qw.nil (fun w1 hq => ?_)
    refine Pw.thenN (Cw.out ?_)
    refine Cw.condT rfl ?_
    refine Cw.seq ?_
    refine Cw.region ?_
    refine Lw.val (Ex.assign rfl) rfl ?_
    refine Lw.val (Ex.assign rfl) rfl ?_
    refine Lw.nil ?_
    refine Pw.thenN (Cw.out ?_)
    refine Cw.ret ?_
    refine Pw.blkR ?_
    refine Pw.thenR ?_
    refine Pw.ret2 rfl rfl rfl ?_
    rw [show wshE t s step pad = 10 by rw [wshE, gA, wshB_2 (fun h => by simp [h] at g)]; rfl]
    exact ⟨bt hB hq, gotI_no (by decide)⟩
  intro g8
  have ls : s.length = 4 := by have := g8; simp at this; omega
  refine Qw.take (dj := 45) rfl rfl ?_
  refine Qw.val (fun w1 hq => Ex.move rfl) rfl ?_
  refine Qw.take (dj := 45) rfl rfl ?_
  refine Qw.val (fun w1 hq => Ex.idxT st_26 rfl rfl (Sl.bs (by assumption) hq) 0 rfl (by omega)) rfl ?_
  refine Qw.take (dj := 45) rfl rfl ?_
  refine Qw.val (fun w1 hq => Ex.ldT (ag_3 _) rfl (Sl.bs (by assumption) hq) (by omega)) rfl ?_
  refine Qw.take (dj := 45) rfl rfl ?_
  refine Qw.val (fun w1 hq => Ex.move rfl) rfl ?_
  refine Qw.take (dj := 45) rfl rfl ?_
  refine Qw.val (fun w1 hq => Ex.idxT st_26 rfl rfl (Sl.bs (by assumption) hq) 1 rfl (by omega)) rfl ?_
  refine Qw.take (dj := 45) rfl rfl ?_
  refine Qw.val (fun w1 hq => Ex.ldT (ag_3 _) rfl (Sl.bs (by assumption) hq) (by omega)) rfl ?_
  refine Qw.take (dj := 45) rfl rfl ?_
  refine Qw.val (fun w1 hq => Ex.neq rfl rfl) rfl ?_
  refine Qw.val (fun w1 hq => Ex.pickF rfl rfl) rfl ?_
  refine Qw.val (fun w1 hq => Ex.assign rfl) rfl ?_
  refine Qw.nil (fun w1 hq => ?_)
  refine Pw.thenN (Cw.out ?_)
  refine Cw.cond rfl ?_ ?_
  · intro g
    refine Cw.seq ?_
    refine Cw.region ?_
    refine Lw.val (Ex.assign rfl) rfl ?_
    refine Lw.val (Ex.assign rfl) rfl ?_
    refine Lw.nil ?_
    refine Pw.thenN (Cw.out ?_)
    refine Cw.ret ?_
    refine Pw.blkR ?_
    refine Pw.thenR ?_
    refine Pw.ret2 rfl rfl rfl ?_
    rw [show wshE t s step pad = 10 by rw [wshE, gA, wshB_3 (fun h => by rw [decide_eq_true h] at g; cases g)]; rfl]
    exact ⟨bt hB hq, gotI_no (by decide)⟩
  intro g9
  have gB : wshB t s = true := by
    have : t.getD 0 default = s.getD 1 default := by simpa only [Bool.not_eq_false', decide_eq_true_eq] using g9
    rw [wshB, decide_eq_true lt, decide_eq_true ls, decide_eq_true this]; rfl
  replace hB := hB.bs hq
  replace h_u := h_u.bs hq
  replace h_v := h_v.bs hq
  clear hq g7 g8 g9
  have t1 := good_at hT.2.1 (k := 1) (by omega)
  have t2 := good_at hT.2.1 (k := 2) (by omega)
  have s0 := good_at hS.2.1 (k := 0) (by omega)
  have s2 := good_at hS.2.1 (k := 2) (by omega)
  have s3 := good_at hS.2.1 (k := 3) (by omega)
  refine Cw.skip ?_
  refine Pw.blkN ?_
  refine Pw.thenN (Cw.out ?_)
  refine Cw.seq ?_
  refine Cw.tail 25 mixed (by kernel_rfl) ?_
  refine Qw.val (fun w1 hq => Ex.move rfl) rfl ?_
  refine Qw.val (fun w1 hq => Ex.idxT st_26 rfl rfl (Sl.bs (by assumption) hq) 0 rfl (by omega)) rfl ?_
  refine Qw.val (fun w1 hq => Ex.ldT (ag_3 _) rfl (Sl.bs (by assumption) hq) (by omega)) rfl ?_
  refine Qw.val (fun w1 hq => Ex.move rfl) rfl ?_
  refine Qw.val (fun w1 hq => Ex.idxT st_26 rfl rfl (Sl.bs (by assumption) hq) 1 rfl (by omega)) rfl ?_
  refine Qw.val (fun w1 hq => Ex.ldT (ag_3 _) rfl (Sl.bs (by assumption) hq) (by omega)) rfl ?_
  refine Qw.val (fun w1 hq => Ex.move rfl) rfl ?_
  refine Qw.val (fun w1 hq => Ex.mulI rfl rfl (by omega)) rfl ?_
  refine Qw.val (fun w1 hq => Ex.addI rfl rfl (by omega)) rfl ?_
  refine Qw.val (fun w1 hq => Ex.move rfl) rfl ?_
  refine Qw.val (fun w1 hq => Ex.idxT st_26 rfl rfl (Sl.bs (by assumption) hq) 2 rfl (by omega)) rfl ?_
  refine Qw.val (fun w1 hq => Ex.ldT (ag_3 _) rfl (Sl.bs (by assumption) hq) (by omega)) rfl ?_
  refine Qw.val (fun w1 hq => Ex.move rfl) rfl ?_
  refine Qw.callF rfl rfl (fun w1 hq => (slides_c (t.getD 1 default + 2 * pad) (s.getD 2 default) step w1 (by omega) (by omega) (by omega)).q hq) ?_
  refine Qw.val (fun w1 hq => Ex.move rfl) rfl ?_
  refine Qw.val (fun w1 hq => Ex.idxT st_26 rfl rfl (Sl.bs (by assumption) hq) 2 rfl (by omega)) rfl ?_
  refine Qw.val (fun w1 hq => Ex.ldT (ag_3 _) rfl (Sl.bs (by assumption) hq) (by omega)) rfl ?_
  refine Qw.val (fun w1 hq => Ex.move rfl) rfl ?_
  refine Qw.val (fun w1 hq => Ex.mulI rfl rfl (by omega)) rfl ?_
  refine Qw.val (fun w1 hq => Ex.addI rfl rfl (by omega)) rfl ?_
  refine Qw.val (fun w1 hq => Ex.move rfl) rfl ?_
  refine Qw.val (fun w1 hq => Ex.idxT st_26 rfl rfl (Sl.bs (by assumption) hq) 3 rfl (by omega)) rfl ?_
  refine Qw.val (fun w1 hq => Ex.ldT (ag_3 _) rfl (Sl.bs (by assumption) hq) (by omega)) rfl ?_
  refine Qw.val (fun w1 hq => Ex.move rfl) rfl ?_
  refine Qw.callF rfl rfl (fun w1 hq => (slides_c (t.getD 2 default + 2 * pad) (s.getD 3 default) step w1 (by omega) (by omega) (by omega)).q hq) ?_
  refine Qw.done (fun w2 hq => ?_)
  replace hB := hB.bs hq
  replace h_u := h_u.bs hq
  replace h_v := h_v.bs hq
  clear hq
  have zw := below_size hB
  refine Lw.valW (Xw.lit (vs := (wshS t s step pad).map (Value.int .i64)) st_26 it_3 rfl rfl rfl rfl rfl) rfl ?_
  rintro x w ⟨ho, -, hn, -⟩
  have ho := own_mono ho zw
  replace hB := hB.bs hn
  replace h_u := h_u.bs hn
  replace h_v := h_v.bs hn
  clear hn
  refine Lw.val (Ex.assign rfl) rfl ?_
  refine Lw.nil ?_
  refine Pw.thenN (Cw.out ?_)
  refine Cw.seq ?_
  refine Cw.seq ?_
  refine Cw.region ?_
  refine Lw.val (Ex.move rfl) rfl ?_
  refine Lw.callF rfl rfl (check_c x (wshS t s step pad) _ (own_slT ho)) ?_
  rintro _ w ⟨rfl, hn⟩
  replace hB := hB.bs hn
  replace h_u := h_u.bs hn
  replace h_v := h_v.bs hn
  replace ho := ho.bs hn
  clear hn
  refine Lw.val (Ex.not rfl) rfl ?_
  refine Lw.nil ?_
  refine Pw.thenN (Cw.out ?_)
  refine Cw.cond rfl ?_ ?_
  · intro g
    refine Cw.seq ?_
    refine Cw.region ?_
    refine Lw.val (Ex.assign rfl) rfl ?_
    refine Lw.val (Ex.assign rfl) rfl ?_
    refine Lw.nil ?_
    refine Pw.thenN (Cw.out ?_)
    refine Cw.ret ?_
    refine Pw.thenR ?_
    refine Pw.ret2 rfl rfl rfl ?_
    rw [show wshE t s step pad = 10 by simp_all [wshE]]
    exact ⟨hB, gotI_no (by decide)⟩
  intro g
  refine Cw.skip ?_
  refine Pw.thenN (Cw.out ?_)
  refine Cw.seq ?_
  refine Cw.region ?_
  refine Lw.val (Ex.move rfl) rfl ?_
  refine Lw.val (Ex.assign rfl) rfl ?_
  refine Lw.val (Ex.assign rfl) rfl ?_
  refine Lw.nil ?_
  refine Pw.thenN (Cw.out ?_)
  refine Cw.ret ?_
  refine Pw.ret2 rfl rfl rfl ?_
  rw [show wshE t s step pad = 0 by simp_all [wshE]]
  exact ⟨hB, x, _, rfl, ho, fun h => absurd rfl h, fun _ => rfl⟩
theorem wpshape_c (t : List Int) (wide : Int) (u : Value) (W : World) (h_u : SlT (Value.int .i64) W u t) :
    Fnc Tryz.prog 67 [u, .int .i64 wide] W (fun r w' => Below W.heap.size W w' ∧ GotI W w' r (poolE t wide) (pshS t wide)) := by
  have hB := Below.refl W.heap.size W
  refine Fnc.enter (n := 47) Tryz.func67 (by kernel_rfl) rfl rfl rfl ?_
  refine Cw.seq ?_
  refine Cw.region ?_
  refine Lw.val (Ex.assign rfl) rfl ?_
  refine Lw.val (Ex.assign rfl) rfl ?_
  refine Lw.nil ?_
  refine Pw.thenN (Cw.out ?_)
  refine Cw.seq ?_
  refine Cw.seq ?_
  refine Cw.region ?_
  refine Lw.val (Ex.move rfl) rfl ?_
  refine Lw.callF rfl rfl (check_c u t _ h_u) ?_
  rintro _ w ⟨rfl, hn⟩
  replace hB := hB.bs hn
  replace h_u := h_u.bs hn
  clear hn
  refine Lw.val (Ex.not rfl) rfl ?_
  refine Lw.val (Ex.move rfl) rfl ?_
  refine Lw.part 9 rfl ?_ ?_
  · intro g1
    refine Lw.pass (dj := 9) rfl rfl rfl rfl ?_
    refine Lw.pass (dj := 9) rfl rfl rfl rfl ?_
    refine Lw.val (Ex.pickT rfl rfl) rfl ?_
    refine Lw.val (Ex.move rfl) rfl ?_
    refine Lw.pass (dj := 13) rfl rfl rfl rfl ?_
    refine Lw.pass (dj := 13) rfl rfl rfl rfl ?_
    refine Lw.val (Ex.pickT rfl rfl) rfl ?_
    refine Lw.nil ?_
    refine Pw.thenN (Cw.out ?_)
    refine Cw.condT rfl ?_
    refine Cw.seq ?_
    refine Cw.region ?_
    refine Lw.val (Ex.assign rfl) rfl ?_
    refine Lw.val (Ex.assign rfl) rfl ?_
    refine Lw.nil ?_
    refine Pw.thenN (Cw.out ?_)
    refine Cw.ret ?_
    refine Pw.thenR ?_
    refine Pw.ret2 rfl rfl rfl ?_
    rw [show poolE t wide = 1 by simp [poolE, show pshA t wide = true by simp_all [pshA]]]
    exact ⟨hB, gotI_no (by decide)⟩
  intro g1
  refine Lw.take (dj := 9) rfl rfl ?_
  refine Lw.val (Ex.move rfl) rfl ?_
  refine Lw.take (dj := 9) rfl rfl ?_
  refine Lw.val (Ex.lss rfl rfl) rfl ?_
  refine Lw.val (Ex.pickF rfl rfl) rfl ?_
  refine Lw.val (Ex.move rfl) rfl ?_
  refine Lw.part 13 rfl ?_ ?_
  · intro g2
    refine Lw.pass (dj := 13) rfl rfl rfl rfl ?_
    refine Lw.pass (dj := 13) rfl rfl rfl rfl ?_
    refine Lw.val (Ex.pickT rfl rfl) rfl ?_
    refine Lw.nil ?_
    refine Pw.thenN (Cw.out ?_)
    refine Cw.condT rfl ?_
    refine Cw.seq ?_
    refine Cw.region ?_
    refine Lw.val (Ex.assign rfl) rfl ?_
    refine Lw.val (Ex.assign rfl) rfl ?_
    refine Lw.nil ?_
    refine Pw.thenN (Cw.out ?_)
    refine Cw.ret ?_
    refine Pw.thenR ?_
    refine Pw.ret2 rfl rfl rfl ?_
    rw [show poolE t wide = 1 by simp [poolE, show pshA t wide = true by simp_all [pshA]]]
    exact ⟨hB, gotI_no (by decide)⟩
  intro g2
  refine Lw.take (dj := 13) rfl rfl ?_
  refine Lw.val (Ex.move rfl) rfl ?_
  refine Lw.take (dj := 13) rfl rfl ?_
  refine Lw.val (Ex.gtr rfl rfl) rfl ?_
  refine Lw.val (Ex.pickF rfl rfl) rfl ?_
  refine Lw.nil ?_
  refine Pw.thenN (Cw.out ?_)
  refine Cw.cond rfl ?_ ?_
  · intro g3
    refine Cw.seq ?_
    refine Cw.region ?_
    refine Lw.val (Ex.assign rfl) rfl ?_
    refine Lw.val (Ex.assign rfl) rfl ?_
    refine Lw.nil ?_
    refine Pw.thenN (Cw.out ?_)
    refine Cw.ret ?_
    refine Pw.thenR ?_
    refine Pw.ret2 rfl rfl rfl ?_
    rw [show poolE t wide = 1 by simp [poolE, show pshA t wide = true by simp_all [pshA]]]
    exact ⟨hB, gotI_no (by decide)⟩
  intro g3
  have gA : pshA t wide = false := by simp_all [pshA]
  have gT : Shapes.ok t = true := by simpa using g1
  have w1 : 1 ≤ wide := by simpa using g2
  have w2 : wide ≤ 64 := by simpa using g3
  have hT := (Shapes.ok_iff t).1 gT
  clear g1 g2 g3
  refine Cw.skip ?_
  refine Pw.thenN (Cw.out ?_)
  refine Cw.seq ?_
  refine Cw.seq ?_
  refine Cw.quiet mixed (by kernel_rfl) ?_
  refine Qw.val (fun w1 hq => Ex.move rfl) rfl ?_
  refine Qw.val (fun w1 hq => Ex.lenS st_26 rfl (Sl.bs (by assumption) hq)) rfl ?_
  refine Qw.val (fun w1 hq => Ex.neq rfl rfl) rfl ?_
  refine Qw.val (fun w1 hq => Ex.move rfl) rfl ?_
  refine Qw.part 20 rfl ?_ ?_
  · intro g
    refine Qw.pass (dj := 20) rfl rfl rfl rfl ?_
    refine Qw.pass (dj := 20) rfl rfl rfl rfl ?_
    refine Qw.pass (dj := 20) rfl rfl rfl rfl ?_
    refine Qw.pass (dj := 20) rfl rfl rfl rfl ?_
    refine Qw.pass (dj := 20) rfl rfl rfl rfl ?_
    refine Qw.pass (dj := 20) rfl rfl rfl rfl ?_
    refine Qw.pass (dj := 20) rfl rfl rfl rfl ?_
    refine Qw.pass (dj := 20) rfl rfl rfl rfl ?_
    refine Qw.pass (dj := 20) rfl rfl rfl rfl ?_
    refine Qw.val (fun w1 hq => Ex.pickT rfl rfl) rfl ?_
    refine Qw.nil (fun wq hq => ?_)
    refine Pw.thenN (Cw.out ?_)
    refine Cw.condT rfl ?_
    refine Cw.seq ?_
    refine Cw.region ?_
    refine Lw.val (Ex.assign rfl) rfl ?_
    refine Lw.val (Ex.assign rfl) rfl ?_
    refine Lw.nil ?_
    refine Pw.thenN (Cw.out ?_)
    refine Cw.ret ?_
    refine Pw.thenR ?_
    refine Pw.ret2 rfl rfl rfl ?_
    rw [show poolE t wide = 10 by rw [poolE, gA, pshB, decide_eq_false (show ¬ t.length = 3 from fun h => by simp [h] at g)]; rfl]
    exact ⟨bt hB hq, gotI_no (by decide)⟩
  intro g4
  have lt : t.length = 3 := by have := g4; simp at this; omega
  have t0 := good_at hT.2.1 (k := 0) (by omega)
  have t1 := good_at hT.2.1 (k := 1) (by omega)
  have t2 := good_at hT.2.1 (k := 2) (by omega)
  refine Qw.take (dj := 20) rfl rfl ?_
  refine Qw.val (fun w1 hq => Ex.move rfl) rfl ?_
  refine Qw.take (dj := 20) rfl rfl ?_
  refine Qw.val (fun w1 hq => Ex.idxT st_26 rfl rfl (Sl.bs (by assumption) hq) 1 rfl (by omega)) rfl ?_
  refine Qw.take (dj := 20) rfl rfl ?_
  refine Qw.val (fun w1 hq => Ex.ldT (ag_3 _) rfl (Sl.bs (by assumption) hq) (by omega)) rfl ?_
  refine Qw.take (dj := 20) rfl rfl ?_
  refine Qw.val (fun w1 hq => Ex.move rfl) rfl ?_
  refine Qw.take (dj := 20) rfl rfl ?_
  refine Qw.val (fun w1 hq => Ex.idxT st_26 rfl rfl (Sl.bs (by assumption) hq) 2 rfl (by omega)) rfl ?_
  refine Qw.take (dj := 20) rfl rfl ?_
  refine Qw.val (fun w1 hq => Ex.ldT (ag_3 _) rfl (Sl.bs (by assumption) hq) (by omega)) rfl ?_
  refine Qw.take (dj := 20) rfl rfl ?_
  refine Qw.val (fun w1 hq => Ex.min2 rfl rfl) rfl ?_
  refine Qw.take (dj := 20) rfl rfl ?_
  refine Qw.val (fun w1 hq => Ex.move rfl) rfl ?_
  refine Qw.take (dj := 20) rfl rfl ?_
  refine Qw.val (fun w1 hq => Ex.lss rfl rfl) rfl ?_
  refine Qw.val (fun w1 hq => Ex.pickF rfl rfl) rfl ?_
  refine Qw.nil (fun wq hq => ?_)
  refine Pw.thenN (Cw.out ?_)
  refine Cw.cond rfl ?_ ?_
  · intro g
    have g := of_decide_eq_true g
    refine Cw.seq ?_
    refine Cw.region ?_
    refine Lw.val (Ex.assign rfl) rfl ?_
    refine Lw.val (Ex.assign rfl) rfl ?_
    refine Lw.nil ?_
    refine Pw.thenN (Cw.out ?_)
    refine Cw.ret ?_
    refine Pw.thenR ?_
    refine Pw.ret2 rfl rfl rfl ?_
    rw [show poolE t wide = 10 by
      have : pshB t wide = false := by
        unfold pshB
        by_cases h1 : wide ≤ t.getD 1 default
        · have h2 : ¬ wide ≤ t.getD 2 default := fun h2 => by split at g <;> omega
          simp only [decide_eq_false h2, Bool.and_false]
        · simp only [decide_eq_false h1, Bool.and_false, Bool.false_and]
      simp [poolE, gA, this]]
    exact ⟨bt hB hq, gotI_no (by decide)⟩
  intro g
  have g := of_decide_eq_false g
  have gB : pshB t wide = true := by
    have h1 : wide ≤ t.getD 1 default := by split at g <;> omega
    have h2 : wide ≤ t.getD 2 default := by split at g <;> omega
    rw [pshB, decide_eq_true lt, decide_eq_true h1, decide_eq_true h2]; rfl
  replace hB := hB.bs hq
  replace h_u := h_u.bs hq
  clear hq g4 g
  refine Cw.skip ?_
  refine Pw.thenN (Cw.out ?_)
  refine Cw.seq ?_
  refine Cw.tail 15 mixed (by kernel_rfl) ?_
  refine Qw.val (fun w1 hq => Ex.move rfl) rfl ?_
  refine Qw.val (fun w1 hq => Ex.idxT st_26 rfl rfl (Sl.bs (by assumption) hq) 0 rfl (by omega)) rfl ?_
  refine Qw.val (fun w1 hq => Ex.ldT (ag_3 _) rfl (Sl.bs (by assumption) hq) (by omega)) rfl ?_
  refine Qw.val (fun w1 hq => Ex.move rfl) rfl ?_
  refine Qw.val (fun w1 hq => Ex.idxT st_26 rfl rfl (Sl.bs (by assumption) hq) 1 rfl (by omega)) rfl ?_
  refine Qw.val (fun w1 hq => Ex.ldT (ag_3 _) rfl (Sl.bs (by assumption) hq) (by omega)) rfl ?_
  refine Qw.val (fun w1 hq => Ex.move rfl) rfl ?_
  refine Qw.val (fun w1 hq => Ex.move rfl) rfl ?_
  refine Qw.callF rfl rfl (fun w1 hq => (slides_c (t.getD 1 default) wide wide w1 (by omega) (by omega) (by omega)).q hq) ?_
  refine Qw.val (fun w1 hq => Ex.move rfl) rfl ?_
  refine Qw.val (fun w1 hq => Ex.idxT st_26 rfl rfl (Sl.bs (by assumption) hq) 2 rfl (by omega)) rfl ?_
  refine Qw.val (fun w1 hq => Ex.ldT (ag_3 _) rfl (Sl.bs (by assumption) hq) (by omega)) rfl ?_
  refine Qw.val (fun w1 hq => Ex.move rfl) rfl ?_
  refine Qw.val (fun w1 hq => Ex.move rfl) rfl ?_
  refine Qw.callF rfl rfl (fun w1 hq => (slides_c (t.getD 2 default) wide wide w1 (by omega) (by omega) (by omega)).q hq) ?_
  refine Qw.done (fun w3 hq => ?_)
  replace hB := hB.bs hq
  replace h_u := h_u.bs hq
  clear hq
  have zw := below_size hB
  refine Lw.valW (Xw.lit (vs := (pshS t wide).map (Value.int .i64)) st_26 it_3 rfl rfl rfl rfl rfl) rfl ?_
  rintro x w ⟨ho, -, hn, -⟩
  have ho := own_mono ho zw
  replace hB := hB.bs hn
  replace h_u := h_u.bs hn
  clear hn
  refine Lw.val (Ex.assign rfl) rfl ?_
  refine Lw.val (Ex.assign rfl) rfl ?_
  refine Lw.nil ?_
  refine Pw.thenN (Cw.out ?_)
  refine Cw.ret ?_
  refine Pw.ret2 rfl rfl rfl ?_
  rw [show poolE t wide = 0 by simp [poolE, gA, gB]]
  exact ⟨hB, x, _, rfl, ho, fun h => absurd rfl h, fun _ => rfl⟩
abbrev picT : TypeId := 133
abbrev spotT : TypeId := 138
theorem bt_pic (y : Value) (a b : Int) (hy : y.cells = [y].toArray) : Tryz.prog.built picT [(0, y), (1, .int .i64 a), (2, .int .i64 b)] = some [y, .int .i64 a, .int .i64 b].toArray := by
  have h1 : Tryz.prog.info? 133 = some Tryz.t133 := rfl
  have h2 : Tryz.prog.info? 27 = some Tryz.t27 := rfl
  have h3 : Tryz.prog.info? 3 = some Tryz.t3 := rfl
  simp [Program.built, h1, Tryz.underlying133, h2, h3, Instr.fill, hy]
  rfl
theorem bt_spot (a b c : Int) : Tryz.prog.built spotT [(0, .int .i64 a), (1, .int .i64 b), (2, .int .i64 c)] = some [Value.int .i64 a, .int .i64 b, .int .i64 c].toArray := by
  have h1 : Tryz.prog.info? 138 = some Tryz.t138 := rfl
  have h3 : Tryz.prog.info? 3 = some Tryz.t3 := rfl
  simp [Program.built, h1, Tryz.underlying138, h3, Instr.fill]
  rfl
def picV (a : T4) : Value := .agg #[a.y, .int .i64 (a.s.getD 1 default), .int .i64 (a.s.getD 2 default)]
theorem pof_c (a : T4) (W : World) (h_a : a.at W) (hl : 3 ≤ a.s.length) : Fnc Tryz.prog 109 [a.v] W (fun r w' => r = picV a ∧ Below W.heap.size W w') := by
  have hB := Below.refl W.heap.size W
  refine Fnc.enter (n := 14) Tryz.func109 (by kernel_rfl) rfl rfl rfl ?_
  refine Cw.seq ?_
  refine Cw.region ?_
  refine Lw.boxV (cs := [a.x, a.y]) rfl rfl rfl ?_
  rintro A_a w eA_a b_a hn -
  replace hB := hB.bs hn
  replace h_a := h_a.bs hn
  clear hn
  have z0 := below_size hB
  refine Lw.newA it_133 rfl ?_
  rintro A_r w eA_r b_r hn -
  replace hB := hB.bs hn
  replace h_a := h_a.bs hn
  replace b_a := b_a.bs hn
  clear hn
  refine Lw.nil ?_
  refine Pw.thenN (Cw.out ?_)
  refine Cw.seq ?_
  have z := below_size hB
  have zr := blk_lt b_r
  have h_1 := h_a.1
  refine Cw.tail 11 mixed (by kernel_rfl) ?_
  refine Qw.val (fun w1 hq => Ex.fieldAddr (q := 0) Tryz.underlying29 rfl (sz_27 _) rfl) rfl ?_
  refine Qw.val (fun w1 hq => Ex.ldB (ag_27 _) rfl (Blk.bs (by assumption) hq) rfl) rfl ?_
  refine Qw.val (fun w1 hq => Ex.fieldAddr (q := 0) Tryz.underlying29 rfl (sz_26 _) rfl) rfl ?_
  refine Qw.val (fun w1 hq => Ex.ldB (ag_26 _) rfl (Blk.bs (by assumption) hq) rfl) rfl ?_
  refine Qw.val (fun w1 hq => Ex.idxT st_26 rfl rfl (Sl.bs (by assumption) hq) 1 rfl (by omega)) rfl ?_
  refine Qw.val (fun w1 hq => Ex.ldT (ag_3 _) rfl (Sl.bs (by assumption) hq) (by omega)) rfl ?_
  refine Qw.val (fun w1 hq => Ex.fieldAddr (q := 0) Tryz.underlying29 rfl (sz_26 _) rfl) rfl ?_
  refine Qw.val (fun w1 hq => Ex.ldB (ag_26 _) rfl (Blk.bs (by assumption) hq) rfl) rfl ?_
  refine Qw.val (fun w1 hq => Ex.idxT st_26 rfl rfl (Sl.bs (by assumption) hq) 2 rfl (by omega)) rfl ?_
  refine Qw.val (fun w1 hq => Ex.ldT (ag_3 _) rfl (Sl.bs (by assumption) hq) (by omega)) rfl ?_
  refine Qw.val (fun w1 hq => Ex.build (vs := [(0, a.y), (1, .int .i64 (a.s.getD 1 default)), (2, .int .i64 (a.s.getD 2 default))]) (cs := [a.y, .int .i64 (a.s.getD 1 default), .int .i64 (a.s.getD 2 default)]) rfl (bt_pic _ _ _ h_a.2.one)) rfl ?_
  refine Qw.done (fun w2 hq => ?_)
  replace hB := hB.bs hq
  replace h_a := h_a.bs hq
  replace b_a := b_a.bs hq
  replace b_r := b_r.bs hq
  refine Lw.unit (Xu.stA (cs := [a.y, .int .i64 (a.s.getD 1 default), .int .i64 (a.s.getD 2 default)]) rfl rfl rfl rfl (by simp [h_a.2.one']; exact ⟨rfl, rfl⟩) b_r rfl) ?_
  rintro w3 ⟨b_r, hg, -⟩
  have hB := hB.grown hg (below_size hB) (by rintro _ ⟨⟩; omega)
  refine Lw.nil ?_
  refine Pw.thenN (Cw.out ?_)
  refine Cw.ret ?_
  refine Pw.retC rfl rfl (by assumption) (Tryz.underlying133) rfl rfl rfl ?_
  exact ⟨rfl, hB⟩
theorem wat_c (a : T4) (c y x : Int) (W : World) (h_y : SlT i32 W a.y a.l) (h1 : 0 ≤ a.s.getD 1 default ∧ a.s.getD 1 default ≤ 64) (h2 : 0 ≤ a.s.getD 2 default ∧ a.s.getD 2 default ≤ 64) (hc : 0 ≤ c ∧ c ≤ 4096)
    (hy : -1000000 ≤ y ∧ y ≤ 1000000) (hx : -1000000 ≤ x ∧ x ≤ 1000000) (hl : (c + 1) * (a.s.getD 1 default * a.s.getD 2 default) ≤ a.l.length) :
    Fnc Tryz.prog 110 [picV a, .int .i64 c, .int .i64 y, .int .i64 x] W (fun r w' => r = i32 (pic a.l (a.s.getD 1 default) (a.s.getD 2 default) c y x) ∧ Below W.heap.size W w') := by
  have hB := Below.refl W.heap.size W
  obtain ⟨H, hH⟩ : ∃ H, H = a.s.getD 1 default := ⟨_, rfl⟩
  obtain ⟨V, hV⟩ : ∃ V, V = a.s.getD 2 default := ⟨_, rfl⟩
  unfold picV
  rw [← hH] at h1 hl ⊢
  rw [← hV] at h2 hl ⊢
  refine Fnc.enter (n := 42) Tryz.func110 (by kernel_rfl) rfl rfl rfl ?_
  refine Cw.seq ?_
  refine Cw.region ?_
  refine Lw.boxV (cs := [a.y, .int .i64 H, .int .i64 V]) rfl rfl rfl ?_
  rintro A_p w eA_p b_p hn -
  replace hB := hB.bs hn
  replace h_y := h_y.bs hn
  clear hn
  refine Lw.val (Ex.assign (show _ = some (i32 (0#32)) from rfl)) rfl ?_
  refine Lw.nil ?_
  refine Pw.thenN (Cw.out ?_)
  refine Cw.seq ?_
  refine Cw.seq ?_
  refine Cw.region ?_
  refine Lw.val (Ex.move rfl) rfl ?_
  refine Lw.val (Ex.lss rfl rfl) rfl ?_
  refine Lw.val (Ex.move rfl) rfl ?_
  refine Lw.part 11 rfl ?_ ?_
  · intro g
    have g := of_decide_eq_true g
    refine Lw.pass (dj := 11) rfl rfl rfl rfl ?_
    refine Lw.pass (dj := 11) rfl rfl rfl rfl ?_
    refine Lw.pass (dj := 11) rfl rfl rfl rfl ?_
    refine Lw.pass (dj := 11) rfl rfl rfl rfl ?_
    refine Lw.val (Ex.pickT rfl rfl) rfl ?_
    refine Lw.val (Ex.move rfl) rfl ?_
    refine Lw.pass (dj := 17) rfl rfl rfl rfl ?_
    refine Lw.pass (dj := 17) rfl rfl rfl rfl ?_
    refine Lw.val (Ex.pickT rfl rfl) rfl ?_
    refine Lw.val (Ex.move rfl) rfl ?_
    refine Lw.pass (dj := 21) rfl rfl rfl rfl ?_
    refine Lw.pass (dj := 21) rfl rfl rfl rfl ?_
    refine Lw.pass (dj := 21) rfl rfl rfl rfl ?_
    refine Lw.pass (dj := 21) rfl rfl rfl rfl ?_
    refine Lw.val (Ex.pickT rfl rfl) rfl ?_
    refine Lw.nil ?_
    refine Pw.thenN (Cw.out ?_)
    refine Cw.condT rfl ?_
    refine Cw.seq ?_
    refine Cw.region ?_
    refine Lw.val (Ex.assign (show _ = some (i32 (0#32)) from rfl)) rfl ?_
    refine Lw.nil ?_
    refine Pw.thenN (Cw.out ?_)
    refine Cw.ret ?_
    refine Pw.thenR ?_
    refine Pw.ret1 rfl rfl ?_
    exact ⟨congrArg i32 (by rw [pic, if_pos (by omega)]), hB⟩
  intro g1
  have g1 := of_decide_eq_false g1
  refine Lw.take (dj := 11) rfl rfl ?_
  refine Lw.val (Ex.move rfl) rfl ?_
  refine Lw.take (dj := 11) rfl rfl ?_
  refine Lw.val (Ex.fieldAddr (q := 0) Tryz.underlying133 rfl (sz_3 _) rfl) rfl ?_
  refine Lw.take (dj := 11) rfl rfl ?_
  refine Lw.val (Ex.ldB (ag_3 _) rfl (by assumption) rfl) rfl ?_
  refine Lw.take (dj := 11) rfl rfl ?_
  refine Lw.val (Ex.geq rfl rfl) rfl ?_
  refine Lw.val (Ex.pickF rfl rfl) rfl ?_
  refine Lw.val (Ex.move rfl) rfl ?_
  refine Lw.part 17 rfl ?_ ?_
  · intro g
    have g := of_decide_eq_true g
    refine Lw.pass (dj := 17) rfl rfl rfl rfl ?_
    refine Lw.pass (dj := 17) rfl rfl rfl rfl ?_
    refine Lw.val (Ex.pickT rfl rfl) rfl ?_
    refine Lw.val (Ex.move rfl) rfl ?_
    refine Lw.pass (dj := 21) rfl rfl rfl rfl ?_
    refine Lw.pass (dj := 21) rfl rfl rfl rfl ?_
    refine Lw.pass (dj := 21) rfl rfl rfl rfl ?_
    refine Lw.pass (dj := 21) rfl rfl rfl rfl ?_
    refine Lw.val (Ex.pickT rfl rfl) rfl ?_
    refine Lw.nil ?_
    refine Pw.thenN (Cw.out ?_)
    refine Cw.condT rfl ?_
    refine Cw.seq ?_
    refine Cw.region ?_
    refine Lw.val (Ex.assign (show _ = some (i32 (0#32)) from rfl)) rfl ?_
    refine Lw.nil ?_
    refine Pw.thenN (Cw.out ?_)
    refine Cw.ret ?_
    refine Pw.thenR ?_
    refine Pw.ret1 rfl rfl ?_
    exact ⟨congrArg i32 (by rw [pic, if_pos (by omega)]), hB⟩
  intro g2
  have g2 := of_decide_eq_false g2
  refine Lw.take (dj := 17) rfl rfl ?_
  refine Lw.val (Ex.move rfl) rfl ?_
  refine Lw.take (dj := 17) rfl rfl ?_
  refine Lw.val (Ex.lss rfl rfl) rfl ?_
  refine Lw.val (Ex.pickF rfl rfl) rfl ?_
  refine Lw.val (Ex.move rfl) rfl ?_
  refine Lw.part 21 rfl ?_ ?_
  · intro g
    have g := of_decide_eq_true g
    refine Lw.pass (dj := 21) rfl rfl rfl rfl ?_
    refine Lw.pass (dj := 21) rfl rfl rfl rfl ?_
    refine Lw.pass (dj := 21) rfl rfl rfl rfl ?_
    refine Lw.pass (dj := 21) rfl rfl rfl rfl ?_
    refine Lw.val (Ex.pickT rfl rfl) rfl ?_
    refine Lw.nil ?_
    refine Pw.thenN (Cw.out ?_)
    refine Cw.condT rfl ?_
    refine Cw.seq ?_
    refine Cw.region ?_
    refine Lw.val (Ex.assign (show _ = some (i32 (0#32)) from rfl)) rfl ?_
    refine Lw.nil ?_
    refine Pw.thenN (Cw.out ?_)
    refine Cw.ret ?_
    refine Pw.thenR ?_
    refine Pw.ret1 rfl rfl ?_
    exact ⟨congrArg i32 (by rw [pic, if_pos (by omega)]), hB⟩
  intro g3
  have g3 := of_decide_eq_false g3
  refine Lw.take (dj := 21) rfl rfl ?_
  refine Lw.val (Ex.move rfl) rfl ?_
  refine Lw.take (dj := 21) rfl rfl ?_
  refine Lw.val (Ex.fieldAddr (q := 0) Tryz.underlying133 rfl (sz_3 _) rfl) rfl ?_
  refine Lw.take (dj := 21) rfl rfl ?_
  refine Lw.val (Ex.ldB (ag_3 _) rfl (by assumption) rfl) rfl ?_
  refine Lw.take (dj := 21) rfl rfl ?_
  refine Lw.val (Ex.geq rfl rfl) rfl ?_
  refine Lw.val (Ex.pickF rfl rfl) rfl ?_
  refine Lw.nil ?_
  refine Pw.thenN (Cw.out ?_)
  refine Cw.cond rfl ?_ ?_
  · intro g
    have g := of_decide_eq_true g
    refine Cw.seq ?_
    refine Cw.region ?_
    refine Lw.val (Ex.assign (show _ = some (i32 (0#32)) from rfl)) rfl ?_
    refine Lw.nil ?_
    refine Pw.thenN (Cw.out ?_)
    refine Cw.ret ?_
    refine Pw.thenR ?_
    refine Pw.ret1 rfl rfl ?_
    exact ⟨congrArg i32 (by rw [pic, if_pos (by omega)]), hB⟩
  intro g4
  have g4 := of_decide_eq_false g4
  have e1 : 0 ≤ c * H ∧ c * H ≤ 4096 * 64 := ⟨Int.mul_nonneg hc.1 h1.1, Int.mul_le_mul hc.2 h1.2 h1.1 (by decide)⟩
  have e2 : 0 ≤ (c * H + y) * V := Int.mul_nonneg (by omega) h2.1
  have e3 : (c * H + y + 1) * V ≤ (c * H + H) * V := Int.mul_le_mul_of_nonneg_right (by omega) h2.1
  have e4 : (c + 1) * (H * V) = (c * H + H) * V := by rw [← Int.mul_assoc, Int.add_mul c 1 H, Int.one_mul]
  have e5 : (c * H + y + 1) * V = (c * H + y) * V + V := by rw [Int.add_mul (c * H + y) 1 V, Int.one_mul]
  have ll := h_y.le
  obtain ⟨k, hk⟩ : ∃ k : Nat, (c * H + y) * V + x = (k : Int) := ⟨_, (Int.toNat_of_nonneg (by omega)).symm⟩
  have hkl : k < a.l.length := by omega
  refine Cw.skip ?_
  refine Pw.thenN (Cw.out ?_)
  refine Cw.seq ?_
  refine Cw.region ?_
  refine Lw.val (Ex.fieldAddr (q := 0) Tryz.underlying133 rfl (sz_27 _) rfl) rfl ?_
  refine Lw.val (Ex.ldB (ag_27 _) rfl (by assumption) rfl) rfl ?_
  refine Lw.val (Ex.move rfl) rfl ?_
  refine Lw.val (Ex.fieldAddr (q := 0) Tryz.underlying133 rfl (sz_3 _) rfl) rfl ?_
  refine Lw.val (Ex.ldB (ag_3 _) rfl (by assumption) rfl) rfl ?_
  refine Lw.val (Ex.mulI rfl rfl (by omega)) rfl ?_
  refine Lw.val (Ex.move rfl) rfl ?_
  refine Lw.val (Ex.addI rfl rfl (by omega)) rfl ?_
  refine Lw.val (Ex.fieldAddr (q := 0) Tryz.underlying133 rfl (sz_3 _) rfl) rfl ?_
  refine Lw.val (Ex.ldB (ag_3 _) rfl (by assumption) rfl) rfl ?_
  refine Lw.val (Ex.mulI rfl rfl (by omega)) rfl ?_
  refine Lw.val (Ex.move rfl) rfl ?_
  refine Lw.val (Ex.addI rfl rfl (by omega)) rfl ?_
  refine Lw.val (Ex.idxT st_27 rfl rfl h_y k hk hkl) rfl ?_
  refine Lw.val (Ex.ldT (ag_21 _) rfl (by assumption) (by omega)) rfl ?_
  refine Lw.val (Ex.assign rfl) rfl ?_
  refine Lw.nil ?_
  refine Pw.thenN (Cw.out ?_)
  refine Cw.ret ?_
  refine Pw.ret1 rfl rfl ?_
  exact ⟨congrArg i32 (by rw [pic, if_neg (by omega), hk]; rfl), hB⟩

theorem spots_c (u : Value) (s : List Int) (W : World) (h_u : SlT (Value.int .i64) W u s) :
    Fnc Tryz.prog 111 [u] W (fun r w' => ∃ A, r = .func (.func 127) #[] #[.pointer (some ⟨A, 0, none⟩)] ∧ Blk w' A 26 [u] ∧ A = W.heap.size ∧ Below W.heap.size W w') := by
  have hB := Below.refl W.heap.size W
  have hu1 := h_u.one
  refine Fnc.enter (n := 4) Tryz.func111 (by kernel_rfl) rfl rfl rfl ?_
  refine Cw.seq ?_
  refine Cw.region ?_
  refine Lw.boxV (cs := [u]) rfl hu1 rfl ?_
  rintro A w eA b_A hn -
  replace hB := hB.bs hn
  clear hn
  refine Lw.val (Ex.assign rfl) rfl ?_
  refine Lw.nil ?_
  refine Pw.thenN (Cw.out ?_)
  refine Cw.seq ?_
  refine Cw.region ?_
  refine Lw.val (Ex.mkFn (vs := []) (us := [.pointer (some ⟨A, 0, none⟩)]) rfl rfl) rfl ?_
  refine Lw.val (Ex.assign rfl) rfl ?_
  refine Lw.nil ?_
  refine Pw.thenN (Cw.out ?_)
  refine Cw.ret ?_
  refine Pw.ret1 rfl rfl ?_
  exact ⟨A, rfl, b_A, eA, hB⟩

theorem spots_sq (A : Nat) (u : Value) (s : List Int) (w : World) (b_A : Blk w A 26 [u]) (h_u : SlT (Value.int .i64) w u s) (hok : Shapes.ok s = true) (hl : s.length = 3) :
    Sq Tryz.prog 127 [] [.pointer (some ⟨A, 0, none⟩)] (fun i : Nat => [spotV s i]) (fun b => b = A ∨ u.ownBlock = some b) none (List.range (Shapes.size s).toNat) w := by
  intro lp J W hW hJ hY h0
  show Fnc Tryz.prog 127 [.func (.yield lp) #[] #[], .pointer (some ⟨A, 0, none⟩)] W (fun _ A' => J (List.range (Shapes.size s).toNat) A')
  have b_A := b_A.bs hW
  have h_u := h_u.bs hW
  clear hW
  have sz := Shapes.size_le s
  have hS := (Shapes.ok_iff s).1 hok
  have s1 := good_at hS.2.1 (k := 1) (by omega)
  have s2 := good_at hS.2.1 (k := 2) (by omega)
  have q1 : 1 * 1 ≤ s.getD 1 default * s.getD 2 default := Int.mul_le_mul s1.1 s2.1 (by decide) (by omega)
  have q2 : s.getD 1 default * s.getD 2 default ≤ 64 * 64 := Int.mul_le_mul s1.2 s2.2 (by omega) (by decide)
  refine Fnc.enterG (n := 37) Tryz.func127 (by kernel_rfl) rfl rfl rfl ?_
  refine Cg.seq ?_
  refine Cg.region (by kernel_rfl) ?_
  refine Lw.val (Ex.ldB (ag_26 _) rfl (by assumption) rfl) rfl ?_
  refine Lw.callF rfl rfl (size_c u s W h_u) ?_
  rintro _ w1 ⟨rfl, hn⟩
  have h0 := hJ _ _ _ h0 ⟨none, below_grown hn none, .inl rfl⟩
  have b_A := b_A.bs hn
  have h_u := h_u.bs hn
  refine Lw.know 5 (v' := .int .i64 (((Shapes.size s).toNat : Nat) : Int)) rfl (congrArg (Value.int .i64) (by omega)) ?_
  refine Lw.val (Ex.move rfl) rfl ?_
  refine Lw.nil (Pg.low ?_)
  refine Pg.thenN (Cg.out ?_)
  refine Cg.block ?_
  refine Cg.loop (S := Nat) (fun i => [(0, .func (.yield lp) #[] #[]), (1, .pointer (some ⟨A, 0, none⟩)), (5, .int .i64 (((Shapes.size s).toNat : Nat) : Int)), (6, .int .i64 (i : Int))]) (fun i w' => i ≤ (Shapes.size s).toNat ∧ J (List.range i) w' ∧ Blk w' A 26 [u] ∧ SlT (Value.int .i64) w' u s) (fun i => (Shapes.size s).toNat - i) (0) ⟨rfl, rfl, rfl, rfl, trivial⟩ ?_ ?_
  · exact ⟨Nat.zero_le _, h0, b_A, h_u⟩
  clear h0 b_A h_u hn
  rintro i w ⟨hi, h0, b_A, h_u⟩
  refine Cg.seq ?_
  refine Cg.region (by kernel_rfl) ?_
  refine Lw.val (Ex.lss rfl rfl) rfl ?_
  refine Lw.nil (Pg.low ?_)
  refine Pg.thenN (Cg.out ?_)
  refine Cg.seq ?_
  refine Cg.cond rfl ?_ ?_
  · intro h
    have hi' : i < (Shapes.size s).toNat := by have := of_decide_eq_true h; omega
    have d1 := Int.ediv_nonneg (show 0 ≤ (i : Int) by omega) (show 0 ≤ s.getD 2 default by omega)
    refine Cg.skip ?_
    refine Pg.thenN (Cg.out ?_)
    refine Cg.seq ?_
    refine Cg.block ?_
    refine Cg.seq ?_
    refine Cg.region (by kernel_rfl) ?_
    refine Lw.val (Ex.move rfl) rfl ?_
    refine Lw.val (Ex.assign rfl) rfl ?_
    refine Lw.nil (Pg.low ?_)
    refine Pg.thenN (Cg.out ?_)
    refine Cg.seq ?_
    refine Cg.tailY 25 mixed (by kernel_rfl) (by kernel_rfl) ?_
    refine Qw.val (fun w1 hq => Ex.move rfl) rfl ?_
    refine Qw.val (fun w1 hq => Ex.move rfl) rfl ?_
    refine Qw.val (fun w1 hq => Ex.ldB (ag_26 _) rfl (Blk.bs (by assumption) hq) rfl) rfl ?_
    refine Qw.val (fun w1 hq => Ex.idxT st_26 rfl rfl (Sl.bs (by assumption) hq) 1 rfl (by omega)) rfl ?_
    refine Qw.val (fun w1 hq => Ex.ldT (ag_3 _) rfl (Sl.bs (by assumption) hq) (by omega)) rfl ?_
    refine Qw.val (fun w1 hq => Ex.ldB (ag_26 _) rfl (Blk.bs (by assumption) hq) rfl) rfl ?_
    refine Qw.val (fun w1 hq => Ex.idxT st_26 rfl rfl (Sl.bs (by assumption) hq) 2 rfl (by omega)) rfl ?_
    refine Qw.val (fun w1 hq => Ex.ldT (ag_3 _) rfl (Sl.bs (by assumption) hq) (by omega)) rfl ?_
    refine Qw.val (fun w1 hq => Ex.mulI rfl rfl (by omega)) rfl ?_
    refine Qw.val (fun w1 hq => Ex.quoI rfl rfl (by omega) (by omega)) rfl ?_
    refine Qw.val (fun w1 hq => Ex.move rfl) rfl ?_
    refine Qw.val (fun w1 hq => Ex.ldB (ag_26 _) rfl (Blk.bs (by assumption) hq) rfl) rfl ?_
    refine Qw.val (fun w1 hq => Ex.idxT st_26 rfl rfl (Sl.bs (by assumption) hq) 2 rfl (by omega)) rfl ?_
    refine Qw.val (fun w1 hq => Ex.ldT (ag_3 _) rfl (Sl.bs (by assumption) hq) (by omega)) rfl ?_
    refine Qw.val (fun w1 hq => Ex.quoI rfl rfl (by omega) (by omega)) rfl ?_
    refine Qw.val (fun w1 hq => Ex.ldB (ag_26 _) rfl (Blk.bs (by assumption) hq) rfl) rfl ?_
    refine Qw.val (fun w1 hq => Ex.idxT st_26 rfl rfl (Sl.bs (by assumption) hq) 1 rfl (by omega)) rfl ?_
    refine Qw.val (fun w1 hq => Ex.ldT (ag_3 _) rfl (Sl.bs (by assumption) hq) (by omega)) rfl ?_
    refine Qw.val (fun w1 hq => Ex.remI rfl rfl (by omega) (by omega)) rfl ?_
    refine Qw.val (fun w1 hq => Ex.move rfl) rfl ?_
    refine Qw.val (fun w1 hq => Ex.ldB (ag_26 _) rfl (Blk.bs (by assumption) hq) rfl) rfl ?_
    refine Qw.val (fun w1 hq => Ex.idxT st_26 rfl rfl (Sl.bs (by assumption) hq) 2 rfl (by omega)) rfl ?_
    refine Qw.val (fun w1 hq => Ex.ldT (ag_3 _) rfl (Sl.bs (by assumption) hq) (by omega)) rfl ?_
    refine Qw.val (fun w1 hq => Ex.remI rfl rfl (by omega) (by omega)) rfl ?_
    refine Qw.val (fun w1 hq => Ex.build (vs := [(0, .int .i64 (spc s i)), (1, .int .i64 (spy s i)), (2, .int .i64 (spx s i))]) (cs := [.int .i64 (spc s i), .int .i64 (spy s i), .int .i64 (spx s i)]) rfl (bt_spot _ _ _)) rfl ?_
    refine Qw.doneY (fun w2 hq => ?_)
    have h2 := hJ _ _ _ h0 ⟨none, below_grown hq none, .inl rfl⟩
    have b_A := b_A.bs hq
    have h_u := h_u.bs hq
    have hpre := pre_range hi'
    refine Lg.yield rfl rfl rfl (hY (List.range i) i w2 h2 hpre) ?_
    rintro _ w3 ⟨rfl, h3, hB⟩
    have b_A := b_A.keep (hB.2 A (.inl rfl) (blk_lt b_A))
    have h_u : SlT (Value.int .i64) w3 u s := Sl.stay h_u fun k e hne => hB.2 k (.inr e) (Sl.blk h_u hne k e)
    refine Lg.plain 1 (by kernel_rfl) ?_
    refine Lw.val (Ex.not rfl) rfl ?_
    refine Lw.nil (Pg.low (Lg.out (Lg.nil ?_)))
    refine Pg.thenN (Cg.out ?_)
    refine Cg.condB rfl false (rfl) ?_
    refine Cg.skip ?_
    refine Pg.blkN ?_
    refine Pg.thenN (Cg.out ?_)
    refine Cg.region (by kernel_rfl) ?_
    refine Lw.val (Ex.addI rfl rfl (by omega)) rfl ?_
    refine Lw.val (Ex.move rfl) rfl ?_
    refine Lw.nil (Pg.low ?_)
    exact Pg.thenN (Pg.next (i + 1) ⟨rfl, rfl, rfl, rfl, trivial⟩ (⟨hi', by rw [List.range_succ]; exact h3, b_A, h_u⟩) (by omega))
  intro h
  have hi' : i = (Shapes.size s).toNat := by have := of_decide_eq_false h; omega
  subst hi'
  refine Cg.exit ?_
  refine Pg.thenE ?_
  refine Pg.thenE ?_
  refine Pg.blkHit ?_
  refine Pg.closeE ?_
  refine Pw.end0 rfl ?_
  exact h0
end Go.Proofs.YtmipoeanpnnjoaaGreat
