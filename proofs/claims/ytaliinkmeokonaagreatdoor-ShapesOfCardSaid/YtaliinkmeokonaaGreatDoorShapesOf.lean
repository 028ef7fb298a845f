/- Shapes as the document has them: for any numbers, any places; no condition. -/
import Derived.Test.YtaliinkmeokonaaGreatDoorBookInts
import Derived.Test.YtaliinkmeokonaaGreatDoorRefShape
import Derived.Test.YtaliinkmeokonaaGreatDoorOpen
import Derived.Test.YtaliinkmeokonaaGreatDoorCards
import Derived.Test.YtaliinkmeokonaaGreatDoorTie
import Derived.SevenTiedAt
import Derived.LaidLaws
import Derived.LaidHandle
import Derived.JoinedOf
namespace Go.Proofs.YtaliinkmeokonaaGreatDoor
open Go Go.Dd Go.RowKit Go.ChangeShapes Go.WideShapes Go.ChangeAt
set_option maxRecDepth 100000

theorem own : ownKnob Tryz.prog.godebug = none := by kernel_rfl
theorem laidOut : laidOutB Tryz.prog = true := by kernel_rfl
def bey (n : Int) : List Int → Bool
  | [] => false
  | x :: l => if 1048576 < n + x then true else bey (n + x) l
theorem bey_no : ∀ {l : List Int} {n : Int}, 0 ≤ n → (∀ x ∈ l, 0 ≤ x) → bey n l = false → ∀ x ∈ l, x ≤ 1048576
  | [], _, _, _, _ => by simp
  | x :: l, n, h0, hx, h => by
    have h1 := hx x (by simp)
    simp only [bey] at h
    split at h
    · cases h
    · intro y hy
      rcases List.mem_cons.1 hy with rfl | hy
      · omega
      · exact bey_no (by omega) (fun z hz => hx z (by simp [hz])) h y hy
theorem bey_drop {l : List Int} {i : Nat} {n : Int} (h : i < l.length) : bey n (l.drop i) = (if 1048576 < n + l.getD i default then true else bey (n + l.getD i default) (l.drop (i + 1))) := by
  rw [List.drop_eq_getElem_cons h]; simp [bey, h]
theorem beyond_c (u : Value) (l : List Int) (w : World) (hu : SlT (Value.int .i64) w u l) (hb : ∀ x ∈ l, 0 ≤ x ∧ x ≤ 4503599627370496) : Fnc Tryz.prog 4 [u] w (fun r w' => r = .bool (bey 0 l) ∧ Below w.heap.size w w') := by
  have hle := hu.le
  refine Fnc.enter (n := 19) Tryz.func4 (by kernel_rfl) rfl rfl rfl ?_
  refine Cw.seq ?_
  refine Cw.region ?_
  refine Lw.val (Ex.assign rfl) rfl ?_
  refine Lw.nil ?_
  refine Pw.thenN (Cw.out ?_)
  refine Cw.seq ?_
  refine Cw.region ?_
  refine Lw.val (Ex.assign rfl) rfl ?_
  refine Lw.nil ?_
  refine Pw.thenN (Cw.out ?_)
  refine Cw.seq ?_
  refine Cw.seq ?_
  refine Cw.region ?_
  refine Lw.val (Ex.assign rfl) rfl ?_
  refine Lw.nil ?_
  refine Pw.thenN (Cw.out ?_)
  refine Cw.block ?_
  refine Cw.loop (S := (Nat × Int)) (fun s => [(0, u), (3, .int .i64 s.2), (4, .int .i64 (s.1 : Int))]) (fun s w' => s.1 ≤ l.length ∧ (0 ≤ s.2 ∧ s.2 ≤ 1048576) ∧ bey s.2 (l.drop s.1) = bey 0 l ∧ w' = w) (fun s => l.length - s.1) ((0, 0)) ⟨rfl, rfl, rfl, trivial⟩ ?_ ?_
  · exact ⟨by simp, by simp, by simp, rfl⟩
  rintro ⟨i, n⟩ w1 ⟨hi, hn, ht, rfl⟩
  dsimp only at hi hn ht ⊢
  refine Cw.seq ?_
  refine Cw.seq ?_
  refine Cw.region ?_
  refine Lw.val (Ex.move rfl) rfl ?_
  refine Lw.val (Ex.move rfl) rfl ?_
  refine Lw.val (Ex.lenS st_22 rfl (by assumption)) rfl ?_
  refine Lw.val (Ex.lss rfl rfl) rfl ?_
  refine Lw.nil ?_
  refine Pw.thenN (Cw.out ?_)
  refine Cw.cond rfl ?_ ?_
  · intro h
    have hi' : i < l.length := by simp at h; omega
    have hx : 0 ≤ l.getD i default ∧ l.getD i default ≤ 4503599627370496 := by
      have := hb l[i] (List.getElem_mem hi')
      simpa [hi'] using this
    rw [bey_drop hi'] at ht
    refine Cw.skip ?_
    refine Pw.thenN (Cw.out ?_)
    refine Cw.seq ?_
    refine Cw.block ?_
    refine Cw.seq ?_
    refine Cw.region ?_
    refine Lw.val (Ex.move rfl) rfl ?_
    refine Lw.val (Ex.move rfl) rfl ?_
    refine Lw.val (Ex.move rfl) rfl ?_
    refine Lw.val (Ex.idxT st_22 rfl rfl (by assumption) _ rfl (by omega)) rfl ?_
    refine Lw.val (Ex.ldT (ag_3 _) rfl (by assumption) (by omega)) rfl ?_
    refine Lw.val (Ex.addI rfl rfl (by omega)) rfl ?_
    refine Lw.val (Ex.assign rfl) rfl ?_
    refine Lw.nil ?_
    refine Pw.thenN (Cw.out ?_)
    refine Cw.seq ?_
    refine Cw.region ?_
    refine Lw.val (Ex.move rfl) rfl ?_
    refine Lw.val (Ex.gtr rfl rfl) rfl ?_
    refine Lw.nil ?_
    refine Pw.thenN (Cw.out ?_)
    refine Cw.cond rfl ?_ ?_
    · intro g
      have g' := of_decide_eq_true g
      refine Cw.seq ?_
      refine Cw.region ?_
      refine Lw.val (Ex.assign rfl) rfl ?_
      refine Lw.nil ?_
      refine Pw.thenN (Cw.out ?_)
      refine Cw.ret ?_
      refine Pw.blkR ?_
      refine Pw.thenR ?_
      refine Pw.thenR ?_
      refine Pw.blkR ?_
      refine Pw.thenR ?_
      refine Pw.ret1 rfl rfl ?_
      exact ⟨by rw [← ht, if_pos g'], Below.refl _ _⟩
    · intro g
      have g' := of_decide_eq_false g
      rw [if_neg g'] at ht
      refine Cw.skip ?_
      refine Pw.blkN ?_
      refine Pw.thenN (Cw.out ?_)
      refine Cw.region ?_
      refine Lw.val (Ex.move rfl) rfl ?_
      refine Lw.val (Ex.addI rfl rfl (by omega)) rfl ?_
      refine Lw.val (Ex.assign rfl) rfl ?_
      refine Lw.nil ?_
      exact Pw.thenN (Pw.next ((i + 1, n + l.getD i default)) ⟨rfl, rfl, rfl, trivial⟩ (⟨hi', ⟨by simp only; omega, by simp only; omega⟩, ht, rfl⟩) (by simp only; omega))
  · intro h
    have hi' : i = l.length := by simp at h; omega
    subst hi'
    refine Cw.exit ?_
    refine Pw.thenE ?_
    refine Pw.thenE ?_
    refine Pw.blkHit ?_
    refine Pw.thenN (Cw.out ?_)
    refine Cw.seq ?_
    refine Cw.region ?_
    refine Lw.val (Ex.assign rfl) rfl ?_
    refine Lw.nil ?_
    refine Pw.thenN (Cw.out ?_)
    refine Cw.ret ?_
    refine Pw.ret1 rfl rfl ?_
    exact ⟨by rw [← ht, List.drop_length]; rfl, Below.refl _ _⟩

/-- An answer of At: a list in memory of its own. -/
theorem Fresh.held {W w : World} {x : Value} {l : List Int} (h : Fresh W w x l) : HeldI w W.heap.size w.heap.size x l := by
  obtain ⟨b, hb, ho, _⟩ := h
  exact HeldI.row (.inl (own_mono ho hb)) (Nat.le_refl _)
theorem at_g (s : List Int) (u : Value) (i : Int) (W : World) (hu : SlT (Value.int .i64) W u s) :
    Fnc Tryz.prog 8 [u, .int .i64 i] W (fun r w' => Below W.heap.size W w' ∧ ∃ x, r = .tuple #[x, .int .i64 (Shapes.ate s i)] ∧ HeldI w' W.heap.size w'.heap.size x (Shapes.atl s i)) :=
  (at_c s u i W hu).mono fun _ _ ⟨x, h1, h2, h3⟩ => ⟨h3, x, h1, h2.held⟩
theorem atl_len (s : List Int) (i : Int) : (Shapes.atl s i).length ≤ s.length := by
  unfold Shapes.atl
  split
  · rw [Shapes.place_length]; omega
  · simp

theorem shapesOf_w (s0 s1 : Value) (l0 l1 : List Int) (n : Int) (W : World) (x_0 : SlT (Value.int .i64) W s0 l0) (x_1 : SlT (Value.int .i64) W s1 l1) (b5 : l0.length ≤ 1125899906842624) (b6 : l1.length ≤ 1125899906842624) :
    Fnc Tryz.prog 3 [s0, s1, .int .i64 n] W (fun r w' => r = .bool true ∧ Below W.heap.size W w') := by
  have hB := Below.refl W.heap.size W
  refine Fnc.enter (n := 121) Tryz.func3 (by kernel_rfl) rfl rfl rfl ?_
  refine Cw.seq ?_
  refine Cw.region ?_
  refine Lw.val (Ex.assign rfl) rfl ?_
  refine Lw.nil ?_
  refine Pw.thenN (Cw.out ?_)
  refine Cw.seq ?_
  refine Cw.seq ?_
  refine Cw.region ?_
  refine Lw.val (Ex.move rfl) rfl ?_
  refine Lw.val (Ex.lenS st_22 rfl (by assumption)) rfl ?_
  refine Lw.val (Ex.move rfl) rfl ?_
  refine Lw.val (Ex.lenS st_22 rfl (by assumption)) rfl ?_
  refine Lw.valW (Xw.lit (vs := [(l0.length : Int), (l1.length : Int)].map (Value.int .i64)) st_22 it_3 rfl rfl rfl rfl rfl) rfl ?_
  rintro u w ⟨ho, -, hn, -⟩
  replace hB := hB.bs hn
  replace x_0 := x_0.bs hn
  replace x_1 := x_1.bs hn
  clear hn
  refine Lw.callF rfl rfl (beyond_c u [(l0.length : Int), (l1.length : Int)] w (own_slT ho) (by intro x hx; simp at hx; rcases hx with rfl | rfl <;> omega)) ?_
  rintro _ w ⟨rfl, hn⟩
  replace hB := hB.bs hn
  replace x_0 := x_0.bs hn
  replace x_1 := x_1.bs hn
  clear hn
  refine Lw.nil ?_
  refine Pw.thenN (Cw.out ?_)
  clear ho
  refine Cw.cond rfl ?_ ?_
  · intro _
    refine Cw.seq ?_
    refine Cw.region ?_
    refine Lw.val (Ex.assign rfl) rfl ?_
    refine Lw.nil ?_
    refine Pw.thenN (Cw.out ?_)
    refine Cw.ret ?_
    refine Pw.thenR ?_
    refine Pw.ret1 rfl rfl ?_
    exact ⟨rfl, hB⟩
  intro g
  have g' : bey 0 [(l0.length : Int), (l1.length : Int)] = false := by simpa using g
  have hbey := bey_no (Int.le_refl 0) (by intro x hx; simp at hx; rcases hx with rfl | rfl <;> omega) g'
  have ll0 := hbey (l0.length : Int) (by simp)
  have ll1 := hbey (l1.length : Int) (by simp)
  clear g' hbey b5 b6
  have t0 := below_size hB
  refine Cw.skip ?_
  refine Pw.thenN (Cw.out ?_)
  refine Cw.seq ?_
  refine Cw.region ?_
  refine Lw.val (Ex.move rfl) rfl ?_
  refine Lw.callF rfl rfl (twnI_c s0 l0 _ x_0 (by omega)) ?_
  rintro p w ⟨hn, h_p⟩
  have zc_p := hn.size
  replace hB := hB.bs hn
  replace x_0 := x_0.bs hn
  replace x_1 := x_1.bs hn
  clear hn
  have hC_p := Below.refl w.heap.size w
  refine Lw.val (Ex.assign rfl) rfl ?_
  refine Lw.nil ?_
  refine Pw.thenN (Cw.out ?_)
  refine Cw.seq ?_
  refine Cw.region ?_
  refine Lw.val (Ex.move rfl) rfl ?_
  refine Lw.callF rfl rfl (twnI_c s1 l1 _ x_1 (by omega)) ?_
  rintro q w ⟨hn, h_q⟩
  have zc_q := hn.size
  replace hB := hB.bs hn
  replace x_0 := x_0.bs hn
  replace x_1 := x_1.bs hn
  replace h_p := h_p.bs hn
  replace hC_p := hC_p.bs hn
  clear hn
  have hC_q := Below.refl w.heap.size w
  refine Lw.val (Ex.assign rfl) rfl ?_
  refine Lw.nil ?_
  refine Pw.thenN (Cw.out ?_)
  refine Cw.seq ?_
  refine Cw.region ?_
  refine Lw.val (Ex.move rfl) rfl ?_
  refine Lw.val (Ex.move rfl) rfl ?_
  refine Lw.callF rfl rfl (index_c l0 l1 p q _ h_p.held.sl h_q.held.sl) ?_
  rintro _ w ⟨rfl, hn⟩
  replace hB := hB.bs hn
  replace x_0 := x_0.bs hn
  replace x_1 := x_1.bs hn
  replace h_p := h_p.bs hn
  replace hC_p := hC_p.bs hn
  replace h_q := h_q.bs hn
  replace hC_q := hC_q.bs hn
  clear hn
  refine Lw.val (Ex.move rfl) rfl ?_
  refine Lw.val (Ex.extract (i := 0) rfl rfl) rfl ?_
  refine Lw.val (Ex.extract (i := 1) rfl rfl) rfl ?_
  refine Lw.val (Ex.assign rfl) rfl ?_
  refine Lw.val (Ex.assign rfl) rfl ?_
  refine Lw.nil ?_
  refine Pw.thenN (Cw.out ?_)
  refine Cw.seq ?_
  refine Cw.region ?_
  refine Lw.val (Ex.move rfl) rfl ?_
  refine Lw.val (Ex.move rfl) rfl ?_
  refine Lw.callF rfl rfl (rindex_c l0 l1 s0 s1 _ x_0 x_1) ?_
  rintro _ w ⟨rfl, hn⟩
  replace hB := hB.bs hn
  replace x_0 := x_0.bs hn
  replace x_1 := x_1.bs hn
  replace h_p := h_p.bs hn
  replace hC_p := hC_p.bs hn
  replace h_q := h_q.bs hn
  replace hC_q := hC_q.bs hn
  clear hn
  refine Lw.val (Ex.move rfl) rfl ?_
  refine Lw.val (Ex.extract (i := 0) rfl rfl) rfl ?_
  refine Lw.val (Ex.extract (i := 1) rfl rfl) rfl ?_
  refine Lw.val (Ex.assign rfl) rfl ?_
  refine Lw.val (Ex.assign rfl) rfl ?_
  refine Lw.nil ?_
  refine Pw.thenN (Cw.out ?_)
  refine Cw.seq ?_
  refine Cw.region ?_
  refine Lw.val (Ex.move rfl) rfl ?_
  refine Lw.val (Ex.move rfl) rfl ?_
  have zb_x := below_size hC_q
  refine Lw.callF rfl rfl (at_g l0 p n _ h_p.held.sl) ?_
  rintro _ w ⟨hn, x, rfl, h_x⟩
  have zc_x := hn.size
  replace hB := hB.bs hn
  replace x_0 := x_0.bs hn
  replace x_1 := x_1.bs hn
  replace h_p := h_p.bs hn
  replace hC_p := hC_p.bs hn
  replace h_q := h_q.bs hn
  replace hC_q := hC_q.bs hn
  clear hn
  have hC_x := Below.refl w.heap.size w
  refine Lw.val (Ex.move rfl) rfl ?_
  refine Lw.val (Ex.extract (i := 0) rfl rfl) rfl ?_
  refine Lw.val (Ex.extract (i := 1) rfl rfl) rfl ?_
  refine Lw.val (Ex.assign rfl) rfl ?_
  refine Lw.val (Ex.assign rfl) rfl ?_
  refine Lw.nil ?_
  refine Pw.thenN (Cw.out ?_)
  refine Cw.seq ?_
  refine Cw.region ?_
  refine Lw.val (Ex.move rfl) rfl ?_
  refine Lw.val (Ex.move rfl) rfl ?_
  have zb_y := below_size hC_x
  refine Lw.callF rfl rfl (at_g l0 p n _ h_p.held.sl) ?_
  rintro _ w ⟨hn, y, rfl, h_y⟩
  have zc_y := hn.size
  replace hB := hB.bs hn
  replace x_0 := x_0.bs hn
  replace x_1 := x_1.bs hn
  replace h_p := h_p.bs hn
  replace hC_p := hC_p.bs hn
  replace h_q := h_q.bs hn
  replace hC_q := hC_q.bs hn
  replace h_x := h_x.bs hn
  replace hC_x := hC_x.bs hn
  clear hn
  have hC_y := Below.refl w.heap.size w
  refine Lw.val (Ex.move rfl) rfl ?_
  refine Lw.val (Ex.extract (i := 0) rfl rfl) rfl ?_
  refine Lw.val (Ex.extract (i := 1) rfl rfl) rfl ?_
  refine Lw.val (Ex.assign rfl) rfl ?_
  refine Lw.val (Ex.assign rfl) rfl ?_
  refine Lw.nil ?_
  refine Pw.thenN (Cw.out ?_)
  refine Cw.seq ?_
  refine Cw.region ?_
  refine Lw.val (Ex.move rfl) rfl ?_
  refine Lw.val (Ex.move rfl) rfl ?_
  refine Lw.callF rfl rfl (rat_c l0 s0 n _ x_0) ?_
  rintro _ w ⟨hn, v, rfl, x_v⟩
  replace hB := hB.bs hn
  replace x_0 := x_0.bs hn
  replace x_1 := x_1.bs hn
  replace h_p := h_p.bs hn
  replace hC_p := hC_p.bs hn
  replace h_q := h_q.bs hn
  replace hC_q := hC_q.bs hn
  replace h_x := h_x.bs hn
  replace hC_x := hC_x.bs hn
  replace h_y := h_y.bs hn
  replace hC_y := hC_y.bs hn
  clear hn
  refine Lw.val (Ex.move rfl) rfl ?_
  refine Lw.val (Ex.extract (i := 0) rfl rfl) rfl ?_
  refine Lw.val (Ex.extract (i := 1) rfl rfl) rfl ?_
  refine Lw.val (Ex.assign rfl) rfl ?_
  refine Lw.val (Ex.assign rfl) rfl ?_
  refine Lw.nil ?_
  refine Pw.thenN (Cw.out ?_)
  refine Cw.seq ?_
  refine Cw.seq ?_
  refine Cw.region ?_
  refine Lw.val (Ex.move rfl) rfl ?_
  refine Lw.callF rfl rfl (check_c p l0 _ h_p.held.sl) ?_
  rintro _ w ⟨rfl, hn⟩
  replace hB := hB.bs hn
  replace x_0 := x_0.bs hn
  replace x_1 := x_1.bs hn
  replace h_p := h_p.bs hn
  replace hC_p := hC_p.bs hn
  replace h_q := h_q.bs hn
  replace hC_q := hC_q.bs hn
  replace h_x := h_x.bs hn
  replace hC_x := hC_x.bs hn
  replace h_y := h_y.bs hn
  replace hC_y := hC_y.bs hn
  replace x_v := x_v.bs hn
  clear hn
  refine Lw.val (Ex.move rfl) rfl ?_
  refine Lw.callF rfl rfl (rcheck_c s0 l0 _ x_0) ?_
  rintro _ w ⟨rfl, hn⟩
  replace hB := hB.bs hn
  replace x_0 := x_0.bs hn
  replace x_1 := x_1.bs hn
  replace h_p := h_p.bs hn
  replace hC_p := hC_p.bs hn
  replace h_q := h_q.bs hn
  replace hC_q := hC_q.bs hn
  replace h_x := h_x.bs hn
  replace hC_x := hC_x.bs hn
  replace h_y := h_y.bs hn
  replace hC_y := hC_y.bs hn
  replace x_v := x_v.bs hn
  clear hn
  refine Lw.val (Ex.neqB un_4 rfl rfl) rfl ?_
  refine Lw.val (Ex.move rfl) rfl ?_
  refine Lw.know 65 (v' := .bool false) rfl (congrArg Value.bool (by simp)) ?_
  refine Lw.take (dj := 65) rfl rfl ?_
  refine Lw.val (Ex.move rfl) rfl ?_
  refine Lw.take (dj := 65) rfl rfl ?_
  refine Lw.callF rfl rfl (size_c p l0 _ h_p.held.sl) ?_
  rintro _ w ⟨rfl, hn⟩
  replace hB := hB.bs hn
  replace x_0 := x_0.bs hn
  replace x_1 := x_1.bs hn
  replace h_p := h_p.bs hn
  replace hC_p := hC_p.bs hn
  replace h_q := h_q.bs hn
  replace hC_q := hC_q.bs hn
  replace h_x := h_x.bs hn
  replace hC_x := hC_x.bs hn
  replace h_y := h_y.bs hn
  replace hC_y := hC_y.bs hn
  replace x_v := x_v.bs hn
  clear hn
  refine Lw.take (dj := 65) rfl rfl ?_
  refine Lw.val (Ex.move rfl) rfl ?_
  refine Lw.take (dj := 65) rfl rfl ?_
  refine Lw.callF rfl rfl (rsize_c s0 l0 _ x_0) ?_
  rintro _ w ⟨rfl, hn⟩
  replace hB := hB.bs hn
  replace x_0 := x_0.bs hn
  replace x_1 := x_1.bs hn
  replace h_p := h_p.bs hn
  replace hC_p := hC_p.bs hn
  replace h_q := h_q.bs hn
  replace hC_q := hC_q.bs hn
  replace h_x := h_x.bs hn
  replace hC_x := hC_x.bs hn
  replace h_y := h_y.bs hn
  replace hC_y := hC_y.bs hn
  replace x_v := x_v.bs hn
  clear hn
  refine Lw.take (dj := 65) rfl rfl ?_
  refine Lw.val (Ex.neq rfl rfl) rfl ?_
  refine Lw.val (Ex.pickF rfl rfl) rfl ?_
  refine Lw.val (Ex.move rfl) rfl ?_
  refine Lw.know 72 (v' := .bool false) rfl (congrArg Value.bool (by simp)) ?_
  refine Lw.take (dj := 72) rfl rfl ?_
  refine Lw.val (Ex.move rfl) rfl ?_
  refine Lw.take (dj := 72) rfl rfl ?_
  refine Lw.val (Ex.move rfl) rfl ?_
  refine Lw.take (dj := 72) rfl rfl ?_
  refine Lw.val (Ex.neq rfl rfl) rfl ?_
  refine Lw.val (Ex.pickF rfl rfl) rfl ?_
  refine Lw.val (Ex.move rfl) rfl ?_
  refine Lw.know 77 (v' := .bool false) rfl (congrArg Value.bool (by simp)) ?_
  refine Lw.take (dj := 77) rfl rfl ?_
  refine Lw.val (Ex.move rfl) rfl ?_
  refine Lw.take (dj := 77) rfl rfl ?_
  refine Lw.val (Ex.move rfl) rfl ?_
  refine Lw.take (dj := 77) rfl rfl ?_
  refine Lw.val (Ex.neq rfl rfl) rfl ?_
  refine Lw.val (Ex.pickF rfl rfl) rfl ?_
  refine Lw.val (Ex.move rfl) rfl ?_
  refine Lw.know 82 (v' := .bool false) rfl (congrArg Value.bool (by simp)) ?_
  refine Lw.take (dj := 82) rfl rfl ?_
  refine Lw.val (Ex.move rfl) rfl ?_
  refine Lw.take (dj := 82) rfl rfl ?_
  refine Lw.val (Ex.move rfl) rfl ?_
  refine Lw.take (dj := 82) rfl rfl ?_
  refine Lw.callF rfl rfl (sameInts_c x v (Shapes.atl l0 n) (Shapes.atl l0 n) _ h_x.sl x_v) ?_
  rintro _ w ⟨rfl, hn⟩
  replace hB := hB.bs hn
  replace x_0 := x_0.bs hn
  replace x_1 := x_1.bs hn
  replace h_p := h_p.bs hn
  replace hC_p := hC_p.bs hn
  replace h_q := h_q.bs hn
  replace hC_q := hC_q.bs hn
  replace h_x := h_x.bs hn
  replace hC_x := hC_x.bs hn
  replace h_y := h_y.bs hn
  replace hC_y := hC_y.bs hn
  replace x_v := x_v.bs hn
  clear hn
  refine Lw.take (dj := 82) rfl rfl ?_
  refine Lw.val (Ex.not rfl) rfl ?_
  refine Lw.val (Ex.pickF rfl rfl) rfl ?_
  refine Lw.val (Ex.move rfl) rfl ?_
  refine Lw.know 88 (v' := .bool false) rfl (congrArg Value.bool (by simp)) ?_
  refine Lw.take (dj := 88) rfl rfl ?_
  refine Lw.val (Ex.move rfl) rfl ?_
  refine Lw.take (dj := 88) rfl rfl ?_
  refine Lw.val (Ex.move rfl) rfl ?_
  refine Lw.take (dj := 88) rfl rfl ?_
  refine Lw.callF rfl rfl (sameInts_c y v (Shapes.atl l0 n) (Shapes.atl l0 n) _ h_y.sl x_v) ?_
  rintro _ w ⟨rfl, hn⟩
  replace hB := hB.bs hn
  replace x_0 := x_0.bs hn
  replace x_1 := x_1.bs hn
  replace h_p := h_p.bs hn
  replace hC_p := hC_p.bs hn
  replace h_q := h_q.bs hn
  replace hC_q := hC_q.bs hn
  replace h_x := h_x.bs hn
  replace hC_x := hC_x.bs hn
  replace h_y := h_y.bs hn
  replace hC_y := hC_y.bs hn
  replace x_v := x_v.bs hn
  clear hn
  refine Lw.take (dj := 88) rfl rfl ?_
  refine Lw.val (Ex.not rfl) rfl ?_
  refine Lw.val (Ex.pickF rfl rfl) rfl ?_
  refine Lw.val (Ex.move rfl) rfl ?_
  refine Lw.know 94 (v' := .bool false) rfl (congrArg Value.bool (by simp)) ?_
  refine Lw.take (dj := 94) rfl rfl ?_
  refine Lw.val (Ex.move rfl) rfl ?_
  refine Lw.take (dj := 94) rfl rfl ?_
  refine Lw.val (Ex.move rfl) rfl ?_
  refine Lw.take (dj := 94) rfl rfl ?_
  refine Lw.val (Ex.neq rfl rfl) rfl ?_
  refine Lw.val (Ex.pickF rfl rfl) rfl ?_
  refine Lw.val (Ex.move rfl) rfl ?_
  refine Lw.know 99 (v' := .bool false) rfl (congrArg Value.bool (by simp)) ?_
  refine Lw.take (dj := 99) rfl rfl ?_
  refine Lw.val (Ex.move rfl) rfl ?_
  refine Lw.take (dj := 99) rfl rfl ?_
  refine Lw.val (Ex.move rfl) rfl ?_
  refine Lw.take (dj := 99) rfl rfl ?_
  refine Lw.callF rfl rfl (leftInts_c p s0 l0 _ _ h_p.tx x_0) ?_
  rintro _ w ⟨rfl, hn⟩
  replace hB := hB.bs hn
  replace x_0 := x_0.bs hn
  replace x_1 := x_1.bs hn
  replace h_p := h_p.bs hn
  replace hC_p := hC_p.bs hn
  replace h_q := h_q.bs hn
  replace hC_q := hC_q.bs hn
  replace h_x := h_x.bs hn
  replace hC_x := hC_x.bs hn
  replace h_y := h_y.bs hn
  replace hC_y := hC_y.bs hn
  replace x_v := x_v.bs hn
  clear hn
  refine Lw.take (dj := 99) rfl rfl ?_
  refine Lw.val (Ex.not rfl) rfl ?_
  refine Lw.val (Ex.pickF rfl rfl) rfl ?_
  refine Lw.val (Ex.move rfl) rfl ?_
  refine Lw.know 105 (v' := .bool false) rfl (congrArg Value.bool (rfl)) ?_
  refine Lw.take (dj := 105) rfl rfl ?_
  refine Lw.val (Ex.move rfl) rfl ?_
  refine Lw.take (dj := 105) rfl rfl ?_
  refine Lw.val (Ex.move rfl) rfl ?_
  refine Lw.take (dj := 105) rfl rfl ?_
  refine Lw.callF rfl rfl (leftInts_c q s1 l1 _ _ h_q.tx x_1) ?_
  rintro _ w ⟨rfl, hn⟩
  replace hB := hB.bs hn
  replace x_0 := x_0.bs hn
  replace x_1 := x_1.bs hn
  replace h_p := h_p.bs hn
  replace hC_p := hC_p.bs hn
  replace h_q := h_q.bs hn
  replace hC_q := hC_q.bs hn
  replace h_x := h_x.bs hn
  replace hC_x := hC_x.bs hn
  replace h_y := h_y.bs hn
  replace hC_y := hC_y.bs hn
  replace x_v := x_v.bs hn
  clear hn
  refine Lw.take (dj := 105) rfl rfl ?_
  refine Lw.val (Ex.not rfl) rfl ?_
  refine Lw.val (Ex.pickF rfl rfl) rfl ?_
  refine Lw.nil ?_
  refine Pw.thenN (Cw.out ?_)
  refine Cw.condB rfl false (rfl) ?_
  refine Cw.skip ?_
  refine Pw.thenN (Cw.out ?_)
  refine Cw.seq ?_
  refine Cw.region ?_
  refine Lw.val (Ex.build (vs := []) (cs := [.int .i64 0, .slice none 0 0, .slice none 0 0, .slice none 0 0, .slice none 0 0, .slice none 0 0, .slice none 0 0, .slice none 0 0, .slice none 0 0, .slice none 0 0, .slice none 0 0, .slice none 0 0, .slice none 0 0, .slice none 0 0, .slice none 0 0, .slice none 0 0]) rfl (by kernel_rfl)) rfl ?_
  have zC := below_size hC_y
  have zl := atl_len l0 n
  have h_p := h_p.held
  have h_q := h_q.held
  have K0 : AllI w W.heap.size w.heap.size [(p, l0), (q, l1), (x, Shapes.atl l0 n), (y, Shapes.atl l0 n)] :=
    ⟨_, _, by omega, zc_p, h_p, _, _, by omega, zc_q, h_q, _, _, by omega, zc_x, h_x, _, _, by omega, zc_y, h_y, (by show _ ≤ _; omega)⟩
  refine Lw.boxed (cs := .int .i64 0 :: List.replicate 15 (.slice none 0 0)) it_49 rfl rfl rfl rfl (fun _ => rfl) (rfl) ?_
  rintro A_k w eA_k b_k hn zhn
  have zk := hn.size
  replace hB := hB.bs hn
  replace x_0 := x_0.bs hn
  replace x_1 := x_1.bs hn
  replace h_p := h_p.bs hn
  replace hC_p := hC_p.bs hn
  replace h_q := h_q.bs hn
  replace hC_q := hC_q.bs hn
  replace h_x := h_x.bs hn
  replace hC_x := hC_x.bs hn
  replace h_y := h_y.bs hn
  replace hC_y := hC_y.bs hn
  replace x_v := x_v.bs hn
  replace K0 := K0.bs hn
  clear hn
  have h_k := bk_new b_k
  have zw := below_size hB
  have K := K0.keeps (n := 0) (Int.le_refl 0) (show (0 : Int) + ((4 : Nat) : Int) ≤ 1000000 by decide) (by
    intro c hc
    simp only [List.mem_cons, List.not_mem_nil, or_false] at hc
    rcases hc with rfl | rfl | rfl | rfl
    · show l0.length ≤ _; omega
    · show l1.length ≤ _; omega
    · show (Shapes.atl l0 n).length ≤ _; omega
    · show (Shapes.atl l0 n).length ≤ _; omega)
  rw [← eA_k] at K
  clear K0 b_k
  refine Lw.nil ?_
  refine Pw.thenN (Cw.out ?_)
  refine Cw.seq ?_
  refine Cw.region ?_
  refine Lw.val (Ex.move rfl) rfl ?_
  refine Lw.callF rfl rfl (bookIntsB_c w A_k A_k _ _ _ _ _ _ _ p _ _ h_k h_p.r.sl (by omega) (show 0 ≤ 800 by decide)) ?_
  rintro _ w ⟨rfl, hn, _, h_k⟩
  have hB := hB.trans (hn.mono (show W.heap.size ≤ A_k by omega))
  have K := K.below hn
  have h_q := h_q.below hn (by omega)
  have h_x := h_x.below hn (by omega)
  have h_y := h_y.below hn (by omega)
  refine Lw.nil ?_
  refine Pw.thenN (Cw.out ?_)
  refine Cw.seq ?_
  refine Cw.region ?_
  refine Lw.val (Ex.move rfl) rfl ?_
  refine Lw.callF rfl rfl (bookIntsB_c w A_k A_k _ _ _ _ _ _ _ q _ _ h_k h_q.r.sl (by omega) (show 1 ≤ 800 by decide)) ?_
  rintro _ w ⟨rfl, hn, _, h_k⟩
  have hB := hB.trans (hn.mono (show W.heap.size ≤ A_k by omega))
  have K := K.below hn
  have h_x := h_x.below hn (by omega)
  have h_y := h_y.below hn (by omega)
  refine Lw.nil ?_
  refine Pw.thenN (Cw.out ?_)
  refine Cw.seq ?_
  refine Cw.region ?_
  refine Lw.val (Ex.move rfl) rfl ?_
  refine Lw.callF rfl rfl (bookIntsB_c w A_k A_k _ _ _ _ _ _ _ x _ _ h_k h_x.r.sl (by omega) (show 2 ≤ 800 by decide)) ?_
  rintro _ w ⟨rfl, hn, _, h_k⟩
  have hB := hB.trans (hn.mono (show W.heap.size ≤ A_k by omega))
  have K := K.below hn
  have h_y := h_y.below hn (by omega)
  refine Lw.nil ?_
  refine Pw.thenN (Cw.out ?_)
  refine Cw.seq ?_
  refine Cw.region ?_
  refine Lw.val (Ex.move rfl) rfl ?_
  refine Lw.callF rfl rfl (bookIntsB_c w A_k A_k _ _ _ _ _ _ _ y _ _ h_k h_y.r.sl (by omega) (show 3 ≤ 800 by decide)) ?_
  rintro _ w ⟨rfl, hn, _, h_k⟩
  have hB := hB.trans (hn.mono (show W.heap.size ≤ A_k by omega))
  have K := K.below hn
  refine Lw.nil ?_
  refine Pw.thenN (Cw.out ?_)
  refine Cw.seq ?_
  refine Cw.region ?_
  refine Lw.callF rfl rfl (apartI_c w A_k A_k W.heap.size _ _ _ _ _ h_k K (by omega)) ?_
  rintro _ w ⟨rfl, hn⟩
  refine Lw.val (Ex.assign rfl) rfl ?_
  refine Lw.nil ?_
  refine Pw.thenN (Cw.out ?_)
  refine Cw.ret ?_
  refine Pw.ret1 rfl rfl ?_
  exact ⟨rfl, hB.trans hn⟩

/-! A world for the witness: the settled one, the tables laid. -/
def laidCells : DataW Unit → Array Value
  | .agg l => (l.map fun d => match d with | .lit (.int k n) => Value.int k n | _ => Value.bool false).toArray
  | _ => #[]
noncomputable def laidWorld (os : Os) : World :=
  { World.holding Tryz.prog os ⟨#[], #[], []⟩ with heap := Rows.shapesOfRow.laid.foldl (fun h x => h.modify ((Tryz.prog.globalNamed x.1).getD 0) fun | .cells _ t fz => .cells (laidCells x.2) t fz | o => o) (World.holding Tryz.prog os ⟨#[], #[], []⟩).heap }
theorem laid_met (os : Os) (args : Array Value) : laidMetH Tryz.prog Rows.shapesOfRow.laid ((laidWorld os).forCall (fun _ _ => 0) ⟨#[], args, []⟩).memory :=
  laidMetH_of_parts (laidMet_of_run' 8 (by kernel_rfl) (by kernel_rfl)) (by kernel_rfl)

set_option maxRecDepth 100000 in
set_option maxHeartbeats 2000000 in
theorem shapesOf_lifted (os : Os) (started : os.Started) (H : Type) (enc : TypeId × Value → H) :
    ReturnsInHanded {} Tryz.checked os 3 .any (fun w args => (Rows.shapesOfSpec.pre enc Tryz.prog Tryz.f3 Rows.shapesOfRow.domain false w args ∧ laidMetH Tryz.prog Rows.shapesOfRow.laid w) ∧ sizedMet enc Tryz.prog Tryz.f3 (OpenSpec.ofChange Rows.shapesOfSpec) false w args) (Rows.shapesOfSpec.post enc Tryz.prog Tryz.f3 false true false false) := by
  refine returnsInHanded_of_change_and (C := Tryz.checked) (X := fun w _ => laidMetH Tryz.prog Rows.shapesOfRow.laid w) (fun _ _ _ hh h => h.of_heap hh) own started (by kernel_rfl) Tryz.func3
    (ChangeSpec.witness_at (enc := enc) (C := Tryz.checked) (os := os) (X := fun w _ => laidMetH Tryz.prog Rows.shapesOfRow.laid w) false (laidWorld os) #[.slice none 0 0, .slice none 0 0, .int .i64 0] 8 rfl (by kernel_rfl) (by kernel_rfl) (by kernel_rfl) (by kernel_rfl) (by kernel_rfl) (laid_met os _)) ?_
  intro W base args ds gs before hval0 hW hcnd hsz0 _ _
  have hval : ∀ (j : Nat) t v, Tryz.f3.params[j]? = some t → args[j]? = some v → Value.okWide Tryz.prog W .any base t v := hval0
  have hW' := hW
  obtain ⟨p, q, hA0, hV, rfl, hfz, hnd⟩ := hW
  have hA : DataW.TrodAll enc Tryz.prog W 0 (fun _ => true) true Tryz.f3.params.toList args.toList ds p := hA0
  have hsz : (DataW.weightsEach Tryz.prog (Tryz.f3.params.toList ++ Rows.shapesOfSpec.plain.varTypes Tryz.prog) (ds ++ gs)).all (· ≤ reachBytes) = true := hsz0
  rw [Tryz.params3] at hA hval hsz
  obtain ⟨v0, vs0, d0, ds0, p0, q0, hargs, rfl, rfl, h0, r0⟩ := trodAll_cons hA
  obtain ⟨v1, vs1, d1, ds1, p1, q1, rfl, rfl, rfl, h1, r1⟩ := trodAll_cons r0
  obtain ⟨v2, vs2, d2, ds2, p2, q2, rfl, rfl, rfl, h2, r2⟩ := trodAll_cons r1
  obtain ⟨rfl, rfl, rfl⟩ := trodAll_nil r2
  obtain rfl : args = #[v0, v1, v2] := by cases args; simp_all
  obtain ⟨rfl, rfl⟩ := trodVars_none hV
  have k0 := h0
  have lt0 : ∀ x ∈ p0, x.block < W.heap.size := by obtain ⟨m, hm⟩ := k0; exact DataW.trod_lt m _ _ _ hm
  have i0 := in_of (j := 0) (t := 22) hsz rfl rfl h0
  have o0 := hval 0 22 v0 rfl rfl
  have k1 := h1
  have lt1 : ∀ x ∈ p1, x.block < W.heap.size := by obtain ⟨m, hm⟩ := k1; exact DataW.trod_lt m _ _ _ hm
  have i1 := in_of (j := 1) (t := 22) hsz rfl rfl h1
  have o1 := hval 1 22 v1 rfl rfl
  have k2 := h2
  have lt2 : ∀ x ∈ p2, x.block < W.heap.size := by obtain ⟨m, hm⟩ := k2; exact DataW.trod_lt m _ _ _ hm
  have i2 := in_of (j := 2) (t := 3) hsz rfl rfl h2
  have o2 := hval 2 3 v2 rfl rfl
  clear hA0 hval0 hsz0 hsz
  obtain ⟨l0, h3, q3⟩ := arg_slT un_22 (by kernel_rfl) (fun cs h => (In.int un_3 h).imp fun _ h => h.1) o0 i0
  obtain ⟨l1, h4, q4⟩ := arg_slT un_22 (by kernel_rfl) (fun cs h => (In.int un_3 h).imp fun _ h => h.1) o1 i1
  obtain ⟨m, rfl, -⟩ := arg_int un_3 o2 i2
  have kb : Tryz.prog.bytesOf 3 = 8 := by kernel_rfl
  rw [kb] at q3 q4
  have hr : reachBytes ≤ 140737488355328 := by decide
  refine (law_calls (shapesOf_w v0 v1 l0 l1 m W h3 h4 (by omega) (by omega))).mono fun e W' ⟨he, bel⟩ => ?_
  subst he
  exact ⟨_, rfl, _, _, _, [], _, [], hW', trodAll_mk1 (shut_bool un_4 _), (trodAll_cons_mk (Below.trod laidOut (by kernel_rfl) (of_decide_eq_true (by kernel_rfl)) k0 bel lt0) (trodAll_cons_mk (Below.trod laidOut (by kernel_rfl) (of_decide_eq_true (by kernel_rfl)) k1 bel lt1) (trodAll_cons_mk (Below.trod laidOut (by kernel_rfl) (of_decide_eq_true (by kernel_rfl)) k2 bel lt2) trodAll_mk0))), rfl, bel.frame _, fun h => by cases h⟩

/-- The statement. -/
theorem shapesOf_holds : Rows.ShapesOfSaid :=
  OpenClaim.holds_of_wide 3 Tryz.f3 rfl rfl rfl rfl rfl rfl rfl ⟨rfl, rfl, rfl, rfl, rfl⟩ rfl rfl rfl rfl rfl (by kernel_rfl) Tryz.func3 (by kernel_rfl)
    (of_decide_eq_true (by kernel_rfl)) (by unfold Func.isWrapper; first | (rw [if_pos (by decide +kernel)]; kernel_rfl) | (rw [if_neg (by decide +kernel)]; exact ⟨rfl, rfl⟩))
    (fun os started H enc _ => shapesOf_lifted os started H enc)
/-- The card. -/
theorem shapesOf_proved : Rows.ShapesOfCardSaid :=
  Claim7.holds_tied_plain_at .later [] [.data, .data, .data] true (true, "2dc4eb457d1da6864f18a15668aa6241e9ae3b137ec1b6b05c8de2f66e8b5983") false
    shapesOf_holds (fun _ h => by cases h) (by kernel_rfl) (fun _ h => by cases h) shapesOf_row_tie rfl ⟨rfl, rfl⟩ (by kernel_rfl) rfl
    (fun f fn hf hfn => by
      obtain rfl : f = 3 := Option.some.inj ((show Tryz.prog.funcNamed "drydock/drydocklaw04.ShapesOf" = some 3 by kernel_rfl).symm.trans hf) |>.symm
      obtain rfl : fn = Tryz.f3 := (Option.some.inj (Tryz.func3.symm.trans hfn)).symm
      refine ⟨by kernel_rfl, fun j t ht => ?_⟩
      rw [Tryz.params3] at ht
      have h3 : t ∈ [22, 22, 3] := List.mem_of_getElem? (by simpa using ht)
      have h4 : ([22, 22, 3] : List TypeId).all (fun t => Tryz.prog.wantsStandIn t == false) = true := by kernel_rfl
      exact eq_of_beq (List.all_eq_true.1 h4 t h3))
    (by kernel_rfl)
#print axioms shapesOf_proved
end Go.Proofs.YtaliinkmeokonaaGreatDoor
