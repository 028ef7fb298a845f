/- One direction more, ahead, makes it that many times as great; one of 1 changes nothing: for any numbers, any places, one direction more, a place in it; no condition. -/
import Derived.Test.YtaliinkmeokonaaShapesLaw
import Derived.Test.YtaliinkmeokonaaOpen
import Derived.Test.YtaliinkmeokonaaRows
namespace Go.Proofs.Ytaliinkmeokonaa
open Go Go.Dd Go.RowKit Go.ChangeShapes Go.WideShapes Go.ChangeAt

theorem own : ownKnob Try.prog.godebug = none := by kernel_rfl
theorem laidOut : laidOutB Try.prog = true := by kernel_rfl

/-- Does it fit, with a direction more? -/
def fits (s : List Int) (m : Int) : Bool := decide (s.length < 4) && decide (1 ≤ m) && decide (m ≤ 64) && decide (Shapes.size s ≤ 4096 / m)

theorem more_ok {s : List Int} (h : Shapes.ok s = true) (m : Int) : Shapes.ok (m :: s) = fits s m ∧ (fits s m = true → Shapes.size (m :: s) = Shapes.size s * m ∧ Shapes.size s * m ≤ 4096) := by
  obtain ⟨hl, hg, hp⟩ := (Shapes.ok_iff s).1 h
  have hz := Shapes.size_ok h
  have key : fits s m = true ↔ Shapes.ok (m :: s) = true := by
    rw [Shapes.ok_iff, Shapes.good_cons]
    simp only [fits, Bool.and_eq_true, decide_eq_true_eq, List.length_cons, Shapes.prod, hz]
    constructor
    · rintro ⟨⟨⟨h1, h2⟩, h3⟩, h4⟩
      have := (Int.le_ediv_iff_mul_le (show 0 < m by omega)).1 h4
      exact ⟨by omega, ⟨⟨h2, h3⟩, hg⟩, by rw [Int.mul_comm]; exact this⟩
    · rintro ⟨h1, ⟨⟨h2, h3⟩, -⟩, h4⟩
      exact ⟨⟨⟨by omega, h2⟩, h3⟩, (Int.le_ediv_iff_mul_le (show 0 < m by omega)).2 (by rw [Int.mul_comm]; exact h4)⟩
  refine ⟨by cases h1 : fits s m <;> cases h2 : Shapes.ok (m :: s) <;> simp_all, fun hf => ?_⟩
  have ho := key.1 hf
  rw [Shapes.size_ok ho, hz, Int.mul_comm]
  exact ⟨rfl, ((Shapes.ok_iff _).1 ho).2.2⟩
theorem more_index {s t : List Int} (h : Shapes.ok s = true) (m k : Int) :
    (fits s m = true ∧ (Shapes.index s t).2 = 0 ∧ 0 ≤ k ∧ k < m → (Shapes.index (m :: s) (k :: t)).2 = 0 ∧ (Shapes.index (m :: s) (k :: t)).1 = k * Shapes.size s + (Shapes.index s t).1) ∧
    (¬ (fits s m = true ∧ (Shapes.index s t).2 = 0 ∧ 0 ≤ k ∧ k < m) → (Shapes.index (m :: s) (k :: t)).2 = 1) := by
  have h1 := (more_ok h m).1
  have hz := Shapes.size_ok h
  unfold Shapes.index
  rw [h1, h]
  simp only [Shapes.inn, Shapes.idx, hz]
  rcases Bool.eq_false_or_eq_true (Shapes.inn s t) with hi | hi <;> rcases Bool.eq_false_or_eq_true (fits s m) with hf | hf <;> by_cases h0 : 0 ≤ k <;> by_cases h2 : k < m <;> simp [hi, hf, h0, h2]
theorem index_le (s t : List Int) (h : Shapes.ok s = true) : 0 ≤ (Shapes.index s t).1 ∧ (Shapes.index s t).1 ≤ 4096 := by
  obtain ⟨_, hg, hp⟩ := (Shapes.ok_iff s).1 h
  unfold Shapes.index
  split
  · rename_i hi
    have := Shapes.idx_lt hg (by simp at hi; exact hi.2)
    simp only
    omega
  · simp
theorem one_ok {s : List Int} (h : Shapes.ok s = true) (hl : s.length < 4) : Shapes.ok (s ++ [1]) = true ∧ Shapes.size (s ++ [1]) = Shapes.size s := by
  obtain ⟨hl', hg, hp⟩ := (Shapes.ok_iff s).1 h
  have e : Shapes.prod (s ++ [1]) = Shapes.prod s := by rw [Shapes.prod_append]; simp [Shapes.prod]
  have : Shapes.ok (s ++ [1]) = true := (Shapes.ok_iff _).2 ⟨by simp; omega, Shapes.good_append.2 ⟨hg, by simp [Shapes.good]⟩, by rw [e]; exact hp⟩
  exact ⟨this, by rw [Shapes.size_ok this, Shapes.size_ok h, e]⟩
theorem one_four {s : List Int} (hl : s.length = 4) : Shapes.ok (s ++ [1]) = false := by
  cases h : Shapes.ok (s ++ [1]) with
  | false => rfl
  | true => have := ((Shapes.ok_iff _).1 h).1; simp at this; omega
theorem inn_one : ∀ (s t : List Int), Shapes.inn (s ++ [1]) (t ++ [0]) = Shapes.inn s t
  | [], [] => rfl
  | x :: s, a :: t => by simp only [List.cons_append, Shapes.inn, inn_one s t]
  | [], b :: t => by cases t <;> simp [Shapes.inn]
  | x :: s, [] => by cases s <;> simp [Shapes.inn]
theorem idx_one : ∀ (s t : List Int), Shapes.inn s t = true → Shapes.idx (s ++ [1]) (t ++ [0]) = Shapes.idx s t
  | [], [], _ => by simp [Shapes.idx]
  | x :: s, a :: t, h => by
    simp only [Shapes.inn, Bool.and_eq_true] at h
    simp only [List.cons_append, Shapes.idx, idx_one s t h.2, Shapes.prod_append]
    simp [Shapes.prod]
  | [], b :: t, h => by simp [Shapes.inn] at h
  | x :: s, [], h => by simp [Shapes.inn] at h
theorem one_index {s t : List Int} (h : Shapes.ok s = true) (hl : s.length < 4) : Shapes.index (s ++ [1]) (t ++ [0]) = Shapes.index s t := by
  unfold Shapes.index
  rw [(one_ok h hl).1, h, inn_one]
  cases hi : Shapes.inn s t with
  | false => rfl
  | true => rw [idx_one s t hi]

theorem len2 {α : Type} {l : List α} (h : l.length = 2) : ∃ a b, l = [a, b] := by
  match l, h with
  | [a, b], _ => exact ⟨a, b, rfl⟩

theorem shapesMore_w (v va : Value) (s t : List Int) (m k : Int) (w : World) (hv : SlT (Value.int .i64) w v s) (ha : SlT (Value.int .i64) w va t) :
    Fnc Try.prog 4 [v, va, .agg #[.int .i64 m, .int .i64 k]] w (fun r w' => r = .bool true ∧ Below w.heap.size w w') := by
  have hle := hv.le
  refine Fnc.enter (n := 160) Try.func4 (by kernel_rfl) rfl rfl rfl ?_
  refine Cw.seq ?_
  refine Cw.region ?_
  refine Lw.valW (Xw.box rfl rfl) rfl ?_
  rintro _ w1 ⟨rfl, hb, hB1, hs1⟩
  refine Lw.val (Ex.assign rfl) rfl ?_
  refine Lw.nil ?_
  refine Pw.thenN (Cw.out ?_)
  refine Cw.seq ?_
  refine Cw.seq ?_
  refine Cw.region ?_
  refine Lw.callF rfl rfl (alive_c w1) ?_
  rintro _ w2 ⟨rfl, hb2⟩
  have hB2 := bt hB1 hb2
  have hb := hb.bs hb2
  have hv2 := hv.bs hB2
  have ha2 := ha.bs hB2
  refine Lw.val (Ex.not rfl) rfl ?_
  refine Lw.val (Ex.move rfl) rfl ?_
  refine Lw.know 21 (v' := .bool false) rfl (congrArg Value.bool (rfl)) ?_
  refine Lw.take (dj := 21) rfl rfl ?_
  refine Lw.val (Ex.move rfl) rfl ?_
  refine Lw.take (dj := 21) rfl rfl ?_
  refine Lw.val (Ex.lenS st_22 rfl (by assumption)) rfl ?_
  refine Lw.take (dj := 21) rfl rfl ?_
  refine Lw.val (Ex.gtr rfl rfl) rfl ?_
  refine Lw.val (Ex.pickF rfl rfl) rfl ?_
  refine Lw.val (Ex.move rfl) rfl ?_
  refine Lw.part 26 rfl ?_ ?_
  · intro _
    refine Lw.pass (dj := 26) rfl rfl rfl rfl ?_
    refine Lw.pass (dj := 26) rfl rfl rfl rfl ?_
    refine Lw.pass (dj := 26) rfl rfl rfl rfl ?_
    refine Lw.val (Ex.pickT rfl rfl) rfl ?_
    refine Lw.val (Ex.move rfl) rfl ?_
    refine Lw.pass (dj := 31) rfl rfl rfl rfl ?_
    refine Lw.pass (dj := 31) rfl rfl rfl rfl ?_
    refine Lw.pass (dj := 31) rfl rfl rfl rfl ?_
    refine Lw.val (Ex.pickT rfl rfl) rfl ?_
    refine Lw.nil ?_
    refine Pw.thenN (Cw.out ?_)
    refine Cw.condT rfl ?_
    refine Cw.seq ?_
    refine Cw.region ?_
    refine Lw.callF rfl rfl (alive_c w2) ?_
    rintro _ w3 ⟨rfl, hB3⟩
    refine Lw.val (Ex.assign rfl) rfl ?_
    refine Lw.nil ?_
    refine Pw.thenN (Cw.out ?_)
    refine Cw.ret ?_
    refine Pw.thenR ?_
    refine Pw.ret1 rfl rfl ?_
    exact ⟨rfl, bt hB2 hB3⟩
  intro h1
  have h1' := of_decide_eq_false h1
  refine Lw.take (dj := 26) rfl rfl ?_
  refine Lw.val (Ex.move rfl) rfl ?_
  refine Lw.take (dj := 26) rfl rfl ?_
  refine Lw.val (Ex.lenS st_22 rfl (by assumption)) rfl ?_
  refine Lw.take (dj := 26) rfl rfl ?_
  refine Lw.val (Ex.gtr rfl rfl) rfl ?_
  refine Lw.val (Ex.pickF rfl rfl) rfl ?_
  refine Lw.val (Ex.move rfl) rfl ?_
  refine Lw.part 31 rfl ?_ ?_
  · intro _
    refine Lw.pass (dj := 31) rfl rfl rfl rfl ?_
    refine Lw.pass (dj := 31) rfl rfl rfl rfl ?_
    refine Lw.pass (dj := 31) rfl rfl rfl rfl ?_
    refine Lw.val (Ex.pickT rfl rfl) rfl ?_
    refine Lw.nil ?_
    refine Pw.thenN (Cw.out ?_)
    refine Cw.condT rfl ?_
    refine Cw.seq ?_
    refine Cw.region ?_
    refine Lw.callF rfl rfl (alive_c w2) ?_
    rintro _ w3 ⟨rfl, hB3⟩
    refine Lw.val (Ex.assign rfl) rfl ?_
    refine Lw.nil ?_
    refine Pw.thenN (Cw.out ?_)
    refine Cw.ret ?_
    refine Pw.thenR ?_
    refine Pw.ret1 rfl rfl ?_
    exact ⟨rfl, bt hB2 hB3⟩
  intro h2
  have h2' := of_decide_eq_false h2
  refine Lw.take (dj := 31) rfl rfl ?_
  refine Lw.val (Ex.move rfl) rfl ?_
  refine Lw.take (dj := 31) rfl rfl ?_
  refine Lw.callF rfl rfl (check_c v s w2 hv2) ?_
  rintro _ w3 ⟨rfl, hb3⟩
  have hB3 := bt hB2 hb3
  have hb := hb.bs hb3
  refine Lw.take (dj := 31) rfl rfl ?_
  refine Lw.val (Ex.not rfl) rfl ?_
  refine Lw.val (Ex.pickF rfl rfl) rfl ?_
  refine Lw.nil ?_
  refine Pw.thenN (Cw.out ?_)
  refine Cw.cond rfl ?_ ?_
  · intro _
    refine Cw.seq ?_
    refine Cw.region ?_
    refine Lw.callF rfl rfl (alive_c w3) ?_
    rintro _ w4 ⟨rfl, hB4⟩
    refine Lw.val (Ex.assign rfl) rfl ?_
    refine Lw.nil ?_
    refine Pw.thenN (Cw.out ?_)
    refine Cw.ret ?_
    refine Pw.thenR ?_
    refine Pw.ret1 rfl rfl ?_
    exact ⟨rfl, bt hB3 hB4⟩
  intro h3
  have hok : Shapes.ok s = true := by simpa using h3
  have hgd := (Shapes.ok_iff s).1 hok
  have hv3 := hv.bs hB3
  have ha3 := ha.bs hB3
  clear hv2 ha2 h3
  refine Cw.skip ?_
  refine Pw.thenN (Cw.out ?_)
  refine Cw.seq ?_
  refine Cw.region ?_
  refine Lw.val (Ex.fieldAddr (q := 0) Try.underlying33 rfl (sz_3 _) rfl) rfl ?_
  refine Lw.val (Ex.ldB (ag_3 _) rfl (by assumption) rfl) rfl ?_
  refine Lw.val (Ex.assign rfl) rfl ?_
  refine Lw.nil ?_
  refine Pw.thenN (Cw.out ?_)
  refine Cw.seq ?_
  refine Cw.region ?_
  refine Lw.val (Ex.fieldAddr (q := 0) Try.underlying33 rfl (sz_3 _) rfl) rfl ?_
  refine Lw.val (Ex.ldB (ag_3 _) rfl (by assumption) rfl) rfl ?_
  refine Lw.val (Ex.assign rfl) rfl ?_
  refine Lw.nil ?_
  refine Pw.thenN (Cw.out ?_)
  refine Cw.seq ?_
  refine Cw.region ?_
  refine Lw.val (Ex.move rfl) rfl ?_
  refine Lw.callF rfl rfl (size_c v s w3 hv3) ?_
  rintro _ w4 ⟨rfl, hb4⟩
  have hB4 := bt hB3 hb4
  have hv4 := hv.bs hB4
  have ha4 := ha.bs hB4
  refine Lw.val (Ex.assign rfl) rfl ?_
  refine Lw.nil ?_
  refine Pw.thenN (Cw.out ?_)
  refine Cw.seq ?_
  refine Cw.region ?_
  refine Lw.val (Ex.move rfl) rfl ?_
  refine Lw.val (Ex.move rfl) rfl ?_
  refine Lw.callF rfl rfl (index_c s t v va w4 hv4 ha4) ?_
  rintro _ w5 ⟨rfl, hb5⟩
  have hB5 := bt hB4 hb5
  have hs5 := hB5.size
  refine Lw.val (Ex.move rfl) rfl ?_
  refine Lw.val (Ex.extract (i := 0) rfl rfl) rfl ?_
  refine Lw.val (Ex.extract (i := 1) rfl rfl) rfl ?_
  refine Lw.val (Ex.assign rfl) rfl ?_
  refine Lw.val (Ex.assign rfl) rfl ?_
  refine Lw.nil ?_
  refine Pw.thenN (Cw.out ?_)
  refine Cw.seq ?_
  refine Cw.region ?_
  refine Lw.val (Ex.move rfl) rfl ?_
  refine Lw.valW (Xw.lit (vs := [m].map (Value.int .i64)) st_22 it_3 rfl rfl rfl rfl rfl) rfl ?_
  rintro v6 w6 ⟨ho6, -, hb6, -⟩
  have hB6 := bt hB5 hb6
  refine Lw.callF rfl rfl (ints_c v6 w6) ?_
  rintro v6 w7 ⟨rfl, hb7⟩
  have hB7 := bt hB6 hb7
  have hs7 := (bt hb6 hb7).size
  refine Lw.val (Ex.move rfl) rfl ?_
  refine Lw.valW (Xw.append (base := w5.heap.size) st_22 it_3 rfl (by decide) rfl rfl (own_bs ho6 hb7) (hv.bs hB7) (one_map (fun _ => rfl) _) (by omega) (by omega) hs7) rfl ?_
  rintro v8 w8 ⟨ho8, hb8, -⟩
  have hb8' := (bt hb6 hb7).trans hb8
  have hB8 := bt hB5 hb8'
  have hl8 : [m].length + s.length = (m :: s).length := by simp; omega
  have ht8 : SlT (Value.int .i64) w8 v8 (m :: s) := by unfold SlT; rw [← hl8]; exact own_sl ho8
  have hs8 := hB8.size
  refine Lw.val (Ex.assign rfl) rfl ?_
  refine Lw.nil ?_
  refine Pw.thenN (Cw.out ?_)
  refine Cw.seq ?_
  refine Cw.region ?_
  refine Lw.val (Ex.move rfl) rfl ?_
  refine Lw.val (Ex.move rfl) rfl ?_
  refine Lw.valW (Xw.lit (vs := [k].map (Value.int .i64)) st_22 it_3 rfl rfl rfl rfl rfl) rfl ?_
  rintro v9 w9 ⟨ho9, -, hb9, -⟩
  have hB9 := bt hB8 hb9
  refine Lw.callF rfl rfl (ints_c v9 w9) ?_
  rintro v9 w10 ⟨rfl, hb10⟩
  have hB10 := bt hB9 hb10
  have hs10 := (bt hb9 hb10).size
  refine Lw.val (Ex.move rfl) rfl ?_
  refine Lw.valW (Xw.append (base := w8.heap.size) st_22 it_3 rfl (by decide) rfl rfl (own_bs ho9 hb10) (ha.bs hB10) (one_map (fun _ => rfl) _) (by omega) (by omega) hs10) rfl ?_
  rintro v11 w11 ⟨ho11, hb11, -⟩
  have hb11' := (bt hb9 hb10).trans hb11
  have hB11 := bt hB8 hb11'
  have hl11 : [k].length + t.length = (k :: t).length := by simp; omega
  have ht11 : SlT (Value.int .i64) w11 v11 (k :: t) := by unfold SlT; rw [← hl11]; exact own_sl ho11
  have ht8 := ht8.bs hb11'
  clear ho6 ho8 ho9 ho11 hv3 ha3 hv4 ha4
  refine Lw.callF rfl rfl (index_c (m :: s) (k :: t) v8 v11 w11 ht8 ht11) ?_
  rintro _ w12 ⟨rfl, hb12⟩
  have hB12 := bt hB11 hb12
  have hv12 := hv.bs hB12
  have ht12 := ht8.bs hb12
  refine Lw.val (Ex.move rfl) rfl ?_
  refine Lw.val (Ex.extract (i := 0) rfl rfl) rfl ?_
  refine Lw.val (Ex.extract (i := 1) rfl rfl) rfl ?_
  refine Lw.val (Ex.assign rfl) rfl ?_
  refine Lw.val (Ex.assign rfl) rfl ?_
  refine Lw.nil ?_
  refine Pw.thenN (Cw.out ?_)
  refine Cw.seq ?_
  refine Cw.region ?_
  refine Lw.val (Ex.move rfl) rfl ?_
  refine Lw.val (Ex.lenS st_22 rfl (by assumption)) rfl ?_
  refine Lw.val (Ex.lss rfl rfl) rfl ?_
  refine Lw.val (Ex.move rfl) rfl ?_
  obtain ⟨f1, f2⟩ := more_ok hok m
  obtain ⟨x1, x2⟩ := more_index (t := t) hok m k
  refine Lw.part 67 rfl ?_ ?_
  · intro g1
    refine Lw.take (dj := 67) rfl rfl ?_
    refine Lw.val (Ex.move rfl) rfl ?_
    refine Lw.take (dj := 67) rfl rfl ?_
    refine Lw.val (Ex.geq rfl rfl) rfl ?_
    refine Lw.val (Ex.pickT rfl rfl) rfl ?_
    refine Lw.val (Ex.move rfl) rfl ?_
    refine Lw.part 71 rfl ?_ ?_
    · intro g2
      refine Lw.take (dj := 71) rfl rfl ?_
      refine Lw.val (Ex.move rfl) rfl ?_
      refine Lw.take (dj := 71) rfl rfl ?_
      refine Lw.val (Ex.leq rfl rfl) rfl ?_
      refine Lw.val (Ex.pickT rfl rfl) rfl ?_
      refine Lw.val (Ex.move rfl) rfl ?_
      refine Lw.part 75 rfl ?_ ?_
      · intro g3
        refine Lw.take (dj := 75) rfl rfl ?_
        refine Lw.val (Ex.move rfl) rfl ?_
        refine Lw.take (dj := 75) rfl rfl ?_
        refine Lw.val (Ex.move rfl) rfl ?_
        refine Lw.take (dj := 75) rfl rfl ?_
        refine Lw.val (Ex.quoI rfl rfl (by omega) (by have := of_decide_eq_true g2; omega)) rfl ?_
        refine Lw.take (dj := 75) rfl rfl ?_
        refine Lw.val (Ex.leq rfl rfl) rfl ?_
        refine Lw.val (Ex.pickT rfl rfl) rfl ?_
        refine Lw.val (Ex.assign rfl) rfl ?_
        refine Lw.nil ?_
        refine Pw.thenN (Cw.out ?_)
        refine Cw.seq ?_
        refine Cw.seq ?_
        refine Cw.region ?_
        refine Lw.val (Ex.move rfl) rfl ?_
        have q1 : s.length < 4 := by simp at g1; omega
        have q2 : 1 ≤ m := of_decide_eq_true g2
        have q3 : m ≤ 64 := of_decide_eq_true g3
        have hfe : fits s m = decide (Shapes.size s ≤ 4096 / m) := by simp [fits, q1, q2, q3]
        rcases Bool.eq_false_or_eq_true (decide (Shapes.size s ≤ 4096 / m)) with hq | hq
        · rw [hq]
          rw [hfe, hq] at f1
          obtain ⟨f3, f4⟩ := f2 (hfe.trans hq)
          have f5 := Shapes.size_le (m :: s)
          have f6 := Shapes.size_le s
          have f7 := index_le s t hok
          refine Lw.callF rfl rfl (check_c v8 (m :: s) w12 ht12) ?_
          rintro _ w13 ⟨rfl, hb13⟩
          have hB13 := bt hB12 hb13
          rw [f1]
          refine Lw.val (Ex.move rfl) rfl ?_
          refine Lw.val (Ex.neqB un_4 rfl rfl) rfl ?_
          refine Lw.val (Ex.move rfl) rfl ?_
          refine Lw.know 85 (v' := .bool false) rfl (congrArg Value.bool (rfl)) ?_
          refine Lw.take (dj := 85) rfl rfl ?_
          refine Lw.val (Ex.move rfl) rfl ?_
          refine Lw.take (dj := 85) rfl rfl ?_
          refine Lw.val (Ex.move rfl) rfl ?_
          refine Lw.take (dj := 87) rfl rfl ?_
          refine Lw.val (Ex.move rfl) rfl ?_
          refine Lw.take (dj := 87) rfl rfl ?_
          refine Lw.callF rfl rfl (size_c v8 (m :: s) w13 (ht12.bs hb13)) ?_
          rintro _ w14 ⟨rfl, hb14⟩
          have hB14 := bt hB13 hb14
          have hvC := hv.bs hB14
          rw [f3]
          refine Lw.take (dj := 87) rfl rfl ?_
          refine Lw.val (Ex.move rfl) rfl ?_
          refine Lw.take (dj := 87) rfl rfl ?_
          refine Lw.val (Ex.move rfl) rfl ?_
          refine Lw.take (dj := 87) rfl rfl ?_
          refine Lw.val (Ex.mulI rfl rfl (by omega)) rfl ?_
          refine Lw.take (dj := 87) rfl rfl ?_
          refine Lw.val (Ex.neq rfl rfl) rfl ?_
          refine Lw.take (dj := 85) rfl rfl ?_
          refine Lw.val (Ex.pickT rfl rfl) rfl ?_
          refine Lw.val (Ex.pickF rfl rfl) rfl ?_
          refine Lw.nil ?_
          refine Pw.thenN (Cw.out ?_)
          refine Cw.condB rfl false (by simp) ?_
          refine Cw.skip ?_
          refine Pw.thenN (Cw.out ?_)
          refine Cw.seq ?_
          refine Cw.seq ?_
          refine Cw.region ?_
          refine Lw.val (Ex.move rfl) rfl ?_
          refine Lw.val (Ex.not rfl) rfl ?_
          refine Lw.val (Ex.move rfl) rfl ?_
          refine Lw.take (dj := 98) rfl rfl ?_
          refine Lw.val (Ex.move rfl) rfl ?_
          refine Lw.take (dj := 98) rfl rfl ?_
          refine Lw.val (Ex.neq rfl rfl) rfl ?_
          refine Lw.val (Ex.pickF rfl rfl) rfl ?_
          refine Lw.val (Ex.move rfl) rfl ?_
          refine Lw.part 102 rfl ?_ ?_
          · intro g4
            refine Lw.pass (dj := 102) rfl rfl rfl rfl ?_
            refine Lw.pass (dj := 102) rfl rfl rfl rfl ?_
            refine Lw.val (Ex.pickT rfl rfl) rfl ?_
            refine Lw.val (Ex.move rfl) rfl ?_
            refine Lw.pass (dj := 106) rfl rfl rfl rfl ?_
            refine Lw.pass (dj := 106) rfl rfl rfl rfl ?_
            refine Lw.pass (dj := 106) rfl rfl rfl rfl ?_
            refine Lw.val (Ex.pickT rfl rfl) rfl ?_
            refine Lw.nil ?_
            refine Pw.thenN (Cw.out ?_)
            refine Cw.condT rfl ?_
            refine Cw.seq ?_
            refine Cw.region ?_
            refine Lw.val (Ex.move rfl) rfl ?_
            refine Lw.val (Ex.neq rfl rfl) rfl ?_
            refine Lw.nil ?_
            refine Pw.thenN (Cw.out ?_)
            refine Cw.condB rfl false (by rw [x2 (by simp at g4; exact fun h => g4 h.2.1)]; rfl) ?_
            refine Cw.skip ?_
            refine Pw.thenN (Cw.out ?_)
            refine Cw.seq ?_
            refine Cw.seq ?_
            refine Cw.region ?_
            refine Lw.val (Ex.move rfl) rfl ?_
            refine Lw.val (Ex.lenS st_22 rfl (by assumption)) rfl ?_
            refine Lw.val (Ex.eql rfl rfl) rfl ?_
            refine Lw.nil ?_
            refine Pw.thenN (Cw.out ?_)
            refine Cw.cond rfl ?_ ?_
            · intro g
              have g4 : s.length = 4 := by have := of_decide_eq_true g; omega
              refine Cw.seq ?_
              refine Cw.region ?_
              refine Lw.val (Ex.move rfl) rfl ?_
              refine Lw.valW (Xw.append (base := w.heap.size) st_22 it_3 rfl (by decide) rfl rfl (World.ownsRow_nil _ _ _ _) hvC (one_map (fun _ => rfl) _) (by omega) (by omega) (below_size hB14)) rfl ?_
              rintro v14 w14 ⟨ho14, hb14, -⟩
              have hC14 := (hB14).trans hb14
              have hsC := below_size hC14
              refine Lw.valW (Xw.lit (vs := [(1 : Int)].map (Value.int .i64)) st_22 it_3 rfl rfl rfl rfl rfl) rfl ?_
              rintro v15 w15 ⟨ho15, -, hb15, -⟩
              have hC15 := bt hC14 hb15
              refine Lw.valW (Xw.append (base := w.heap.size) st_22 it_3 rfl (by decide) rfl rfl (own_bs ho14 hb15) (own_sl ho15) (one_map (fun _ => rfl) _) (by simp; omega) (by simp; omega) (below_size hC15)) rfl ?_
              rintro v16 w16 ⟨ho16, hb16, -⟩
              have hC16 := hC15.trans hb16
              have hl16 : 0 + s.length + [(1 : Int)].length = (s ++ [1]).length := by simp
              have ht16 : SlT (Value.int .i64) w16 v16 (s ++ [1]) := by unfold SlT; rw [← hl16, List.map_append]; exact own_sl ho16
              refine Lw.callF rfl rfl (check_c v16 (s ++ [1]) w16 ht16) ?_
              rintro _ w17 ⟨rfl, hb17⟩
              rw [one_four g4]
              refine Lw.val (Ex.not rfl) rfl ?_
              refine Lw.val (Ex.assign rfl) rfl ?_
              refine Lw.nil ?_
              refine Pw.thenN (Cw.out ?_)
              refine Cw.ret ?_
              refine Pw.thenR ?_
              refine Pw.ret1 rfl rfl ?_
              exact ⟨rfl, bt hC16 hb17⟩
            · intro g
              have g4 : s.length < 4 := by have := of_decide_eq_false g; omega
              refine Cw.skip ?_
              refine Pw.thenN (Cw.out ?_)
              refine Cw.seq ?_
              refine Cw.region ?_
              refine Lw.val (Ex.move rfl) rfl ?_
              refine Lw.valW (Xw.append (base := w.heap.size) st_22 it_3 rfl (by decide) rfl rfl (World.ownsRow_nil _ _ _ _) hvC (one_map (fun _ => rfl) _) (by omega) (by omega) (below_size hB14)) rfl ?_
              rintro v15 w15 ⟨ho15, hc15, -⟩
              have hC15 := (hB14).trans hc15
              refine Lw.valW (Xw.lit (vs := [(1 : Int)].map (Value.int .i64)) st_22 it_3 rfl rfl rfl rfl rfl) rfl ?_
              rintro v16 w16 ⟨ho16, -, hb16, -⟩
              have hC16 := bt hC15 hb16
              refine Lw.valW (Xw.append (base := w.heap.size) st_22 it_3 rfl (by decide) rfl rfl (own_bs ho15 hb16) (own_sl ho16) (one_map (fun _ => rfl) _) (by simp; omega) (by simp; omega) (below_size hC16)) rfl ?_
              rintro v17 w17 ⟨ho17, hb17, -⟩
              have hC17 := hC16.trans hb17
              have hl17 : 0 + s.length + [(1 : Int)].length = (s ++ [1]).length := by simp
              have ht17 : SlT (Value.int .i64) w17 v17 (s ++ [1]) := by unfold SlT; rw [← hl17, List.map_append]; exact own_sl ho17
              have ha17 := ha.bs hC17
              refine Lw.val (Ex.assign rfl) rfl ?_
              refine Lw.nil ?_
              refine Pw.thenN (Cw.out ?_)
              refine Cw.seq ?_
              refine Cw.region ?_
              refine Lw.val (Ex.move rfl) rfl ?_
              refine Lw.val (Ex.move rfl) rfl ?_
              refine Lw.valW (Xw.append (base := w17.heap.size) st_22 it_3 rfl (by decide) rfl rfl (World.ownsRow_nil _ _ _ _) ha17 (one_map (fun _ => rfl) _) (by omega) (by omega) (Nat.le_refl _)) rfl ?_
              rintro v18 w18 ⟨ho18, hb18, -⟩
              refine Lw.valW (Xw.lit (vs := [(0 : Int)].map (Value.int .i64)) st_22 it_3 rfl rfl rfl rfl rfl) rfl ?_
              rintro v19 w19 ⟨ho19, -, hb19, -⟩
              have hb19' := hb18.trans (hb19.mono (below_size hb18))
              refine Lw.valW (Xw.append (base := w17.heap.size) st_22 it_3 rfl (by decide) rfl rfl (own_bs ho18 hb19) (own_sl ho19) (one_map (fun _ => rfl) _) (by simp; omega) (by simp; omega) (below_size hb19')) rfl ?_
              rintro v20 w20 ⟨ho20, hb20, -⟩
              have hb20' := hb19'.trans hb20
              have hC20 := bt hC17 hb20'
              have hl20 : 0 + t.length + [(0 : Int)].length = (t ++ [0]).length := by simp
              have ht20 : SlT (Value.int .i64) w20 v20 (t ++ [0]) := by unfold SlT; rw [← hl20, List.map_append]; exact own_sl ho20
              have hu20 := ht17.bs hb20'
              refine Lw.callF rfl rfl (index_c (s ++ [1]) (t ++ [0]) v17 v20 w20 hu20 ht20) ?_
              rintro _ w21 ⟨rfl, hb21⟩
              have hC21 := bt hC20 hb21
              rw [one_index hok g4]
              refine Lw.val (Ex.move rfl) rfl ?_
              refine Lw.val (Ex.extract (i := 0) rfl rfl) rfl ?_
              refine Lw.val (Ex.extract (i := 1) rfl rfl) rfl ?_
              refine Lw.val (Ex.assign rfl) rfl ?_
              refine Lw.val (Ex.assign rfl) rfl ?_
              refine Lw.nil ?_
              refine Pw.thenN (Cw.out ?_)
              refine Cw.seq ?_
              refine Cw.region ?_
              refine Lw.val (Ex.move rfl) rfl ?_
              refine Lw.callF rfl rfl (size_c v17 (s ++ [1]) w21 (hu20.bs hb21)) ?_
              rintro _ w22 ⟨rfl, hb22⟩
              rw [(one_ok hok g4).2]
              refine Lw.val (Ex.move rfl) rfl ?_
              refine Lw.val (Ex.eql rfl rfl) rfl ?_
              refine Lw.val (Ex.move rfl) rfl ?_
              refine Lw.know 150 (v' := .bool true) rfl (congrArg Value.bool (by simp)) ?_
              refine Lw.take (dj := 150) rfl rfl ?_
              refine Lw.val (Ex.move rfl) rfl ?_
              refine Lw.take (dj := 150) rfl rfl ?_
              refine Lw.val (Ex.move rfl) rfl ?_
              refine Lw.take (dj := 150) rfl rfl ?_
              refine Lw.val (Ex.eql rfl rfl) rfl ?_
              refine Lw.val (Ex.pickT rfl rfl) rfl ?_
              refine Lw.val (Ex.move rfl) rfl ?_
              refine Lw.know 155 (v' := .bool true) rfl (congrArg Value.bool (by simp)) ?_
              refine Lw.take (dj := 155) rfl rfl ?_
              refine Lw.val (Ex.move rfl) rfl ?_
              refine Lw.take (dj := 155) rfl rfl ?_
              refine Lw.val (Ex.move rfl) rfl ?_
              refine Lw.take (dj := 155) rfl rfl ?_
              refine Lw.val (Ex.eql rfl rfl) rfl ?_
              refine Lw.val (Ex.pickT rfl rfl) rfl ?_
              refine Lw.val (Ex.assign rfl) rfl ?_
              refine Lw.nil ?_
              refine Pw.thenN (Cw.out ?_)
              refine Cw.ret ?_
              refine Pw.ret1 rfl rfl ?_
              exact ⟨congrArg Value.bool (by simp), bt hC21 hb22⟩
          intro g4
          have g4' : (Shapes.index s t).2 = 0 := by simpa using g4
          refine Lw.take (dj := 102) rfl rfl ?_
          refine Lw.val (Ex.move rfl) rfl ?_
          refine Lw.take (dj := 102) rfl rfl ?_
          refine Lw.val (Ex.lss rfl rfl) rfl ?_
          refine Lw.val (Ex.pickF rfl rfl) rfl ?_
          refine Lw.val (Ex.move rfl) rfl ?_
          refine Lw.part 106 rfl ?_ ?_
          · intro g5
            refine Lw.pass (dj := 106) rfl rfl rfl rfl ?_
            refine Lw.pass (dj := 106) rfl rfl rfl rfl ?_
            refine Lw.pass (dj := 106) rfl rfl rfl rfl ?_
            refine Lw.val (Ex.pickT rfl rfl) rfl ?_
            refine Lw.nil ?_
            refine Pw.thenN (Cw.out ?_)
            refine Cw.condT rfl ?_
            refine Cw.seq ?_
            refine Cw.region ?_
            refine Lw.val (Ex.move rfl) rfl ?_
            refine Lw.val (Ex.neq rfl rfl) rfl ?_
            refine Lw.nil ?_
            refine Pw.thenN (Cw.out ?_)
            refine Cw.condB rfl false (by rw [x2 (by have := of_decide_eq_true g5; omega)]; rfl) ?_
            refine Cw.skip ?_
            refine Pw.thenN (Cw.out ?_)
            refine Cw.seq ?_
            refine Cw.seq ?_
            refine Cw.region ?_
            refine Lw.val (Ex.move rfl) rfl ?_
            refine Lw.val (Ex.lenS st_22 rfl (by assumption)) rfl ?_
            refine Lw.val (Ex.eql rfl rfl) rfl ?_
            refine Lw.nil ?_
            refine Pw.thenN (Cw.out ?_)
            refine Cw.cond rfl ?_ ?_
            · intro g
              have g4 : s.length = 4 := by have := of_decide_eq_true g; omega
              refine Cw.seq ?_
              refine Cw.region ?_
              refine Lw.val (Ex.move rfl) rfl ?_
              refine Lw.valW (Xw.append (base := w.heap.size) st_22 it_3 rfl (by decide) rfl rfl (World.ownsRow_nil _ _ _ _) hvC (one_map (fun _ => rfl) _) (by omega) (by omega) (below_size hB14)) rfl ?_
              rintro v14 w14 ⟨ho14, hb14, -⟩
              have hC14 := (hB14).trans hb14
              have hsC := below_size hC14
              refine Lw.valW (Xw.lit (vs := [(1 : Int)].map (Value.int .i64)) st_22 it_3 rfl rfl rfl rfl rfl) rfl ?_
              rintro v15 w15 ⟨ho15, -, hb15, -⟩
              have hC15 := bt hC14 hb15
              refine Lw.valW (Xw.append (base := w.heap.size) st_22 it_3 rfl (by decide) rfl rfl (own_bs ho14 hb15) (own_sl ho15) (one_map (fun _ => rfl) _) (by simp; omega) (by simp; omega) (below_size hC15)) rfl ?_
              rintro v16 w16 ⟨ho16, hb16, -⟩
              have hC16 := hC15.trans hb16
              have hl16 : 0 + s.length + [(1 : Int)].length = (s ++ [1]).length := by simp
              have ht16 : SlT (Value.int .i64) w16 v16 (s ++ [1]) := by unfold SlT; rw [← hl16, List.map_append]; exact own_sl ho16
              refine Lw.callF rfl rfl (check_c v16 (s ++ [1]) w16 ht16) ?_
              rintro _ w17 ⟨rfl, hb17⟩
              rw [one_four g4]
              refine Lw.val (Ex.not rfl) rfl ?_
              refine Lw.val (Ex.assign rfl) rfl ?_
              refine Lw.nil ?_
              refine Pw.thenN (Cw.out ?_)
              refine Cw.ret ?_
              refine Pw.thenR ?_
              refine Pw.ret1 rfl rfl ?_
              exact ⟨rfl, bt hC16 hb17⟩
            · intro g
              have g4 : s.length < 4 := by have := of_decide_eq_false g; omega
              refine Cw.skip ?_
              refine Pw.thenN (Cw.out ?_)
              refine Cw.seq ?_
              refine Cw.region ?_
              refine Lw.val (Ex.move rfl) rfl ?_
              refine Lw.valW (Xw.append (base := w.heap.size) st_22 it_3 rfl (by decide) rfl rfl (World.ownsRow_nil _ _ _ _) hvC (one_map (fun _ => rfl) _) (by omega) (by omega) (below_size hB14)) rfl ?_
              rintro v15 w15 ⟨ho15, hc15, -⟩
              have hC15 := (hB14).trans hc15
              refine Lw.valW (Xw.lit (vs := [(1 : Int)].map (Value.int .i64)) st_22 it_3 rfl rfl rfl rfl rfl) rfl ?_
              rintro v16 w16 ⟨ho16, -, hb16, -⟩
              have hC16 := bt hC15 hb16
              refine Lw.valW (Xw.append (base := w.heap.size) st_22 it_3 rfl (by decide) rfl rfl (own_bs ho15 hb16) (own_sl ho16) (one_map (fun _ => rfl) _) (by simp; omega) (by simp; omega) (below_size hC16)) rfl ?_
              rintro v17 w17 ⟨ho17, hb17, -⟩
              have hC17 := hC16.trans hb17
              have hl17 : 0 + s.length + [(1 : Int)].length = (s ++ [1]).length := by simp
              have ht17 : SlT (Value.int .i64) w17 v17 (s ++ [1]) := by unfold SlT; rw [← hl17, List.map_append]; exact own_sl ho17
              have ha17 := ha.bs hC17
              refine Lw.val (Ex.assign rfl) rfl ?_
              refine Lw.nil ?_
              refine Pw.thenN (Cw.out ?_)
              refine Cw.seq ?_
              refine Cw.region ?_
              refine Lw.val (Ex.move rfl) rfl ?_
              refine Lw.val (Ex.move rfl) rfl ?_
              refine Lw.valW (Xw.append (base := w17.heap.size) st_22 it_3 rfl (by decide) rfl rfl (World.ownsRow_nil _ _ _ _) ha17 (one_map (fun _ => rfl) _) (by omega) (by omega) (Nat.le_refl _)) rfl ?_
              rintro v18 w18 ⟨ho18, hb18, -⟩
              refine Lw.valW (Xw.lit (vs := [(0 : Int)].map (Value.int .i64)) st_22 it_3 rfl rfl rfl rfl rfl) rfl ?_
              rintro v19 w19 ⟨ho19, -, hb19, -⟩
              have hb19' := hb18.trans (hb19.mono (below_size hb18))
              refine Lw.valW (Xw.append (base := w17.heap.size) st_22 it_3 rfl (by decide) rfl rfl (own_bs ho18 hb19) (own_sl ho19) (one_map (fun _ => rfl) _) (by simp; omega) (by simp; omega) (below_size hb19')) rfl ?_
              rintro v20 w20 ⟨ho20, hb20, -⟩
              have hb20' := hb19'.trans hb20
              have hC20 := bt hC17 hb20'
              have hl20 : 0 + t.length + [(0 : Int)].length = (t ++ [0]).length := by simp
              have ht20 : SlT (Value.int .i64) w20 v20 (t ++ [0]) := by unfold SlT; rw [← hl20, List.map_append]; exact own_sl ho20
              have hu20 := ht17.bs hb20'
              refine Lw.callF rfl rfl (index_c (s ++ [1]) (t ++ [0]) v17 v20 w20 hu20 ht20) ?_
              rintro _ w21 ⟨rfl, hb21⟩
              have hC21 := bt hC20 hb21
              rw [one_index hok g4]
              refine Lw.val (Ex.move rfl) rfl ?_
              refine Lw.val (Ex.extract (i := 0) rfl rfl) rfl ?_
              refine Lw.val (Ex.extract (i := 1) rfl rfl) rfl ?_
              refine Lw.val (Ex.assign rfl) rfl ?_
              refine Lw.val (Ex.assign rfl) rfl ?_
              refine Lw.nil ?_
              refine Pw.thenN (Cw.out ?_)
              refine Cw.seq ?_
              refine Cw.region ?_
              refine Lw.val (Ex.move rfl) rfl ?_
              refine Lw.callF rfl rfl (size_c v17 (s ++ [1]) w21 (hu20.bs hb21)) ?_
              rintro _ w22 ⟨rfl, hb22⟩
              rw [(one_ok hok g4).2]
              refine Lw.val (Ex.move rfl) rfl ?_
              refine Lw.val (Ex.eql rfl rfl) rfl ?_
              refine Lw.val (Ex.move rfl) rfl ?_
              refine Lw.know 150 (v' := .bool true) rfl (congrArg Value.bool (by simp)) ?_
              refine Lw.take (dj := 150) rfl rfl ?_
              refine Lw.val (Ex.move rfl) rfl ?_
              refine Lw.take (dj := 150) rfl rfl ?_
              refine Lw.val (Ex.move rfl) rfl ?_
              refine Lw.take (dj := 150) rfl rfl ?_
              refine Lw.val (Ex.eql rfl rfl) rfl ?_
              refine Lw.val (Ex.pickT rfl rfl) rfl ?_
              refine Lw.val (Ex.move rfl) rfl ?_
              refine Lw.know 155 (v' := .bool true) rfl (congrArg Value.bool (by simp)) ?_
              refine Lw.take (dj := 155) rfl rfl ?_
              refine Lw.val (Ex.move rfl) rfl ?_
              refine Lw.take (dj := 155) rfl rfl ?_
              refine Lw.val (Ex.move rfl) rfl ?_
              refine Lw.take (dj := 155) rfl rfl ?_
              refine Lw.val (Ex.eql rfl rfl) rfl ?_
              refine Lw.val (Ex.pickT rfl rfl) rfl ?_
              refine Lw.val (Ex.assign rfl) rfl ?_
              refine Lw.nil ?_
              refine Pw.thenN (Cw.out ?_)
              refine Cw.ret ?_
              refine Pw.ret1 rfl rfl ?_
              exact ⟨congrArg Value.bool (by simp), bt hC21 hb22⟩
          intro g5
          have g5' := of_decide_eq_false g5
          refine Lw.take (dj := 106) rfl rfl ?_
          refine Lw.val (Ex.move rfl) rfl ?_
          refine Lw.take (dj := 106) rfl rfl ?_
          refine Lw.val (Ex.move rfl) rfl ?_
          refine Lw.take (dj := 106) rfl rfl ?_
          refine Lw.val (Ex.geq rfl rfl) rfl ?_
          refine Lw.val (Ex.pickF rfl rfl) rfl ?_
          refine Lw.nil ?_
          refine Pw.thenN (Cw.out ?_)
          refine Cw.cond rfl ?_ ?_
          · intro g6
            refine Cw.seq ?_
            refine Cw.region ?_
            refine Lw.val (Ex.move rfl) rfl ?_
            refine Lw.val (Ex.neq rfl rfl) rfl ?_
            refine Lw.nil ?_
            refine Pw.thenN (Cw.out ?_)
            refine Cw.condB rfl false (by rw [x2 (by have := of_decide_eq_true g6; omega)]; rfl) ?_
            refine Cw.skip ?_
            refine Pw.thenN (Cw.out ?_)
            refine Cw.seq ?_
            refine Cw.seq ?_
            refine Cw.region ?_
            refine Lw.val (Ex.move rfl) rfl ?_
            refine Lw.val (Ex.lenS st_22 rfl (by assumption)) rfl ?_
            refine Lw.val (Ex.eql rfl rfl) rfl ?_
            refine Lw.nil ?_
            refine Pw.thenN (Cw.out ?_)
            refine Cw.cond rfl ?_ ?_
            · intro g
              have g4 : s.length = 4 := by have := of_decide_eq_true g; omega
              refine Cw.seq ?_
              refine Cw.region ?_
              refine Lw.val (Ex.move rfl) rfl ?_
              refine Lw.valW (Xw.append (base := w.heap.size) st_22 it_3 rfl (by decide) rfl rfl (World.ownsRow_nil _ _ _ _) hvC (one_map (fun _ => rfl) _) (by omega) (by omega) (below_size hB14)) rfl ?_
              rintro v14 w14 ⟨ho14, hb14, -⟩
              have hC14 := (hB14).trans hb14
              have hsC := below_size hC14
              refine Lw.valW (Xw.lit (vs := [(1 : Int)].map (Value.int .i64)) st_22 it_3 rfl rfl rfl rfl rfl) rfl ?_
              rintro v15 w15 ⟨ho15, -, hb15, -⟩
              have hC15 := bt hC14 hb15
              refine Lw.valW (Xw.append (base := w.heap.size) st_22 it_3 rfl (by decide) rfl rfl (own_bs ho14 hb15) (own_sl ho15) (one_map (fun _ => rfl) _) (by simp; omega) (by simp; omega) (below_size hC15)) rfl ?_
              rintro v16 w16 ⟨ho16, hb16, -⟩
              have hC16 := hC15.trans hb16
              have hl16 : 0 + s.length + [(1 : Int)].length = (s ++ [1]).length := by simp
              have ht16 : SlT (Value.int .i64) w16 v16 (s ++ [1]) := by unfold SlT; rw [← hl16, List.map_append]; exact own_sl ho16
              refine Lw.callF rfl rfl (check_c v16 (s ++ [1]) w16 ht16) ?_
              rintro _ w17 ⟨rfl, hb17⟩
              rw [one_four g4]
              refine Lw.val (Ex.not rfl) rfl ?_
              refine Lw.val (Ex.assign rfl) rfl ?_
              refine Lw.nil ?_
              refine Pw.thenN (Cw.out ?_)
              refine Cw.ret ?_
              refine Pw.thenR ?_
              refine Pw.ret1 rfl rfl ?_
              exact ⟨rfl, bt hC16 hb17⟩
            · intro g
              have g4 : s.length < 4 := by have := of_decide_eq_false g; omega
              refine Cw.skip ?_
              refine Pw.thenN (Cw.out ?_)
              refine Cw.seq ?_
              refine Cw.region ?_
              refine Lw.val (Ex.move rfl) rfl ?_
              refine Lw.valW (Xw.append (base := w.heap.size) st_22 it_3 rfl (by decide) rfl rfl (World.ownsRow_nil _ _ _ _) hvC (one_map (fun _ => rfl) _) (by omega) (by omega) (below_size hB14)) rfl ?_
              rintro v15 w15 ⟨ho15, hc15, -⟩
              have hC15 := (hB14).trans hc15
              refine Lw.valW (Xw.lit (vs := [(1 : Int)].map (Value.int .i64)) st_22 it_3 rfl rfl rfl rfl rfl) rfl ?_
              rintro v16 w16 ⟨ho16, -, hb16, -⟩
              have hC16 := bt hC15 hb16
              refine Lw.valW (Xw.append (base := w.heap.size) st_22 it_3 rfl (by decide) rfl rfl (own_bs ho15 hb16) (own_sl ho16) (one_map (fun _ => rfl) _) (by simp; omega) (by simp; omega) (below_size hC16)) rfl ?_
              rintro v17 w17 ⟨ho17, hb17, -⟩
              have hC17 := hC16.trans hb17
              have hl17 : 0 + s.length + [(1 : Int)].length = (s ++ [1]).length := by simp
              have ht17 : SlT (Value.int .i64) w17 v17 (s ++ [1]) := by unfold SlT; rw [← hl17, List.map_append]; exact own_sl ho17
              have ha17 := ha.bs hC17
              refine Lw.val (Ex.assign rfl) rfl ?_
              refine Lw.nil ?_
              refine Pw.thenN (Cw.out ?_)
              refine Cw.seq ?_
              refine Cw.region ?_
              refine Lw.val (Ex.move rfl) rfl ?_
              refine Lw.val (Ex.move rfl) rfl ?_
              refine Lw.valW (Xw.append (base := w17.heap.size) st_22 it_3 rfl (by decide) rfl rfl (World.ownsRow_nil _ _ _ _) ha17 (one_map (fun _ => rfl) _) (by omega) (by omega) (Nat.le_refl _)) rfl ?_
              rintro v18 w18 ⟨ho18, hb18, -⟩
              refine Lw.valW (Xw.lit (vs := [(0 : Int)].map (Value.int .i64)) st_22 it_3 rfl rfl rfl rfl rfl) rfl ?_
              rintro v19 w19 ⟨ho19, -, hb19, -⟩
              have hb19' := hb18.trans (hb19.mono (below_size hb18))
              refine Lw.valW (Xw.append (base := w17.heap.size) st_22 it_3 rfl (by decide) rfl rfl (own_bs ho18 hb19) (own_sl ho19) (one_map (fun _ => rfl) _) (by simp; omega) (by simp; omega) (below_size hb19')) rfl ?_
              rintro v20 w20 ⟨ho20, hb20, -⟩
              have hb20' := hb19'.trans hb20
              have hC20 := bt hC17 hb20'
              have hl20 : 0 + t.length + [(0 : Int)].length = (t ++ [0]).length := by simp
              have ht20 : SlT (Value.int .i64) w20 v20 (t ++ [0]) := by unfold SlT; rw [← hl20, List.map_append]; exact own_sl ho20
              have hu20 := ht17.bs hb20'
              refine Lw.callF rfl rfl (index_c (s ++ [1]) (t ++ [0]) v17 v20 w20 hu20 ht20) ?_
              rintro _ w21 ⟨rfl, hb21⟩
              have hC21 := bt hC20 hb21
              rw [one_index hok g4]
              refine Lw.val (Ex.move rfl) rfl ?_
              refine Lw.val (Ex.extract (i := 0) rfl rfl) rfl ?_
              refine Lw.val (Ex.extract (i := 1) rfl rfl) rfl ?_
              refine Lw.val (Ex.assign rfl) rfl ?_
              refine Lw.val (Ex.assign rfl) rfl ?_
              refine Lw.nil ?_
              refine Pw.thenN (Cw.out ?_)
              refine Cw.seq ?_
              refine Cw.region ?_
              refine Lw.val (Ex.move rfl) rfl ?_
              refine Lw.callF rfl rfl (size_c v17 (s ++ [1]) w21 (hu20.bs hb21)) ?_
              rintro _ w22 ⟨rfl, hb22⟩
              rw [(one_ok hok g4).2]
              refine Lw.val (Ex.move rfl) rfl ?_
              refine Lw.val (Ex.eql rfl rfl) rfl ?_
              refine Lw.val (Ex.move rfl) rfl ?_
              refine Lw.know 150 (v' := .bool true) rfl (congrArg Value.bool (by simp)) ?_
              refine Lw.take (dj := 150) rfl rfl ?_
              refine Lw.val (Ex.move rfl) rfl ?_
              refine Lw.take (dj := 150) rfl rfl ?_
              refine Lw.val (Ex.move rfl) rfl ?_
              refine Lw.take (dj := 150) rfl rfl ?_
              refine Lw.val (Ex.eql rfl rfl) rfl ?_
              refine Lw.val (Ex.pickT rfl rfl) rfl ?_
              refine Lw.val (Ex.move rfl) rfl ?_
              refine Lw.know 155 (v' := .bool true) rfl (congrArg Value.bool (by simp)) ?_
              refine Lw.take (dj := 155) rfl rfl ?_
              refine Lw.val (Ex.move rfl) rfl ?_
              refine Lw.take (dj := 155) rfl rfl ?_
              refine Lw.val (Ex.move rfl) rfl ?_
              refine Lw.take (dj := 155) rfl rfl ?_
              refine Lw.val (Ex.eql rfl rfl) rfl ?_
              refine Lw.val (Ex.pickT rfl rfl) rfl ?_
              refine Lw.val (Ex.assign rfl) rfl ?_
              refine Lw.nil ?_
              refine Pw.thenN (Cw.out ?_)
              refine Cw.ret ?_
              refine Pw.ret1 rfl rfl ?_
              exact ⟨congrArg Value.bool (by simp), bt hC21 hb22⟩
          intro g6
          have g6' := of_decide_eq_false g6
          have x3 := x1 ⟨hfe.trans hq, g4', by omega, by omega⟩
          have x4 : 0 ≤ k * Shapes.size s ∧ k * Shapes.size s ≤ 64 * 4096 := ⟨Int.mul_nonneg (by omega) f6.1, Int.mul_le_mul (by omega) f6.2 f6.1 (by omega)⟩
          refine Cw.seq ?_
          refine Cw.region ?_
          refine Lw.val (Ex.move rfl) rfl ?_
          refine Lw.val (Ex.neq rfl rfl) rfl ?_
          refine Lw.val (Ex.move rfl) rfl ?_
          refine Lw.know 115 (v' := .bool false) rfl (congrArg Value.bool (by rw [x3.1]; rfl)) ?_
          refine Lw.take (dj := 115) rfl rfl ?_
          refine Lw.val (Ex.move rfl) rfl ?_
          refine Lw.take (dj := 115) rfl rfl ?_
          refine Lw.val (Ex.move rfl) rfl ?_
          refine Lw.take (dj := 115) rfl rfl ?_
          refine Lw.val (Ex.move rfl) rfl ?_
          refine Lw.take (dj := 115) rfl rfl ?_
          refine Lw.val (Ex.mulI rfl rfl (by omega)) rfl ?_
          refine Lw.take (dj := 115) rfl rfl ?_
          refine Lw.val (Ex.move rfl) rfl ?_
          refine Lw.take (dj := 115) rfl rfl ?_
          refine Lw.val (Ex.addI rfl rfl (by omega)) rfl ?_
          refine Lw.take (dj := 115) rfl rfl ?_
          refine Lw.val (Ex.neq rfl rfl) rfl ?_
          refine Lw.val (Ex.pickF rfl rfl) rfl ?_
          refine Lw.nil ?_
          refine Pw.thenN (Cw.out ?_)
          refine Cw.condB rfl false (by rw [x3.2]; simp) ?_
          refine Cw.skip ?_
          refine Pw.thenN (Cw.out ?_)
          refine Cw.seq ?_
          refine Cw.seq ?_
          refine Cw.region ?_
          refine Lw.val (Ex.move rfl) rfl ?_
          refine Lw.val (Ex.lenS st_22 rfl (by assumption)) rfl ?_
          refine Lw.val (Ex.eql rfl rfl) rfl ?_
          refine Lw.nil ?_
          refine Pw.thenN (Cw.out ?_)
          refine Cw.cond rfl ?_ ?_
          · intro g
            have g4 : s.length = 4 := by have := of_decide_eq_true g; omega
            refine Cw.seq ?_
            refine Cw.region ?_
            refine Lw.val (Ex.move rfl) rfl ?_
            refine Lw.valW (Xw.append (base := w.heap.size) st_22 it_3 rfl (by decide) rfl rfl (World.ownsRow_nil _ _ _ _) hvC (one_map (fun _ => rfl) _) (by omega) (by omega) (below_size hB14)) rfl ?_
            rintro v14 w14 ⟨ho14, hb14, -⟩
            have hC14 := (hB14).trans hb14
            have hsC := below_size hC14
            refine Lw.valW (Xw.lit (vs := [(1 : Int)].map (Value.int .i64)) st_22 it_3 rfl rfl rfl rfl rfl) rfl ?_
            rintro v15 w15 ⟨ho15, -, hb15, -⟩
            have hC15 := bt hC14 hb15
            refine Lw.valW (Xw.append (base := w.heap.size) st_22 it_3 rfl (by decide) rfl rfl (own_bs ho14 hb15) (own_sl ho15) (one_map (fun _ => rfl) _) (by simp; omega) (by simp; omega) (below_size hC15)) rfl ?_
            rintro v16 w16 ⟨ho16, hb16, -⟩
            have hC16 := hC15.trans hb16
            have hl16 : 0 + s.length + [(1 : Int)].length = (s ++ [1]).length := by simp
            have ht16 : SlT (Value.int .i64) w16 v16 (s ++ [1]) := by unfold SlT; rw [← hl16, List.map_append]; exact own_sl ho16
            refine Lw.callF rfl rfl (check_c v16 (s ++ [1]) w16 ht16) ?_
            rintro _ w17 ⟨rfl, hb17⟩
            rw [one_four g4]
            refine Lw.val (Ex.not rfl) rfl ?_
            refine Lw.val (Ex.assign rfl) rfl ?_
            refine Lw.nil ?_
            refine Pw.thenN (Cw.out ?_)
            refine Cw.ret ?_
            refine Pw.thenR ?_
            refine Pw.ret1 rfl rfl ?_
            exact ⟨rfl, bt hC16 hb17⟩
          · intro g
            have g4 : s.length < 4 := by have := of_decide_eq_false g; omega
            refine Cw.skip ?_
            refine Pw.thenN (Cw.out ?_)
            refine Cw.seq ?_
            refine Cw.region ?_
            refine Lw.val (Ex.move rfl) rfl ?_
            refine Lw.valW (Xw.append (base := w.heap.size) st_22 it_3 rfl (by decide) rfl rfl (World.ownsRow_nil _ _ _ _) hvC (one_map (fun _ => rfl) _) (by omega) (by omega) (below_size hB14)) rfl ?_
            rintro v15 w15 ⟨ho15, hc15, -⟩
            have hC15 := (hB14).trans hc15
            refine Lw.valW (Xw.lit (vs := [(1 : Int)].map (Value.int .i64)) st_22 it_3 rfl rfl rfl rfl rfl) rfl ?_
            rintro v16 w16 ⟨ho16, -, hb16, -⟩
            have hC16 := bt hC15 hb16
            refine Lw.valW (Xw.append (base := w.heap.size) st_22 it_3 rfl (by decide) rfl rfl (own_bs ho15 hb16) (own_sl ho16) (one_map (fun _ => rfl) _) (by simp; omega) (by simp; omega) (below_size hC16)) rfl ?_
            rintro v17 w17 ⟨ho17, hb17, -⟩
            have hC17 := hC16.trans hb17
            have hl17 : 0 + s.length + [(1 : Int)].length = (s ++ [1]).length := by simp
            have ht17 : SlT (Value.int .i64) w17 v17 (s ++ [1]) := by unfold SlT; rw [← hl17, List.map_append]; exact own_sl ho17
            have ha17 := ha.bs hC17
            refine Lw.val (Ex.assign rfl) rfl ?_
            refine Lw.nil ?_
            refine Pw.thenN (Cw.out ?_)
            refine Cw.seq ?_
            refine Cw.region ?_
            refine Lw.val (Ex.move rfl) rfl ?_
            refine Lw.val (Ex.move rfl) rfl ?_
            refine Lw.valW (Xw.append (base := w17.heap.size) st_22 it_3 rfl (by decide) rfl rfl (World.ownsRow_nil _ _ _ _) ha17 (one_map (fun _ => rfl) _) (by omega) (by omega) (Nat.le_refl _)) rfl ?_
            rintro v18 w18 ⟨ho18, hb18, -⟩
            refine Lw.valW (Xw.lit (vs := [(0 : Int)].map (Value.int .i64)) st_22 it_3 rfl rfl rfl rfl rfl) rfl ?_
            rintro v19 w19 ⟨ho19, -, hb19, -⟩
            have hb19' := hb18.trans (hb19.mono (below_size hb18))
            refine Lw.valW (Xw.append (base := w17.heap.size) st_22 it_3 rfl (by decide) rfl rfl (own_bs ho18 hb19) (own_sl ho19) (one_map (fun _ => rfl) _) (by simp; omega) (by simp; omega) (below_size hb19')) rfl ?_
            rintro v20 w20 ⟨ho20, hb20, -⟩
            have hb20' := hb19'.trans hb20
            have hC20 := bt hC17 hb20'
            have hl20 : 0 + t.length + [(0 : Int)].length = (t ++ [0]).length := by simp
            have ht20 : SlT (Value.int .i64) w20 v20 (t ++ [0]) := by unfold SlT; rw [← hl20, List.map_append]; exact own_sl ho20
            have hu20 := ht17.bs hb20'
            refine Lw.callF rfl rfl (index_c (s ++ [1]) (t ++ [0]) v17 v20 w20 hu20 ht20) ?_
            rintro _ w21 ⟨rfl, hb21⟩
            have hC21 := bt hC20 hb21
            rw [one_index hok g4]
            refine Lw.val (Ex.move rfl) rfl ?_
            refine Lw.val (Ex.extract (i := 0) rfl rfl) rfl ?_
            refine Lw.val (Ex.extract (i := 1) rfl rfl) rfl ?_
            refine Lw.val (Ex.assign rfl) rfl ?_
            refine Lw.val (Ex.assign rfl) rfl ?_
            refine Lw.nil ?_
            refine Pw.thenN (Cw.out ?_)
            refine Cw.seq ?_
            refine Cw.region ?_
            refine Lw.val (Ex.move rfl) rfl ?_
            refine Lw.callF rfl rfl (size_c v17 (s ++ [1]) w21 (hu20.bs hb21)) ?_
            rintro _ w22 ⟨rfl, hb22⟩
            rw [(one_ok hok g4).2]
            refine Lw.val (Ex.move rfl) rfl ?_
            refine Lw.val (Ex.eql rfl rfl) rfl ?_
            refine Lw.val (Ex.move rfl) rfl ?_
            refine Lw.know 150 (v' := .bool true) rfl (congrArg Value.bool (by simp)) ?_
            refine Lw.take (dj := 150) rfl rfl ?_
            refine Lw.val (Ex.move rfl) rfl ?_
            refine Lw.take (dj := 150) rfl rfl ?_
            refine Lw.val (Ex.move rfl) rfl ?_
            refine Lw.take (dj := 150) rfl rfl ?_
            refine Lw.val (Ex.eql rfl rfl) rfl ?_
            refine Lw.val (Ex.pickT rfl rfl) rfl ?_
            refine Lw.val (Ex.move rfl) rfl ?_
            refine Lw.know 155 (v' := .bool true) rfl (congrArg Value.bool (by simp)) ?_
            refine Lw.take (dj := 155) rfl rfl ?_
            refine Lw.val (Ex.move rfl) rfl ?_
            refine Lw.take (dj := 155) rfl rfl ?_
            refine Lw.val (Ex.move rfl) rfl ?_
            refine Lw.take (dj := 155) rfl rfl ?_
            refine Lw.val (Ex.eql rfl rfl) rfl ?_
            refine Lw.val (Ex.pickT rfl rfl) rfl ?_
            refine Lw.val (Ex.assign rfl) rfl ?_
            refine Lw.nil ?_
            refine Pw.thenN (Cw.out ?_)
            refine Cw.ret ?_
            refine Pw.ret1 rfl rfl ?_
            exact ⟨congrArg Value.bool (by simp), bt hC21 hb22⟩
        · rw [hq]
          have hno : fits s m = false := hfe.trans hq
          rw [hno] at f1
          refine Lw.callF rfl rfl (check_c v8 (m :: s) w12 ht12) ?_
          rintro _ w13 ⟨rfl, hb13⟩
          have hB13 := bt hB12 hb13
          rw [f1]
          refine Lw.val (Ex.move rfl) rfl ?_
          refine Lw.val (Ex.neqB un_4 rfl rfl) rfl ?_
          refine Lw.val (Ex.move rfl) rfl ?_
          refine Lw.know 85 (v' := .bool false) rfl (congrArg Value.bool (rfl)) ?_
          refine Lw.take (dj := 85) rfl rfl ?_
          refine Lw.val (Ex.move rfl) rfl ?_
          refine Lw.take (dj := 85) rfl rfl ?_
          refine Lw.val (Ex.move rfl) rfl ?_
          refine Lw.pass (dj := 87) rfl rfl rfl rfl ?_
          refine Lw.pass (dj := 87) rfl rfl rfl rfl ?_
          refine Lw.pass (dj := 87) rfl rfl rfl rfl ?_
          refine Lw.pass (dj := 87) rfl rfl rfl rfl ?_
          refine Lw.pass (dj := 87) rfl rfl rfl rfl ?_
          refine Lw.pass (dj := 87) rfl rfl rfl rfl ?_
          refine Lw.take (dj := 85) rfl rfl ?_
          refine Lw.val (Ex.pickF rfl rfl) rfl ?_
          refine Lw.val (Ex.pickF rfl rfl) rfl ?_
          refine Lw.nil ?_
          refine Pw.thenN (Cw.out ?_)
          refine Cw.condF rfl ?_
          refine Cw.skip ?_
          refine Pw.thenN (Cw.out ?_)
          refine Cw.seq ?_
          refine Cw.seq ?_
          refine Cw.region ?_
          refine Lw.val (Ex.move rfl) rfl ?_
          refine Lw.val (Ex.not rfl) rfl ?_
          refine Lw.val (Ex.move rfl) rfl ?_
          refine Lw.pass (dj := 98) rfl rfl rfl rfl ?_
          refine Lw.pass (dj := 98) rfl rfl rfl rfl ?_
          refine Lw.val (Ex.pickT rfl rfl) rfl ?_
          refine Lw.val (Ex.move rfl) rfl ?_
          refine Lw.pass (dj := 102) rfl rfl rfl rfl ?_
          refine Lw.pass (dj := 102) rfl rfl rfl rfl ?_
          refine Lw.val (Ex.pickT rfl rfl) rfl ?_
          refine Lw.val (Ex.move rfl) rfl ?_
          refine Lw.pass (dj := 106) rfl rfl rfl rfl ?_
          refine Lw.pass (dj := 106) rfl rfl rfl rfl ?_
          refine Lw.pass (dj := 106) rfl rfl rfl rfl ?_
          refine Lw.val (Ex.pickT rfl rfl) rfl ?_
          refine Lw.nil ?_
          refine Pw.thenN (Cw.out ?_)
          refine Cw.condT rfl ?_
          refine Cw.seq ?_
          refine Cw.region ?_
          refine Lw.val (Ex.move rfl) rfl ?_
          refine Lw.val (Ex.neq rfl rfl) rfl ?_
          refine Lw.nil ?_
          refine Pw.thenN (Cw.out ?_)
          have hvC := hv.bs hB13
          refine Cw.condB rfl false (by rw [x2 (by simp [hno])]; rfl) ?_
          refine Cw.skip ?_
          refine Pw.thenN (Cw.out ?_)
          refine Cw.seq ?_
          refine Cw.seq ?_
          refine Cw.region ?_
          refine Lw.val (Ex.move rfl) rfl ?_
          refine Lw.val (Ex.lenS st_22 rfl (by assumption)) rfl ?_
          refine Lw.val (Ex.eql rfl rfl) rfl ?_
          refine Lw.nil ?_
          refine Pw.thenN (Cw.out ?_)
          refine Cw.cond rfl ?_ ?_
          · intro g
            have g4 : s.length = 4 := by have := of_decide_eq_true g; omega
            refine Cw.seq ?_
            refine Cw.region ?_
            refine Lw.val (Ex.move rfl) rfl ?_
            refine Lw.valW (Xw.append (base := w.heap.size) st_22 it_3 rfl (by decide) rfl rfl (World.ownsRow_nil _ _ _ _) hvC (one_map (fun _ => rfl) _) (by omega) (by omega) (below_size hB13)) rfl ?_
            rintro v14 w14 ⟨ho14, hb14, -⟩
            have hC14 := (hB13).trans hb14
            have hsC := below_size hC14
            refine Lw.valW (Xw.lit (vs := [(1 : Int)].map (Value.int .i64)) st_22 it_3 rfl rfl rfl rfl rfl) rfl ?_
            rintro v15 w15 ⟨ho15, -, hb15, -⟩
            have hC15 := bt hC14 hb15
            refine Lw.valW (Xw.append (base := w.heap.size) st_22 it_3 rfl (by decide) rfl rfl (own_bs ho14 hb15) (own_sl ho15) (one_map (fun _ => rfl) _) (by simp; omega) (by simp; omega) (below_size hC15)) rfl ?_
            rintro v16 w16 ⟨ho16, hb16, -⟩
            have hC16 := hC15.trans hb16
            have hl16 : 0 + s.length + [(1 : Int)].length = (s ++ [1]).length := by simp
            have ht16 : SlT (Value.int .i64) w16 v16 (s ++ [1]) := by unfold SlT; rw [← hl16, List.map_append]; exact own_sl ho16
            refine Lw.callF rfl rfl (check_c v16 (s ++ [1]) w16 ht16) ?_
            rintro _ w17 ⟨rfl, hb17⟩
            rw [one_four g4]
            refine Lw.val (Ex.not rfl) rfl ?_
            refine Lw.val (Ex.assign rfl) rfl ?_
            refine Lw.nil ?_
            refine Pw.thenN (Cw.out ?_)
            refine Cw.ret ?_
            refine Pw.thenR ?_
            refine Pw.ret1 rfl rfl ?_
            exact ⟨rfl, bt hC16 hb17⟩
          · intro g
            have g4 : s.length < 4 := by have := of_decide_eq_false g; omega
            refine Cw.skip ?_
            refine Pw.thenN (Cw.out ?_)
            refine Cw.seq ?_
            refine Cw.region ?_
            refine Lw.val (Ex.move rfl) rfl ?_
            refine Lw.valW (Xw.append (base := w.heap.size) st_22 it_3 rfl (by decide) rfl rfl (World.ownsRow_nil _ _ _ _) hvC (one_map (fun _ => rfl) _) (by omega) (by omega) (below_size hB13)) rfl ?_
            rintro v15 w15 ⟨ho15, hc15, -⟩
            have hC15 := (hB13).trans hc15
            refine Lw.valW (Xw.lit (vs := [(1 : Int)].map (Value.int .i64)) st_22 it_3 rfl rfl rfl rfl rfl) rfl ?_
            rintro v16 w16 ⟨ho16, -, hb16, -⟩
            have hC16 := bt hC15 hb16
            refine Lw.valW (Xw.append (base := w.heap.size) st_22 it_3 rfl (by decide) rfl rfl (own_bs ho15 hb16) (own_sl ho16) (one_map (fun _ => rfl) _) (by simp; omega) (by simp; omega) (below_size hC16)) rfl ?_
            rintro v17 w17 ⟨ho17, hb17, -⟩
            have hC17 := hC16.trans hb17
            have hl17 : 0 + s.length + [(1 : Int)].length = (s ++ [1]).length := by simp
            have ht17 : SlT (Value.int .i64) w17 v17 (s ++ [1]) := by unfold SlT; rw [← hl17, List.map_append]; exact own_sl ho17
            have ha17 := ha.bs hC17
            refine Lw.val (Ex.assign rfl) rfl ?_
            refine Lw.nil ?_
            refine Pw.thenN (Cw.out ?_)
            refine Cw.seq ?_
            refine Cw.region ?_
            refine Lw.val (Ex.move rfl) rfl ?_
            refine Lw.val (Ex.move rfl) rfl ?_
            refine Lw.valW (Xw.append (base := w17.heap.size) st_22 it_3 rfl (by decide) rfl rfl (World.ownsRow_nil _ _ _ _) ha17 (one_map (fun _ => rfl) _) (by omega) (by omega) (Nat.le_refl _)) rfl ?_
            rintro v18 w18 ⟨ho18, hb18, -⟩
            refine Lw.valW (Xw.lit (vs := [(0 : Int)].map (Value.int .i64)) st_22 it_3 rfl rfl rfl rfl rfl) rfl ?_
            rintro v19 w19 ⟨ho19, -, hb19, -⟩
            have hb19' := hb18.trans (hb19.mono (below_size hb18))
            refine Lw.valW (Xw.append (base := w17.heap.size) st_22 it_3 rfl (by decide) rfl rfl (own_bs ho18 hb19) (own_sl ho19) (one_map (fun _ => rfl) _) (by simp; omega) (by simp; omega) (below_size hb19')) rfl ?_
            rintro v20 w20 ⟨ho20, hb20, -⟩
            have hb20' := hb19'.trans hb20
            have hC20 := bt hC17 hb20'
            have hl20 : 0 + t.length + [(0 : Int)].length = (t ++ [0]).length := by simp
            have ht20 : SlT (Value.int .i64) w20 v20 (t ++ [0]) := by unfold SlT; rw [← hl20, List.map_append]; exact own_sl ho20
            have hu20 := ht17.bs hb20'
            refine Lw.callF rfl rfl (index_c (s ++ [1]) (t ++ [0]) v17 v20 w20 hu20 ht20) ?_
            rintro _ w21 ⟨rfl, hb21⟩
            have hC21 := bt hC20 hb21
            rw [one_index hok g4]
            refine Lw.val (Ex.move rfl) rfl ?_
            refine Lw.val (Ex.extract (i := 0) rfl rfl) rfl ?_
            refine Lw.val (Ex.extract (i := 1) rfl rfl) rfl ?_
            refine Lw.val (Ex.assign rfl) rfl ?_
            refine Lw.val (Ex.assign rfl) rfl ?_
            refine Lw.nil ?_
            refine Pw.thenN (Cw.out ?_)
            refine Cw.seq ?_
            refine Cw.region ?_
            refine Lw.val (Ex.move rfl) rfl ?_
            refine Lw.callF rfl rfl (size_c v17 (s ++ [1]) w21 (hu20.bs hb21)) ?_
            rintro _ w22 ⟨rfl, hb22⟩
            rw [(one_ok hok g4).2]
            refine Lw.val (Ex.move rfl) rfl ?_
            refine Lw.val (Ex.eql rfl rfl) rfl ?_
            refine Lw.val (Ex.move rfl) rfl ?_
            refine Lw.know 150 (v' := .bool true) rfl (congrArg Value.bool (by simp)) ?_
            refine Lw.take (dj := 150) rfl rfl ?_
            refine Lw.val (Ex.move rfl) rfl ?_
            refine Lw.take (dj := 150) rfl rfl ?_
            refine Lw.val (Ex.move rfl) rfl ?_
            refine Lw.take (dj := 150) rfl rfl ?_
            refine Lw.val (Ex.eql rfl rfl) rfl ?_
            refine Lw.val (Ex.pickT rfl rfl) rfl ?_
            refine Lw.val (Ex.move rfl) rfl ?_
            refine Lw.know 155 (v' := .bool true) rfl (congrArg Value.bool (by simp)) ?_
            refine Lw.take (dj := 155) rfl rfl ?_
            refine Lw.val (Ex.move rfl) rfl ?_
            refine Lw.take (dj := 155) rfl rfl ?_
            refine Lw.val (Ex.move rfl) rfl ?_
            refine Lw.take (dj := 155) rfl rfl ?_
            refine Lw.val (Ex.eql rfl rfl) rfl ?_
            refine Lw.val (Ex.pickT rfl rfl) rfl ?_
            refine Lw.val (Ex.assign rfl) rfl ?_
            refine Lw.nil ?_
            refine Pw.thenN (Cw.out ?_)
            refine Cw.ret ?_
            refine Pw.ret1 rfl rfl ?_
            exact ⟨congrArg Value.bool (by simp), bt hC21 hb22⟩
      · intro g3
        have hno : fits s m = false := by simp [fits]; simp at g3; omega
        rw [hno] at f1
        refine Lw.pass (dj := 75) rfl rfl rfl rfl ?_
        refine Lw.pass (dj := 75) rfl rfl rfl rfl ?_
        refine Lw.pass (dj := 75) rfl rfl rfl rfl ?_
        refine Lw.pass (dj := 75) rfl rfl rfl rfl ?_
        refine Lw.val (Ex.pickF rfl rfl) rfl ?_
        refine Lw.val (Ex.assign rfl) rfl ?_
        refine Lw.nil ?_
        refine Pw.thenN (Cw.out ?_)
        refine Cw.seq ?_
        refine Cw.seq ?_
        refine Cw.region ?_
        refine Lw.val (Ex.move rfl) rfl ?_
        refine Lw.callF rfl rfl (check_c v8 (m :: s) w12 ht12) ?_
        rintro _ w13 ⟨rfl, hb13⟩
        have hB13 := bt hB12 hb13
        rw [f1]
        refine Lw.val (Ex.move rfl) rfl ?_
        refine Lw.val (Ex.neqB un_4 rfl rfl) rfl ?_
        refine Lw.val (Ex.move rfl) rfl ?_
        refine Lw.know 85 (v' := .bool false) rfl (congrArg Value.bool (rfl)) ?_
        refine Lw.take (dj := 85) rfl rfl ?_
        refine Lw.val (Ex.move rfl) rfl ?_
        refine Lw.take (dj := 85) rfl rfl ?_
        refine Lw.val (Ex.move rfl) rfl ?_
        refine Lw.pass (dj := 87) rfl rfl rfl rfl ?_
        refine Lw.pass (dj := 87) rfl rfl rfl rfl ?_
        refine Lw.pass (dj := 87) rfl rfl rfl rfl ?_
        refine Lw.pass (dj := 87) rfl rfl rfl rfl ?_
        refine Lw.pass (dj := 87) rfl rfl rfl rfl ?_
        refine Lw.pass (dj := 87) rfl rfl rfl rfl ?_
        refine Lw.take (dj := 85) rfl rfl ?_
        refine Lw.val (Ex.pickF rfl rfl) rfl ?_
        refine Lw.val (Ex.pickF rfl rfl) rfl ?_
        refine Lw.nil ?_
        refine Pw.thenN (Cw.out ?_)
        refine Cw.condF rfl ?_
        refine Cw.skip ?_
        refine Pw.thenN (Cw.out ?_)
        refine Cw.seq ?_
        refine Cw.seq ?_
        refine Cw.region ?_
        refine Lw.val (Ex.move rfl) rfl ?_
        refine Lw.val (Ex.not rfl) rfl ?_
        refine Lw.val (Ex.move rfl) rfl ?_
        refine Lw.pass (dj := 98) rfl rfl rfl rfl ?_
        refine Lw.pass (dj := 98) rfl rfl rfl rfl ?_
        refine Lw.val (Ex.pickT rfl rfl) rfl ?_
        refine Lw.val (Ex.move rfl) rfl ?_
        refine Lw.pass (dj := 102) rfl rfl rfl rfl ?_
        refine Lw.pass (dj := 102) rfl rfl rfl rfl ?_
        refine Lw.val (Ex.pickT rfl rfl) rfl ?_
        refine Lw.val (Ex.move rfl) rfl ?_
        refine Lw.pass (dj := 106) rfl rfl rfl rfl ?_
        refine Lw.pass (dj := 106) rfl rfl rfl rfl ?_
        refine Lw.pass (dj := 106) rfl rfl rfl rfl ?_
        refine Lw.val (Ex.pickT rfl rfl) rfl ?_
        refine Lw.nil ?_
        refine Pw.thenN (Cw.out ?_)
        refine Cw.condT rfl ?_
        refine Cw.seq ?_
        refine Cw.region ?_
        refine Lw.val (Ex.move rfl) rfl ?_
        refine Lw.val (Ex.neq rfl rfl) rfl ?_
        refine Lw.nil ?_
        refine Pw.thenN (Cw.out ?_)
        have hvC := hv.bs hB13
        refine Cw.condB rfl false (by rw [x2 (by simp [hno])]; rfl) ?_
        refine Cw.skip ?_
        refine Pw.thenN (Cw.out ?_)
        refine Cw.seq ?_
        refine Cw.seq ?_
        refine Cw.region ?_
        refine Lw.val (Ex.move rfl) rfl ?_
        refine Lw.val (Ex.lenS st_22 rfl (by assumption)) rfl ?_
        refine Lw.val (Ex.eql rfl rfl) rfl ?_
        refine Lw.nil ?_
        refine Pw.thenN (Cw.out ?_)
        refine Cw.cond rfl ?_ ?_
        · intro g
          have g4 : s.length = 4 := by have := of_decide_eq_true g; omega
          refine Cw.seq ?_
          refine Cw.region ?_
          refine Lw.val (Ex.move rfl) rfl ?_
          refine Lw.valW (Xw.append (base := w.heap.size) st_22 it_3 rfl (by decide) rfl rfl (World.ownsRow_nil _ _ _ _) hvC (one_map (fun _ => rfl) _) (by omega) (by omega) (below_size hB13)) rfl ?_
          rintro v14 w14 ⟨ho14, hb14, -⟩
          have hC14 := (hB13).trans hb14
          have hsC := below_size hC14
          refine Lw.valW (Xw.lit (vs := [(1 : Int)].map (Value.int .i64)) st_22 it_3 rfl rfl rfl rfl rfl) rfl ?_
          rintro v15 w15 ⟨ho15, -, hb15, -⟩
          have hC15 := bt hC14 hb15
          refine Lw.valW (Xw.append (base := w.heap.size) st_22 it_3 rfl (by decide) rfl rfl (own_bs ho14 hb15) (own_sl ho15) (one_map (fun _ => rfl) _) (by simp; omega) (by simp; omega) (below_size hC15)) rfl ?_
          rintro v16 w16 ⟨ho16, hb16, -⟩
          have hC16 := hC15.trans hb16
          have hl16 : 0 + s.length + [(1 : Int)].length = (s ++ [1]).length := by simp
          have ht16 : SlT (Value.int .i64) w16 v16 (s ++ [1]) := by unfold SlT; rw [← hl16, List.map_append]; exact own_sl ho16
          refine Lw.callF rfl rfl (check_c v16 (s ++ [1]) w16 ht16) ?_
          rintro _ w17 ⟨rfl, hb17⟩
          rw [one_four g4]
          refine Lw.val (Ex.not rfl) rfl ?_
          refine Lw.val (Ex.assign rfl) rfl ?_
          refine Lw.nil ?_
          refine Pw.thenN (Cw.out ?_)
          refine Cw.ret ?_
          refine Pw.thenR ?_
          refine Pw.ret1 rfl rfl ?_
          exact ⟨rfl, bt hC16 hb17⟩
        · intro g
          have g4 : s.length < 4 := by have := of_decide_eq_false g; omega
          refine Cw.skip ?_
          refine Pw.thenN (Cw.out ?_)
          refine Cw.seq ?_
          refine Cw.region ?_
          refine Lw.val (Ex.move rfl) rfl ?_
          refine Lw.valW (Xw.append (base := w.heap.size) st_22 it_3 rfl (by decide) rfl rfl (World.ownsRow_nil _ _ _ _) hvC (one_map (fun _ => rfl) _) (by omega) (by omega) (below_size hB13)) rfl ?_
          rintro v15 w15 ⟨ho15, hc15, -⟩
          have hC15 := (hB13).trans hc15
          refine Lw.valW (Xw.lit (vs := [(1 : Int)].map (Value.int .i64)) st_22 it_3 rfl rfl rfl rfl rfl) rfl ?_
          rintro v16 w16 ⟨ho16, -, hb16, -⟩
          have hC16 := bt hC15 hb16
          refine Lw.valW (Xw.append (base := w.heap.size) st_22 it_3 rfl (by decide) rfl rfl (own_bs ho15 hb16) (own_sl ho16) (one_map (fun _ => rfl) _) (by simp; omega) (by simp; omega) (below_size hC16)) rfl ?_
          rintro v17 w17 ⟨ho17, hb17, -⟩
          have hC17 := hC16.trans hb17
          have hl17 : 0 + s.length + [(1 : Int)].length = (s ++ [1]).length := by simp
          have ht17 : SlT (Value.int .i64) w17 v17 (s ++ [1]) := by unfold SlT; rw [← hl17, List.map_append]; exact own_sl ho17
          have ha17 := ha.bs hC17
          refine Lw.val (Ex.assign rfl) rfl ?_
          refine Lw.nil ?_
          refine Pw.thenN (Cw.out ?_)
          refine Cw.seq ?_
          refine Cw.region ?_
          refine Lw.val (Ex.move rfl) rfl ?_
          refine Lw.val (Ex.move rfl) rfl ?_
          refine Lw.valW (Xw.append (base := w17.heap.size) st_22 it_3 rfl (by decide) rfl rfl (World.ownsRow_nil _ _ _ _) ha17 (one_map (fun _ => rfl) _) (by omega) (by omega) (Nat.le_refl _)) rfl ?_
          rintro v18 w18 ⟨ho18, hb18, -⟩
          refine Lw.valW (Xw.lit (vs := [(0 : Int)].map (Value.int .i64)) st_22 it_3 rfl rfl rfl rfl rfl) rfl ?_
          rintro v19 w19 ⟨ho19, -, hb19, -⟩
          have hb19' := hb18.trans (hb19.mono (below_size hb18))
          refine Lw.valW (Xw.append (base := w17.heap.size) st_22 it_3 rfl (by decide) rfl rfl (own_bs ho18 hb19) (own_sl ho19) (one_map (fun _ => rfl) _) (by simp; omega) (by simp; omega) (below_size hb19')) rfl ?_
          rintro v20 w20 ⟨ho20, hb20, -⟩
          have hb20' := hb19'.trans hb20
          have hC20 := bt hC17 hb20'
          have hl20 : 0 + t.length + [(0 : Int)].length = (t ++ [0]).length := by simp
          have ht20 : SlT (Value.int .i64) w20 v20 (t ++ [0]) := by unfold SlT; rw [← hl20, List.map_append]; exact own_sl ho20
          have hu20 := ht17.bs hb20'
          refine Lw.callF rfl rfl (index_c (s ++ [1]) (t ++ [0]) v17 v20 w20 hu20 ht20) ?_
          rintro _ w21 ⟨rfl, hb21⟩
          have hC21 := bt hC20 hb21
          rw [one_index hok g4]
          refine Lw.val (Ex.move rfl) rfl ?_
          refine Lw.val (Ex.extract (i := 0) rfl rfl) rfl ?_
          refine Lw.val (Ex.extract (i := 1) rfl rfl) rfl ?_
          refine Lw.val (Ex.assign rfl) rfl ?_
          refine Lw.val (Ex.assign rfl) rfl ?_
          refine Lw.nil ?_
          refine Pw.thenN (Cw.out ?_)
          refine Cw.seq ?_
          refine Cw.region ?_
          refine Lw.val (Ex.move rfl) rfl ?_
          refine Lw.callF rfl rfl (size_c v17 (s ++ [1]) w21 (hu20.bs hb21)) ?_
          rintro _ w22 ⟨rfl, hb22⟩
          rw [(one_ok hok g4).2]
          refine Lw.val (Ex.move rfl) rfl ?_
          refine Lw.val (Ex.eql rfl rfl) rfl ?_
          refine Lw.val (Ex.move rfl) rfl ?_
          refine Lw.know 150 (v' := .bool true) rfl (congrArg Value.bool (by simp)) ?_
          refine Lw.take (dj := 150) rfl rfl ?_
          refine Lw.val (Ex.move rfl) rfl ?_
          refine Lw.take (dj := 150) rfl rfl ?_
          refine Lw.val (Ex.move rfl) rfl ?_
          refine Lw.take (dj := 150) rfl rfl ?_
          refine Lw.val (Ex.eql rfl rfl) rfl ?_
          refine Lw.val (Ex.pickT rfl rfl) rfl ?_
          refine Lw.val (Ex.move rfl) rfl ?_
          refine Lw.know 155 (v' := .bool true) rfl (congrArg Value.bool (by simp)) ?_
          refine Lw.take (dj := 155) rfl rfl ?_
          refine Lw.val (Ex.move rfl) rfl ?_
          refine Lw.take (dj := 155) rfl rfl ?_
          refine Lw.val (Ex.move rfl) rfl ?_
          refine Lw.take (dj := 155) rfl rfl ?_
          refine Lw.val (Ex.eql rfl rfl) rfl ?_
          refine Lw.val (Ex.pickT rfl rfl) rfl ?_
          refine Lw.val (Ex.assign rfl) rfl ?_
          refine Lw.nil ?_
          refine Pw.thenN (Cw.out ?_)
          refine Cw.ret ?_
          refine Pw.ret1 rfl rfl ?_
          exact ⟨congrArg Value.bool (by simp), bt hC21 hb22⟩
    · intro g2
      have hno : fits s m = false := by simp [fits]; simp at g2; omega
      rw [hno] at f1
      refine Lw.pass (dj := 71) rfl rfl rfl rfl ?_
      refine Lw.pass (dj := 71) rfl rfl rfl rfl ?_
      refine Lw.val (Ex.pickF rfl rfl) rfl ?_
      refine Lw.val (Ex.move rfl) rfl ?_
      refine Lw.pass (dj := 75) rfl rfl rfl rfl ?_
      refine Lw.pass (dj := 75) rfl rfl rfl rfl ?_
      refine Lw.pass (dj := 75) rfl rfl rfl rfl ?_
      refine Lw.pass (dj := 75) rfl rfl rfl rfl ?_
      refine Lw.val (Ex.pickF rfl rfl) rfl ?_
      refine Lw.val (Ex.assign rfl) rfl ?_
      refine Lw.nil ?_
      refine Pw.thenN (Cw.out ?_)
      refine Cw.seq ?_
      refine Cw.seq ?_
      refine Cw.region ?_
      refine Lw.val (Ex.move rfl) rfl ?_
      refine Lw.callF rfl rfl (check_c v8 (m :: s) w12 ht12) ?_
      rintro _ w13 ⟨rfl, hb13⟩
      have hB13 := bt hB12 hb13
      rw [f1]
      refine Lw.val (Ex.move rfl) rfl ?_
      refine Lw.val (Ex.neqB un_4 rfl rfl) rfl ?_
      refine Lw.val (Ex.move rfl) rfl ?_
      refine Lw.know 85 (v' := .bool false) rfl (congrArg Value.bool (rfl)) ?_
      refine Lw.take (dj := 85) rfl rfl ?_
      refine Lw.val (Ex.move rfl) rfl ?_
      refine Lw.take (dj := 85) rfl rfl ?_
      refine Lw.val (Ex.move rfl) rfl ?_
      refine Lw.pass (dj := 87) rfl rfl rfl rfl ?_
      refine Lw.pass (dj := 87) rfl rfl rfl rfl ?_
      refine Lw.pass (dj := 87) rfl rfl rfl rfl ?_
      refine Lw.pass (dj := 87) rfl rfl rfl rfl ?_
      refine Lw.pass (dj := 87) rfl rfl rfl rfl ?_
      refine Lw.pass (dj := 87) rfl rfl rfl rfl ?_
      refine Lw.take (dj := 85) rfl rfl ?_
      refine Lw.val (Ex.pickF rfl rfl) rfl ?_
      refine Lw.val (Ex.pickF rfl rfl) rfl ?_
      refine Lw.nil ?_
      refine Pw.thenN (Cw.out ?_)
      refine Cw.condF rfl ?_
      refine Cw.skip ?_
      refine Pw.thenN (Cw.out ?_)
      refine Cw.seq ?_
      refine Cw.seq ?_
      refine Cw.region ?_
      refine Lw.val (Ex.move rfl) rfl ?_
      refine Lw.val (Ex.not rfl) rfl ?_
      refine Lw.val (Ex.move rfl) rfl ?_
      refine Lw.pass (dj := 98) rfl rfl rfl rfl ?_
      refine Lw.pass (dj := 98) rfl rfl rfl rfl ?_
      refine Lw.val (Ex.pickT rfl rfl) rfl ?_
      refine Lw.val (Ex.move rfl) rfl ?_
      refine Lw.pass (dj := 102) rfl rfl rfl rfl ?_
      refine Lw.pass (dj := 102) rfl rfl rfl rfl ?_
      refine Lw.val (Ex.pickT rfl rfl) rfl ?_
      refine Lw.val (Ex.move rfl) rfl ?_
      refine Lw.pass (dj := 106) rfl rfl rfl rfl ?_
      refine Lw.pass (dj := 106) rfl rfl rfl rfl ?_
      refine Lw.pass (dj := 106) rfl rfl rfl rfl ?_
      refine Lw.val (Ex.pickT rfl rfl) rfl ?_
      refine Lw.nil ?_
      refine Pw.thenN (Cw.out ?_)
      refine Cw.condT rfl ?_
      refine Cw.seq ?_
      refine Cw.region ?_
      refine Lw.val (Ex.move rfl) rfl ?_
      refine Lw.val (Ex.neq rfl rfl) rfl ?_
      refine Lw.nil ?_
      refine Pw.thenN (Cw.out ?_)
      have hvC := hv.bs hB13
      refine Cw.condB rfl false (by rw [x2 (by simp [hno])]; rfl) ?_
      refine Cw.skip ?_
      refine Pw.thenN (Cw.out ?_)
      refine Cw.seq ?_
      refine Cw.seq ?_
      refine Cw.region ?_
      refine Lw.val (Ex.move rfl) rfl ?_
      refine Lw.val (Ex.lenS st_22 rfl (by assumption)) rfl ?_
      refine Lw.val (Ex.eql rfl rfl) rfl ?_
      refine Lw.nil ?_
      refine Pw.thenN (Cw.out ?_)
      refine Cw.cond rfl ?_ ?_
      · intro g
        have g4 : s.length = 4 := by have := of_decide_eq_true g; omega
        refine Cw.seq ?_
        refine Cw.region ?_
        refine Lw.val (Ex.move rfl) rfl ?_
        refine Lw.valW (Xw.append (base := w.heap.size) st_22 it_3 rfl (by decide) rfl rfl (World.ownsRow_nil _ _ _ _) hvC (one_map (fun _ => rfl) _) (by omega) (by omega) (below_size hB13)) rfl ?_
        rintro v14 w14 ⟨ho14, hb14, -⟩
        have hC14 := (hB13).trans hb14
        have hsC := below_size hC14
        refine Lw.valW (Xw.lit (vs := [(1 : Int)].map (Value.int .i64)) st_22 it_3 rfl rfl rfl rfl rfl) rfl ?_
        rintro v15 w15 ⟨ho15, -, hb15, -⟩
        have hC15 := bt hC14 hb15
        refine Lw.valW (Xw.append (base := w.heap.size) st_22 it_3 rfl (by decide) rfl rfl (own_bs ho14 hb15) (own_sl ho15) (one_map (fun _ => rfl) _) (by simp; omega) (by simp; omega) (below_size hC15)) rfl ?_
        rintro v16 w16 ⟨ho16, hb16, -⟩
        have hC16 := hC15.trans hb16
        have hl16 : 0 + s.length + [(1 : Int)].length = (s ++ [1]).length := by simp
        have ht16 : SlT (Value.int .i64) w16 v16 (s ++ [1]) := by unfold SlT; rw [← hl16, List.map_append]; exact own_sl ho16
        refine Lw.callF rfl rfl (check_c v16 (s ++ [1]) w16 ht16) ?_
        rintro _ w17 ⟨rfl, hb17⟩
        rw [one_four g4]
        refine Lw.val (Ex.not rfl) rfl ?_
        refine Lw.val (Ex.assign rfl) rfl ?_
        refine Lw.nil ?_
        refine Pw.thenN (Cw.out ?_)
        refine Cw.ret ?_
        refine Pw.thenR ?_
        refine Pw.ret1 rfl rfl ?_
        exact ⟨rfl, bt hC16 hb17⟩
      · intro g
        have g4 : s.length < 4 := by have := of_decide_eq_false g; omega
        refine Cw.skip ?_
        refine Pw.thenN (Cw.out ?_)
        refine Cw.seq ?_
        refine Cw.region ?_
        refine Lw.val (Ex.move rfl) rfl ?_
        refine Lw.valW (Xw.append (base := w.heap.size) st_22 it_3 rfl (by decide) rfl rfl (World.ownsRow_nil _ _ _ _) hvC (one_map (fun _ => rfl) _) (by omega) (by omega) (below_size hB13)) rfl ?_
        rintro v15 w15 ⟨ho15, hc15, -⟩
        have hC15 := (hB13).trans hc15
        refine Lw.valW (Xw.lit (vs := [(1 : Int)].map (Value.int .i64)) st_22 it_3 rfl rfl rfl rfl rfl) rfl ?_
        rintro v16 w16 ⟨ho16, -, hb16, -⟩
        have hC16 := bt hC15 hb16
        refine Lw.valW (Xw.append (base := w.heap.size) st_22 it_3 rfl (by decide) rfl rfl (own_bs ho15 hb16) (own_sl ho16) (one_map (fun _ => rfl) _) (by simp; omega) (by simp; omega) (below_size hC16)) rfl ?_
        rintro v17 w17 ⟨ho17, hb17, -⟩
        have hC17 := hC16.trans hb17
        have hl17 : 0 + s.length + [(1 : Int)].length = (s ++ [1]).length := by simp
        have ht17 : SlT (Value.int .i64) w17 v17 (s ++ [1]) := by unfold SlT; rw [← hl17, List.map_append]; exact own_sl ho17
        have ha17 := ha.bs hC17
        refine Lw.val (Ex.assign rfl) rfl ?_
        refine Lw.nil ?_
        refine Pw.thenN (Cw.out ?_)
        refine Cw.seq ?_
        refine Cw.region ?_
        refine Lw.val (Ex.move rfl) rfl ?_
        refine Lw.val (Ex.move rfl) rfl ?_
        refine Lw.valW (Xw.append (base := w17.heap.size) st_22 it_3 rfl (by decide) rfl rfl (World.ownsRow_nil _ _ _ _) ha17 (one_map (fun _ => rfl) _) (by omega) (by omega) (Nat.le_refl _)) rfl ?_
        rintro v18 w18 ⟨ho18, hb18, -⟩
        refine Lw.valW (Xw.lit (vs := [(0 : Int)].map (Value.int .i64)) st_22 it_3 rfl rfl rfl rfl rfl) rfl ?_
        rintro v19 w19 ⟨ho19, -, hb19, -⟩
        have hb19' := hb18.trans (hb19.mono (below_size hb18))
        refine Lw.valW (Xw.append (base := w17.heap.size) st_22 it_3 rfl (by decide) rfl rfl (own_bs ho18 hb19) (own_sl ho19) (one_map (fun _ => rfl) _) (by simp; omega) (by simp; omega) (below_size hb19')) rfl ?_
        rintro v20 w20 ⟨ho20, hb20, -⟩
        have hb20' := hb19'.trans hb20
        have hC20 := bt hC17 hb20'
        have hl20 : 0 + t.length + [(0 : Int)].length = (t ++ [0]).length := by simp
        have ht20 : SlT (Value.int .i64) w20 v20 (t ++ [0]) := by unfold SlT; rw [← hl20, List.map_append]; exact own_sl ho20
        have hu20 := ht17.bs hb20'
        refine Lw.callF rfl rfl (index_c (s ++ [1]) (t ++ [0]) v17 v20 w20 hu20 ht20) ?_
        rintro _ w21 ⟨rfl, hb21⟩
        have hC21 := bt hC20 hb21
        rw [one_index hok g4]
        refine Lw.val (Ex.move rfl) rfl ?_
        refine Lw.val (Ex.extract (i := 0) rfl rfl) rfl ?_
        refine Lw.val (Ex.extract (i := 1) rfl rfl) rfl ?_
        refine Lw.val (Ex.assign rfl) rfl ?_
        refine Lw.val (Ex.assign rfl) rfl ?_
        refine Lw.nil ?_
        refine Pw.thenN (Cw.out ?_)
        refine Cw.seq ?_
        refine Cw.region ?_
        refine Lw.val (Ex.move rfl) rfl ?_
        refine Lw.callF rfl rfl (size_c v17 (s ++ [1]) w21 (hu20.bs hb21)) ?_
        rintro _ w22 ⟨rfl, hb22⟩
        rw [(one_ok hok g4).2]
        refine Lw.val (Ex.move rfl) rfl ?_
        refine Lw.val (Ex.eql rfl rfl) rfl ?_
        refine Lw.val (Ex.move rfl) rfl ?_
        refine Lw.know 150 (v' := .bool true) rfl (congrArg Value.bool (by simp)) ?_
        refine Lw.take (dj := 150) rfl rfl ?_
        refine Lw.val (Ex.move rfl) rfl ?_
        refine Lw.take (dj := 150) rfl rfl ?_
        refine Lw.val (Ex.move rfl) rfl ?_
        refine Lw.take (dj := 150) rfl rfl ?_
        refine Lw.val (Ex.eql rfl rfl) rfl ?_
        refine Lw.val (Ex.pickT rfl rfl) rfl ?_
        refine Lw.val (Ex.move rfl) rfl ?_
        refine Lw.know 155 (v' := .bool true) rfl (congrArg Value.bool (by simp)) ?_
        refine Lw.take (dj := 155) rfl rfl ?_
        refine Lw.val (Ex.move rfl) rfl ?_
        refine Lw.take (dj := 155) rfl rfl ?_
        refine Lw.val (Ex.move rfl) rfl ?_
        refine Lw.take (dj := 155) rfl rfl ?_
        refine Lw.val (Ex.eql rfl rfl) rfl ?_
        refine Lw.val (Ex.pickT rfl rfl) rfl ?_
        refine Lw.val (Ex.assign rfl) rfl ?_
        refine Lw.nil ?_
        refine Pw.thenN (Cw.out ?_)
        refine Cw.ret ?_
        refine Pw.ret1 rfl rfl ?_
        exact ⟨congrArg Value.bool (by simp), bt hC21 hb22⟩
  · intro g1
    have hno : fits s m = false := by simp [fits]; simp at g1; omega
    rw [hno] at f1
    refine Lw.pass (dj := 67) rfl rfl rfl rfl ?_
    refine Lw.pass (dj := 67) rfl rfl rfl rfl ?_
    refine Lw.val (Ex.pickF rfl rfl) rfl ?_
    refine Lw.val (Ex.move rfl) rfl ?_
    refine Lw.pass (dj := 71) rfl rfl rfl rfl ?_
    refine Lw.pass (dj := 71) rfl rfl rfl rfl ?_
    refine Lw.val (Ex.pickF rfl rfl) rfl ?_
    refine Lw.val (Ex.move rfl) rfl ?_
    refine Lw.pass (dj := 75) rfl rfl rfl rfl ?_
    refine Lw.pass (dj := 75) rfl rfl rfl rfl ?_
    refine Lw.pass (dj := 75) rfl rfl rfl rfl ?_
    refine Lw.pass (dj := 75) rfl rfl rfl rfl ?_
    refine Lw.val (Ex.pickF rfl rfl) rfl ?_
    refine Lw.val (Ex.assign rfl) rfl ?_
    refine Lw.nil ?_
    refine Pw.thenN (Cw.out ?_)
    refine Cw.seq ?_
    refine Cw.seq ?_
    refine Cw.region ?_
    refine Lw.val (Ex.move rfl) rfl ?_
    refine Lw.callF rfl rfl (check_c v8 (m :: s) w12 ht12) ?_
    rintro _ w13 ⟨rfl, hb13⟩
    have hB13 := bt hB12 hb13
    rw [f1]
    refine Lw.val (Ex.move rfl) rfl ?_
    refine Lw.val (Ex.neqB un_4 rfl rfl) rfl ?_
    refine Lw.val (Ex.move rfl) rfl ?_
    refine Lw.know 85 (v' := .bool false) rfl (congrArg Value.bool (rfl)) ?_
    refine Lw.take (dj := 85) rfl rfl ?_
    refine Lw.val (Ex.move rfl) rfl ?_
    refine Lw.take (dj := 85) rfl rfl ?_
    refine Lw.val (Ex.move rfl) rfl ?_
    refine Lw.pass (dj := 87) rfl rfl rfl rfl ?_
    refine Lw.pass (dj := 87) rfl rfl rfl rfl ?_
    refine Lw.pass (dj := 87) rfl rfl rfl rfl ?_
    refine Lw.pass (dj := 87) rfl rfl rfl rfl ?_
    refine Lw.pass (dj := 87) rfl rfl rfl rfl ?_
    refine Lw.pass (dj := 87) rfl rfl rfl rfl ?_
    refine Lw.take (dj := 85) rfl rfl ?_
    refine Lw.val (Ex.pickF rfl rfl) rfl ?_
    refine Lw.val (Ex.pickF rfl rfl) rfl ?_
    refine Lw.nil ?_
    refine Pw.thenN (Cw.out ?_)
    refine Cw.condF rfl ?_
    refine Cw.skip ?_
    refine Pw.thenN (Cw.out ?_)
    refine Cw.seq ?_
    refine Cw.seq ?_
    refine Cw.region ?_
    refine Lw.val (Ex.move rfl) rfl ?_
    refine Lw.val (Ex.not rfl) rfl ?_
    refine Lw.val (Ex.move rfl) rfl ?_
    refine Lw.pass (dj := 98) rfl rfl rfl rfl ?_
    refine Lw.pass (dj := 98) rfl rfl rfl rfl ?_
    refine Lw.val (Ex.pickT rfl rfl) rfl ?_
    refine Lw.val (Ex.move rfl) rfl ?_
    refine Lw.pass (dj := 102) rfl rfl rfl rfl ?_
    refine Lw.pass (dj := 102) rfl rfl rfl rfl ?_
    refine Lw.val (Ex.pickT rfl rfl) rfl ?_
    refine Lw.val (Ex.move rfl) rfl ?_
    refine Lw.pass (dj := 106) rfl rfl rfl rfl ?_
    refine Lw.pass (dj := 106) rfl rfl rfl rfl ?_
    refine Lw.pass (dj := 106) rfl rfl rfl rfl ?_
    refine Lw.val (Ex.pickT rfl rfl) rfl ?_
    refine Lw.nil ?_
    refine Pw.thenN (Cw.out ?_)
    refine Cw.condT rfl ?_
    refine Cw.seq ?_
    refine Cw.region ?_
    refine Lw.val (Ex.move rfl) rfl ?_
    refine Lw.val (Ex.neq rfl rfl) rfl ?_
    refine Lw.nil ?_
    refine Pw.thenN (Cw.out ?_)
    have hvC := hv.bs hB13
    refine Cw.condB rfl false (by rw [x2 (by simp [hno])]; rfl) ?_
    refine Cw.skip ?_
    refine Pw.thenN (Cw.out ?_)
    refine Cw.seq ?_
    refine Cw.seq ?_
    refine Cw.region ?_
    refine Lw.val (Ex.move rfl) rfl ?_
    refine Lw.val (Ex.lenS st_22 rfl (by assumption)) rfl ?_
    refine Lw.val (Ex.eql rfl rfl) rfl ?_
    refine Lw.nil ?_
    refine Pw.thenN (Cw.out ?_)
    refine Cw.cond rfl ?_ ?_
    · intro g
      have g4 : s.length = 4 := by have := of_decide_eq_true g; omega
      refine Cw.seq ?_
      refine Cw.region ?_
      refine Lw.val (Ex.move rfl) rfl ?_
      refine Lw.valW (Xw.append (base := w.heap.size) st_22 it_3 rfl (by decide) rfl rfl (World.ownsRow_nil _ _ _ _) hvC (one_map (fun _ => rfl) _) (by omega) (by omega) (below_size hB13)) rfl ?_
      rintro v14 w14 ⟨ho14, hb14, -⟩
      have hC14 := (hB13).trans hb14
      have hsC := below_size hC14
      refine Lw.valW (Xw.lit (vs := [(1 : Int)].map (Value.int .i64)) st_22 it_3 rfl rfl rfl rfl rfl) rfl ?_
      rintro v15 w15 ⟨ho15, -, hb15, -⟩
      have hC15 := bt hC14 hb15
      refine Lw.valW (Xw.append (base := w.heap.size) st_22 it_3 rfl (by decide) rfl rfl (own_bs ho14 hb15) (own_sl ho15) (one_map (fun _ => rfl) _) (by simp; omega) (by simp; omega) (below_size hC15)) rfl ?_
      rintro v16 w16 ⟨ho16, hb16, -⟩
      have hC16 := hC15.trans hb16
      have hl16 : 0 + s.length + [(1 : Int)].length = (s ++ [1]).length := by simp
      have ht16 : SlT (Value.int .i64) w16 v16 (s ++ [1]) := by unfold SlT; rw [← hl16, List.map_append]; exact own_sl ho16
      refine Lw.callF rfl rfl (check_c v16 (s ++ [1]) w16 ht16) ?_
      rintro _ w17 ⟨rfl, hb17⟩
      rw [one_four g4]
      refine Lw.val (Ex.not rfl) rfl ?_
      refine Lw.val (Ex.assign rfl) rfl ?_
      refine Lw.nil ?_
      refine Pw.thenN (Cw.out ?_)
      refine Cw.ret ?_
      refine Pw.thenR ?_
      refine Pw.ret1 rfl rfl ?_
      exact ⟨rfl, bt hC16 hb17⟩
    · intro g
      have g4 : s.length < 4 := by have := of_decide_eq_false g; omega
      refine Cw.skip ?_
      refine Pw.thenN (Cw.out ?_)
      refine Cw.seq ?_
      refine Cw.region ?_
      refine Lw.val (Ex.move rfl) rfl ?_
      refine Lw.valW (Xw.append (base := w.heap.size) st_22 it_3 rfl (by decide) rfl rfl (World.ownsRow_nil _ _ _ _) hvC (one_map (fun _ => rfl) _) (by omega) (by omega) (below_size hB13)) rfl ?_
      rintro v15 w15 ⟨ho15, hc15, -⟩
      have hC15 := (hB13).trans hc15
      refine Lw.valW (Xw.lit (vs := [(1 : Int)].map (Value.int .i64)) st_22 it_3 rfl rfl rfl rfl rfl) rfl ?_
      rintro v16 w16 ⟨ho16, -, hb16, -⟩
      have hC16 := bt hC15 hb16
      refine Lw.valW (Xw.append (base := w.heap.size) st_22 it_3 rfl (by decide) rfl rfl (own_bs ho15 hb16) (own_sl ho16) (one_map (fun _ => rfl) _) (by simp; omega) (by simp; omega) (below_size hC16)) rfl ?_
      rintro v17 w17 ⟨ho17, hb17, -⟩
      have hC17 := hC16.trans hb17
      have hl17 : 0 + s.length + [(1 : Int)].length = (s ++ [1]).length := by simp
      have ht17 : SlT (Value.int .i64) w17 v17 (s ++ [1]) := by unfold SlT; rw [← hl17, List.map_append]; exact own_sl ho17
      have ha17 := ha.bs hC17
      refine Lw.val (Ex.assign rfl) rfl ?_
      refine Lw.nil ?_
      refine Pw.thenN (Cw.out ?_)
      refine Cw.seq ?_
      refine Cw.region ?_
      refine Lw.val (Ex.move rfl) rfl ?_
      refine Lw.val (Ex.move rfl) rfl ?_
      refine Lw.valW (Xw.append (base := w17.heap.size) st_22 it_3 rfl (by decide) rfl rfl (World.ownsRow_nil _ _ _ _) ha17 (one_map (fun _ => rfl) _) (by omega) (by omega) (Nat.le_refl _)) rfl ?_
      rintro v18 w18 ⟨ho18, hb18, -⟩
      refine Lw.valW (Xw.lit (vs := [(0 : Int)].map (Value.int .i64)) st_22 it_3 rfl rfl rfl rfl rfl) rfl ?_
      rintro v19 w19 ⟨ho19, -, hb19, -⟩
      have hb19' := hb18.trans (hb19.mono (below_size hb18))
      refine Lw.valW (Xw.append (base := w17.heap.size) st_22 it_3 rfl (by decide) rfl rfl (own_bs ho18 hb19) (own_sl ho19) (one_map (fun _ => rfl) _) (by simp; omega) (by simp; omega) (below_size hb19')) rfl ?_
      rintro v20 w20 ⟨ho20, hb20, -⟩
      have hb20' := hb19'.trans hb20
      have hC20 := bt hC17 hb20'
      have hl20 : 0 + t.length + [(0 : Int)].length = (t ++ [0]).length := by simp
      have ht20 : SlT (Value.int .i64) w20 v20 (t ++ [0]) := by unfold SlT; rw [← hl20, List.map_append]; exact own_sl ho20
      have hu20 := ht17.bs hb20'
      refine Lw.callF rfl rfl (index_c (s ++ [1]) (t ++ [0]) v17 v20 w20 hu20 ht20) ?_
      rintro _ w21 ⟨rfl, hb21⟩
      have hC21 := bt hC20 hb21
      rw [one_index hok g4]
      refine Lw.val (Ex.move rfl) rfl ?_
      refine Lw.val (Ex.extract (i := 0) rfl rfl) rfl ?_
      refine Lw.val (Ex.extract (i := 1) rfl rfl) rfl ?_
      refine Lw.val (Ex.assign rfl) rfl ?_
      refine Lw.val (Ex.assign rfl) rfl ?_
      refine Lw.nil ?_
      refine Pw.thenN (Cw.out ?_)
      refine Cw.seq ?_
      refine Cw.region ?_
      refine Lw.val (Ex.move rfl) rfl ?_
      refine Lw.callF rfl rfl (size_c v17 (s ++ [1]) w21 (hu20.bs hb21)) ?_
      rintro _ w22 ⟨rfl, hb22⟩
      rw [(one_ok hok g4).2]
      refine Lw.val (Ex.move rfl) rfl ?_
      refine Lw.val (Ex.eql rfl rfl) rfl ?_
      refine Lw.val (Ex.move rfl) rfl ?_
      refine Lw.know 150 (v' := .bool true) rfl (congrArg Value.bool (by simp)) ?_
      refine Lw.take (dj := 150) rfl rfl ?_
      refine Lw.val (Ex.move rfl) rfl ?_
      refine Lw.take (dj := 150) rfl rfl ?_
      refine Lw.val (Ex.move rfl) rfl ?_
      refine Lw.take (dj := 150) rfl rfl ?_
      refine Lw.val (Ex.eql rfl rfl) rfl ?_
      refine Lw.val (Ex.pickT rfl rfl) rfl ?_
      refine Lw.val (Ex.move rfl) rfl ?_
      refine Lw.know 155 (v' := .bool true) rfl (congrArg Value.bool (by simp)) ?_
      refine Lw.take (dj := 155) rfl rfl ?_
      refine Lw.val (Ex.move rfl) rfl ?_
      refine Lw.take (dj := 155) rfl rfl ?_
      refine Lw.val (Ex.move rfl) rfl ?_
      refine Lw.take (dj := 155) rfl rfl ?_
      refine Lw.val (Ex.eql rfl rfl) rfl ?_
      refine Lw.val (Ex.pickT rfl rfl) rfl ?_
      refine Lw.val (Ex.assign rfl) rfl ?_
      refine Lw.nil ?_
      refine Pw.thenN (Cw.out ?_)
      refine Cw.ret ?_
      refine Pw.ret1 rfl rfl ?_
      exact ⟨congrArg Value.bool (by simp), bt hC21 hb22⟩

set_option maxRecDepth 100000 in
theorem shapesMore_lifted (os : Os) (started : os.Started) (H : Type) (enc : TypeId × Value → H) :
    ReturnsInHanded {} Try.checked os 4 .any (Rows.shapesMoreSpec.pre6 enc Try.prog Try.f4 Rows.shapesMoreRow.domain false) (Rows.shapesMoreSpec.post enc Try.prog Try.f4 false true false false) := by
  refine returnsInHanded_of_change_sized (C := Try.checked) own started (by kernel_rfl) Try.func4
    (ChangeSpec.witness6 (enc := enc) (C := Try.checked) false ⟨#[], #[.slice none 0 0, .slice none 0 0, .agg #[.int .i64 0, .int .i64 0]], []⟩ 8 (by kernel_rfl) (by kernel_rfl) (by kernel_rfl) (by kernel_rfl)) ?_
  intro W base args ds gs before hval0 hW hcnd hsz0 _
  have hval : ∀ (j : Nat) t v, Try.f4.params[j]? = some t → args[j]? = some v → Value.okWide Try.prog W .any base t v := hval0
  have hW' := hW
  obtain ⟨p, q, hA0, hV, rfl, hfz, hnd⟩ := hW
  have hA : DataW.TrodAll enc Try.prog W 0 (fun _ => true) true Try.f4.params.toList args.toList ds p := hA0
  have hsz : (DataW.weightsEach Try.prog (Try.f4.params.toList ++ Rows.shapesMoreSpec.plain.varTypes Try.prog) (ds ++ gs)).all (· ≤ reachBytes) = true := hsz0
  rw [Try.params4] at hA hval hsz
  obtain ⟨v0, vs0, d0, ds0, p0, q0, hargs, rfl, rfl, h0, r0⟩ := trodAll_cons hA
  obtain ⟨v1, vs1, d1, ds1, p1, q1, rfl, rfl, rfl, h1, r1⟩ := trodAll_cons r0
  obtain ⟨v2, vs2, d2, ds2, p2, q2, rfl, rfl, rfl, h2, r2⟩ := trodAll_cons r1
  obtain ⟨rfl, rfl, rfl⟩ := trodAll_nil r2
  obtain rfl : args = #[v0, v1, v2] := by cases args; simp_all
  obtain ⟨rfl, rfl⟩ := trodVars_none hV
  have k0 := h0
  have lt0 : ∀ x ∈ p0, x.block < W.heap.size := by obtain ⟨m, hm⟩ := k0; exact DataW.trod_lt m _ _ _ hm
  have i0 := in_of (j := 0) (t := 22) hsz rfl rfl h0
  have o0 := hval 0 22 v0 rfl rfl
  have k1 := h1
  have lt1 : ∀ x ∈ p1, x.block < W.heap.size := by obtain ⟨m, hm⟩ := k1; exact DataW.trod_lt m _ _ _ hm
  have i1 := in_of (j := 1) (t := 22) hsz rfl rfl h1
  have o1 := hval 1 22 v1 rfl rfl
  have k2 := h2
  have lt2 : ∀ x ∈ p2, x.block < W.heap.size := by obtain ⟨m, hm⟩ := k2; exact DataW.trod_lt m _ _ _ hm
  have i2 := in_of (j := 2) (t := 33) hsz rfl rfl h2
  have o2 := hval 2 33 v2 rfl rfl
  clear hA0 hval0 hsz0 hsz
  obtain ⟨l, hl, -⟩ := arg_slT un_22 (by kernel_rfl) (fun cs h => (In.int un_3 h).imp fun _ h => h.1) o0 i0
  obtain ⟨m, hm, -⟩ := arg_slT un_22 (by kernel_rfl) (fun cs h => (In.int un_3 h).imp fun _ h => h.1) o1 i1
  obtain ⟨cs, rfl, hin⟩ := arg_struct Try.underlying33 o2 i2
  obtain ⟨hlen, hel⟩ := hin.struct Try.underlying33
  have c2 : Try.prog.cellsOf 33 = 2 := by kernel_rfl
  have c1 : Try.prog.cellsOf 3 = 1 := by kernel_rfl
  rw [c2] at hlen
  obtain ⟨a, b, rfl⟩ := len2 hlen
  obtain ⟨x, e0, -⟩ := (hel 0 _ rfl).int un_3
  obtain ⟨y, e1, -⟩ := (hel 1 _ rfl).int un_3
  simp [c1] at e0 e1
  subst e0 e1
  refine (law_calls (shapesMore_w v0 v1 l m x y W hl hm)).mono fun e W' ⟨he, bel⟩ => ?_
  subst he
  exact ⟨_, rfl, _, _, _, [], _, [], hW', trodAll_mk1 (shut_bool un_4 _), (trodAll_cons_mk (Below.trod laidOut (by kernel_rfl) (of_decide_eq_true (by kernel_rfl)) k0 bel lt0) (trodAll_cons_mk (Below.trod laidOut (by kernel_rfl) (of_decide_eq_true (by kernel_rfl)) k1 bel lt1) (trodAll_cons_mk (Below.trod laidOut (by kernel_rfl) (of_decide_eq_true (by kernel_rfl)) k2 bel lt2) trodAll_mk0))), rfl, bel.frame _, fun h => by cases h⟩

/-- The statement. -/
theorem shapesMore_proved : Rows.ShapesMoreSaid :=
  OpenClaim.holds_of_wide 4 Try.f4 rfl rfl rfl rfl rfl rfl rfl ⟨rfl, rfl, rfl, rfl, rfl⟩ rfl rfl rfl rfl rfl (by kernel_rfl) Try.func4 (by kernel_rfl)
    (of_decide_eq_true (by kernel_rfl)) (by unfold Func.isWrapper; first | (rw [if_pos (by decide +kernel)]; kernel_rfl) | (rw [if_neg (by decide +kernel)]; exact ⟨rfl, rfl⟩))
    (fun os started H enc _ => shapesMore_lifted os started H enc)
#print axioms shapesMore_proved
end Go.Proofs.Ytaliinkmeokonaa
