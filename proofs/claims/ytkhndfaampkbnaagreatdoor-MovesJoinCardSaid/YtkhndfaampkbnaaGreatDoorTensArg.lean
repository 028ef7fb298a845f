/- A list of tensors as a statement's argument; how great it is. -/
import Derived.Test.YtkhndfaampkbnaaGreatDoorMovesJoin
import Derived.Test.YtkhndfaampkbnaaGreatDoorTensorsArg
import Derived.Test.YtkhndfaampkbnaaGreatDoorTensorsLaw
import Derived.Test.YtkhndfaampkbnaaGreatDoorOpen
namespace Go.Proofs.YtkhndfaampkbnaaGreatDoor
open Go Go.Dd Go.RowKit Go.ChangeShapes Go.WideShapes
set_option maxRecDepth 100000

def fewT (a : T4) : Prop := a.s.length ≤ 1125899906842624 ∧ a.l.length ≤ 1125899906842624
theorem tens_of {H : Type} {enc : TypeId × Value → H} {w : World} : ∀ {n : Nat} {xs : List Value}, xs.length = n * 2 → (∀ i, i < n → In enc Tryz.prog w 29 ((xs.drop (i * 2)).take 2)) →
    ∃ ts : List T4, ts.length = n ∧ cellsOf ts = xs ∧ ∀ t ∈ ts, t.at w ∧ fewT t
  | 0, xs, hl, _ => by
    obtain rfl : xs = [] := List.eq_nil_of_length_eq_zero (by omega)
    exact ⟨[], rfl, rfl, fun t ht => by simp at ht⟩
  | n + 1, [], hl, _ => by simp at hl
  | n + 1, [_], hl, _ => by simp at hl; omega
  | n + 1, x :: y :: xs, hl, h => by
    obtain ⟨a, ea, ha, b1, b2⟩ := in_ten (h 0 (by omega))
    obtain ⟨ts, h1, h2, h3⟩ := tens_of (n := n) (xs := xs) (by simp at hl; omega) fun i hi => by
      have := h (i + 1) (by omega)
      rw [show (i + 1) * 2 = i * 2 + 1 + 1 by omega] at this
      simpa using this
    simp at ea
    refine ⟨a :: ts, by simp [h1], by rw [cellsOf, h2, ea.1, ea.2], fun t ht => ?_⟩
    rcases List.mem_cons.1 ht with rfl | ht
    · exact ⟨ha, by omega, by omega⟩
    · exact h3 t ht
theorem in_tens {H : Type} {enc : TypeId × Value → H} {w : World} {cs : List Value} (h : In enc Tryz.prog w 22 cs) : ∃ v, cs = [v] ∧ ∃ ts : List T4, Tens w v ts ∧ ts.length ≤ 1125899906842624 ∧ ∀ t ∈ ts, fewT t := by
  obtain ⟨v, n, xs, e, hs, hb, hi⟩ := h.slice un_22 (sz := 2) (by kernel_rfl)
  obtain ⟨ts, h1, h2, h3⟩ := tens_of hs.len hi
  subst h1 h2
  have hr : reachBytes ≤ 140737488355328 := by decide
  have kb : Tryz.prog.bytesOf 29 = 48 := by kernel_rfl
  rw [kb] at hb
  exact ⟨v, e, ts, ⟨hs, fun t ht => (h3 t ht).1⟩, by omega, fun t ht => (h3 t ht).2⟩
theorem arg_tens {H : Type} {enc : TypeId × Value → H} {w : World} {base : Nat} {v : Value} (ho : Value.okWide Tryz.prog w .any base 22 v) (h : In enc Tryz.prog w 22 v.cells.toList) :
    ∃ ts : List T4, Tens w v ts ∧ ts.length ≤ 1125899906842624 ∧ ∀ t ∈ ts, fewT t := by
  obtain ⟨a, len, cap, rfl⟩ := okWide_slice un_22 ho
  obtain ⟨v, e, h⟩ := in_tens h
  simp [Value.cells] at e
  subst e
  exact h
/-! ### How great -/
def tot : Int → List Int → Int
  | n, [] => n
  | n, x :: l => if n ≤ 1048576 then tot (n + x) l else n
theorem tot_le : ∀ {l : List Int} {n : Int}, (∀ x ∈ l, 0 ≤ x) → n ≤ tot n l
  | [], n, _ => Int.le_refl _
  | x :: l, n, h => by
    unfold tot
    split
    · have := tot_le (n := n + x) fun y hy => h y (List.mem_cons_of_mem _ hy)
      have := h x (by simp)
      omega
    · exact Int.le_refl _
theorem tot_each : ∀ {l : List Int} {n : Int}, (∀ x ∈ l, 0 ≤ x) → tot n l ≤ 1048576 → ∀ x ∈ l, n + x ≤ tot n l
  | [], _, _, _, x, hx => by simp at hx
  | y :: l, n, h, hle, x, hx => by
    have h2 : ∀ z ∈ l, 0 ≤ z := fun z hz => h z (List.mem_cons_of_mem _ hz)
    have hn := tot_le (n := n) h
    have e : tot n (y :: l) = tot (n + y) l := by
      show (if n ≤ 1048576 then tot (n + y) l else n) = _
      rw [if_pos (by omega)]
    rw [e] at hle ⊢
    rcases List.mem_cons.1 hx with rfl | hx
    · exact tot_le h2
    · have := tot_each h2 hle x hx
      have := h y (by simp)
      omega
theorem tsz_pos (s : List Int) (l : List (BitVec 32)) : 1 ≤ tsz s l := by unfold tsz; split <;> omega
theorem tsz_few {a : T4} (h : fewT a) : tsz a.s a.l ≤ 4503599627370496 := by have h1 := h.1; have h2 := h.2; unfold tsz; split <;> omega
theorem tot_drop {l : List Int} {i : Nat} {n : Int} (hi : i < l.length) : tot n (l.drop i) = if n ≤ 1048576 then tot (n + l.getD i default) (l.drop (i + 1)) else n := by
  rw [List.drop_eq_getElem_cons hi]
  simp only [tot, List.getD_eq_getElem?_getD, List.getElem?_eq_getElem hi, Option.getD_some]
theorem ten_cellsA {ts : List T4} {j : Nat} (h : j < ts.length) : ∀ i, i < 2 → ∃ q, [ts[j].x, ts[j].y][i]? = some q ∧ (cellsOf ts)[j * 2 + i]? = some q := two_cells (cells_at h).1 (cells_at h).2
theorem tsizes_c (v : Value) (ts : List T4) (w : World) (h : Tens w v ts) (hl : ts.length ≤ 1125899906842624) (hf : ∀ t ∈ ts, fewT t) : Fnc Tryz.prog 6 [v] w (fun r w' => r = .int .i64 (tot (ts.length : Int) (ts.map fun t => tsz t.s t.l)) ∧ Below w.heap.size w w') := by
  have sv := h.1
  have lv := sv.le
  obtain ⟨T, hT⟩ : ∃ T, T = tot (ts.length : Int) (ts.map fun t => tsz t.s t.l) := ⟨_, rfl⟩
  rw [← hT]
  refine Fnc.enter (n := 25) Tryz.func6 (by kernel_rfl) rfl rfl rfl ?_
  refine Cw.seq ?_
  refine Cw.region ?_
  refine Lw.val (Ex.assign rfl) rfl ?_
  refine Lw.nil ?_
  refine Pw.thenN (Cw.out ?_)
  refine Cw.seq ?_
  refine Cw.region ?_
  refine Lw.val (Ex.move rfl) rfl ?_
  refine Lw.val (Ex.lenS st_22 rfl (by assumption)) rfl ?_
  refine Lw.val (Ex.assign rfl) rfl ?_
  refine Lw.nil ?_
  refine Pw.thenN (Cw.out ?_)
  refine Cw.seq ?_
  refine Cw.seq ?_
  refine Cw.region ?_
  refine Lw.val (Ex.assign rfl) rfl ?_
  refine Lw.nil ?_
  refine Pw.thenN (Cw.out ?_)
  refine Cw.block ?_
  refine Cw.loop (S := (Nat × Int)) (fun p => [(0, v), (3, .int .i64 p.2), (4, .int .i64 (p.1 : Int))]) (fun p w' => p.1 ≤ ts.length ∧ 0 ≤ p.2 ∧ p.2 ≤ 1125899906842624 + 4503599627370496 + 1048576 ∧ tot p.2 ((ts.map fun t => tsz t.s t.l).drop p.1) = T ∧ Below w.heap.size w w') (fun p => ts.length - p.1) ((0, (ts.length : Int))) ⟨rfl, rfl, rfl, trivial⟩ ?_ ?_
  · exact ⟨Nat.zero_le _, by simp only; omega, by simp only; omega, hT.symm, Below.refl _ _⟩
  rintro ⟨i, n⟩ w1 ⟨hi, h0, h1, hE, hB⟩
  replace hi : i ≤ ts.length := hi
  replace h0 : 0 ≤ n := h0
  replace h1 : n ≤ 1125899906842624 + 4503599627370496 + 1048576 := h1
  replace hE : tot n ((ts.map fun t => tsz t.s t.l).drop i) = T := hE
  have sv := sv.bs hB
  refine Cw.seq ?_
  refine Cw.seq ?_
  refine Cw.region ?_
  refine Lw.val (Ex.move rfl) rfl ?_
  refine Lw.val (Ex.move rfl) rfl ?_
  refine Lw.val (Ex.lenS st_22 rfl (by assumption)) rfl ?_
  refine Lw.val (Ex.lss rfl rfl) rfl ?_
  refine Lw.val (Ex.move rfl) rfl ?_
  refine Lw.part 11 rfl ?_ ?_
  · intro g
    have hi' : i < ts.length := by have := of_decide_eq_true g; omega
    have e1 := tot_drop (n := n) (l := ts.map fun t => tsz t.s t.l) (i := i) (by rw [List.length_map]; exact hi')
    obtain ⟨a, ha⟩ : ∃ a, a = ts[i] := ⟨_, rfl⟩
    have e2 : (ts.map fun t => tsz t.s t.l).getD i default = tsz a.s a.l := by rw [List.getD_eq_getElem?_getD, List.getElem?_map, List.getElem?_eq_getElem hi', ← ha]; rfl
    have hm : a ∈ ts := ha ▸ List.getElem_mem hi'
    have hfa := hf a hm
    have b1 := tsz_pos a.s a.l
    have b2 := tsz_few hfa
    have hcs := ten_cellsA hi'
    rw [← ha] at hcs
    rw [e1, e2] at hE
    refine Lw.take (dj := 11) rfl rfl ?_
    refine Lw.val (Ex.move rfl) rfl ?_
    refine Lw.take (dj := 11) rfl rfl ?_
    refine Lw.val (Ex.leq rfl rfl) rfl ?_
    refine Lw.val (Ex.pickT rfl rfl) rfl ?_
    refine Lw.nil ?_
    refine Pw.thenN (Cw.out ?_)
    refine Cw.cond rfl ?_ ?_
    · intro g2
      have g2 : n ≤ 1048576 := of_decide_eq_true g2
      rw [if_pos g2] at hE
      refine Cw.skip ?_
      refine Pw.thenN (Cw.out ?_)
      refine Cw.seq ?_
      refine Cw.block ?_
      refine Cw.region ?_
      refine Lw.val (Ex.move rfl) rfl ?_
      refine Lw.val (Ex.move rfl) rfl ?_
      refine Lw.val (Ex.move rfl) rfl ?_
      refine Lw.val (Ex.idx st_22 rfl rfl sv i rfl hi') rfl ?_
      refine Lw.val (Ex.ldE (cs := [a.x, a.y]) (ag_29 _) (sz_29 _) rfl sv rfl (by decide) hcs) rfl ?_
      refine Lw.callF rfl rfl (tsize_c a w1 ((h.2 a hm).bs hB) hfa.1 hfa.2) ?_
      rintro _ w2 ⟨rfl, hn⟩
      refine Lw.val (Ex.addI rfl rfl (by omega)) rfl ?_
      refine Lw.val (Ex.assign rfl) rfl ?_
      refine Lw.nil ?_
      refine Pw.blkN ?_
      refine Pw.thenN (Cw.out ?_)
      refine Cw.region ?_
      refine Lw.val (Ex.move rfl) rfl ?_
      refine Lw.val (Ex.addI rfl rfl (by omega)) rfl ?_
      refine Lw.val (Ex.assign rfl) rfl ?_
      refine Lw.nil ?_
      exact Pw.thenN (Pw.next ((i + 1, n + tsz a.s a.l)) ⟨rfl, rfl, rfl, trivial⟩ (⟨hi', by simp only; omega, by simp only; omega, hE, bt hB hn⟩) (by simp only; omega))
    intro g2
    have g2 : ¬ n ≤ 1048576 := of_decide_eq_false g2
    rw [if_neg g2] at hE
    refine Cw.exit ?_
    refine Pw.thenE ?_
    refine Pw.thenE ?_
    refine Pw.blkHit ?_
    refine Pw.thenN (Cw.out ?_)
    refine Cw.seq ?_
    refine Cw.region ?_
    refine Lw.val (Ex.move rfl) rfl ?_
    refine Lw.val (Ex.assign rfl) rfl ?_
    refine Lw.nil ?_
    refine Pw.thenN (Cw.out ?_)
    refine Cw.ret ?_
    refine Pw.ret1 rfl rfl ?_
    exact ⟨by rw [← hE], hB⟩
  intro g
  have hi' : i = ts.length := by have := of_decide_eq_false g; omega
  have hE2 : n = T := by
    rw [hi', List.drop_of_length_le (by simp)] at hE; exact hE
  refine Lw.pass (dj := 11) rfl rfl rfl rfl ?_
  refine Lw.pass (dj := 11) rfl rfl rfl rfl ?_
  refine Lw.val (Ex.pickF rfl rfl) rfl ?_
  refine Lw.nil ?_
  refine Pw.thenN (Cw.out ?_)
  refine Cw.condF rfl ?_
  refine Cw.exit ?_
  refine Pw.thenE ?_
  refine Pw.thenE ?_
  refine Pw.blkHit ?_
  refine Pw.thenN (Cw.out ?_)
  refine Cw.seq ?_
  refine Cw.region ?_
  refine Lw.val (Ex.move rfl) rfl ?_
  refine Lw.val (Ex.assign rfl) rfl ?_
  refine Lw.nil ?_
  refine Pw.thenN (Cw.out ?_)
  refine Cw.ret ?_
  refine Pw.ret1 rfl rfl ?_
  exact ⟨by rw [hE2], hB⟩
theorem tsz_leM {s : List Int} {l : List (BitVec 32)} {m : Int} (h : tsz s l ≤ m) (hm : m ≤ 1048576) : (s.length : Int) + l.length + 1 ≤ m := by unfold tsz at h; split at h <;> omega
theorem tot_hi : ∀ {l : List Int} {n m : Int}, (∀ x ∈ l, x ≤ m) → 0 ≤ m → tot n l ≤ max n (1048576 + m)
  | [], n, m, _, _ => by simp only [tot]; omega
  | x :: l, n, m, h, hm => by
    unfold tot
    split
    · have := tot_hi (n := n + x) (m := m) (fun y hy => h y (List.mem_cons_of_mem _ hy)) hm
      have := h x (by simp)
      omega
    · omega
end Go.Proofs.YtkhndfaampkbnaaGreatDoor
