/- What a book keeps of a tensor and of a node (five kinds of lists). -/
import Derived.Test.YtkhndfaampkbnaaGreatDoorBookApart
namespace Go.Proofs.YtkhndfaampkbnaaGreatDoor
open Go Go.Dd Go.RowKit
set_option maxRecDepth 100000

theorem bookTensor_m (w : World) (lo A : Nat) (n : Int) (hb hi hn ht hd : List Hd) (ub ui un ut ud x y : Value) (k m : Nat) (xs ys : List Value) (h : Bm w lo A n hb hi hn ht hd ub ui un ut ud) (hx : Sl w 1 x k xs) (hy : Sl w 1 y m ys) (hyl : ∀ b, y.ownBlock = some b → b < lo) (hf : n ≤ 3999990) :
    Fnc Tryz.prog 13 [.pointer (some ⟨A, 0, none⟩), .agg #[x, y]] w (fun r w' => r = .tuple #[] ∧ Below lo w w' ∧ ∃ ui' un', Bm w' lo A (n + 2) hb (hi ++ [newHdM x k xs (n + 1)]) (hn ++ [newHdM y m ys (n + 2)]) ht hd ub ui' un' ut ud) := by
  refine Fnc.enter (n := 12) Tryz.func13 (by kernel_rfl) rfl rfl rfl ?_
  refine Cw.seq ?_
  refine Cw.region ?_
  refine Lw.valW (Xw.box (cs := [x, y]) rfl rfl) rfl ?_
  rintro _ w1 ⟨rfl, b, hn1, hz1⟩
  have h1 := h.bs hn1
  have hs := h.size
  have hsA := blk_lt h.box
  have hsi := own_block h.oi
  refine Lw.nil ?_
  refine Pw.thenN (Cw.out ?_)
  refine Cw.seq ?_
  refine Cw.region ?_
  refine Lw.val (Ex.move rfl) rfl ?_
  refine Lw.val (Ex.fieldAddr (q := 0) Tryz.underlying29 rfl (sz_26 _) rfl) rfl ?_
  refine Lw.val (Ex.ldB (ag_26 _) rfl (by assumption) rfl) rfl ?_
  refine Lw.callF rfl rfl (bookInts_m w1 lo A n hb hi hn ht hd ub ui un ut ud x k xs h1 (hx.bs hn1) (by omega)) ?_
  rintro _ w2 ⟨rfl, c2, ui', h2⟩
  have l2 := h1.low (fun b e => (own_block h1.oi b e).1) c2
  have hy2 : Sl w2 1 y m ys := (hy.bs hn1).keep fun b _ e => l2.block b (hyl b e)
  have b2 := b.chg c2 (fun e => by
    rcases e with e | e
    · omega
    · have := (hsi _ e).2; omega)
  refine Lw.nil ?_
  refine Pw.thenN (Cw.out ?_)
  refine Cw.region ?_
  refine Lw.val (Ex.move rfl) rfl ?_
  refine Lw.val (Ex.fieldAddr (q := 0) Tryz.underlying29 rfl (sz_27 _) rfl) rfl ?_
  refine Lw.val (Ex.ldB (ag_27 _) rfl (by assumption) rfl) rfl ?_
  refine Lw.callF rfl rfl (bookNumbers_m w2 lo A (n + 1) hb _ hn ht hd ub ui' un ut ud y m ys h2 hy2 (by omega)) ?_
  rintro _ w3 ⟨rfl, c3, un', h3⟩
  have l3 := h2.low (fun b e => (own_block h2.on b e).1) c3
  have e2 : n + 1 + 1 = n + 2 := by omega
  rw [e2] at h3
  refine Lw.nil ?_
  refine Pw.end0 rfl ?_
  exact ⟨rfl, ((hn1.mono (Nat.le_of_lt hs)).trans l2).trans l3, ui', un', h3⟩
end Go.Proofs.YtkhndfaampkbnaaGreatDoor
