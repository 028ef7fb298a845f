/- A book of bytes, ints, numbers, tensors and nodes: its state; what it keeps. Printed by a program of ours. -/
import Derived.Test.YtkhndfaampkbnaaGreatDoorBookKeep
namespace Go.Proofs.YtkhndfaampkbnaaGreatDoor
open Go Go.Dd Go.RowKit
set_option maxRecDepth 100000

abbrev newHdM (v : Value) (k : Nat) (xs : List Value) (n : Int) : Hd := ⟨v, k, xs, n, .slice none 0 0⟩
theorem apt_newM {u u' v : Value} {w : World} {lo k : Nat} {e : TypeId} {xs : List Value} (h : Apt u v) (hv : w.ownsRow lo e 3 v k xs) (hu : ∀ b, u'.ownBlock = some b → u.ownBlock = some b ∨ w.heap.size ≤ b) : Apt u' v := fun b e1 e2 => by
  rcases hu b e1 with h1 | h1
  · exact h b h1 e2
  · have := (own_block hv b e2).2; omega
/-- A book: where its parts lie, and what it keeps. -/
structure Bm (w : World) (lo A : Nat) (n : Int) (hb hi hn ht hd : List Hd) (ub ui un ut ud : Value) : Prop where
  box : Blk w A bookT [.int .i64 n, ub, ui, un, .slice none 0 0, .slice none 0 0, ut, ud, .slice none 0 0, .slice none 0 0, .slice none 0 0, .slice none 0 0, .slice none 0 0, .slice none 0 0, .slice none 0 0, .slice none 0 0]
  ob : w.ownsRow lo 99 3 ub hb.length (hcells hb)
  oi : w.ownsRow lo 102 3 ui hi.length (hcells hi)
  on : w.ownsRow lo 104 3 un hn.length (hcells hn)
  ot : w.ownsRow lo 96 3 ut ht.length (hcells ht)
  od : w.ownsRow lo 118 3 ud hd.length (hcells hd)
  loA : lo ≤ A
  q_b : ub.ownBlock ≠ some A
  q_i : ui.ownBlock ≠ some A
  q_n : un.ownBlock ≠ some A
  q_t : ut.ownBlock ≠ some A
  q_d : ud.ownBlock ≠ some A
  p_bi : Apt ub ui
  p_bn : Apt ub un
  p_bt : Apt ub ut
  p_bd : Apt ub ud
  p_in : Apt ui un
  p_it : Apt ui ut
  p_id : Apt ui ud
  p_nt : Apt un ut
  p_nd : Apt un ud
  p_td : Apt ut ud
  many : ((hb.length + hi.length + hn.length + ht.length + hd.length : Nat) : Int) = n
theorem Bm.size {w : World} {lo A : Nat} {n : Int} {hb hi hn ht hd : List Hd} {ub ui un ut ud : Value} (h : Bm w lo A n hb hi hn ht hd ub ui un ut ud) : lo < w.heap.size := Nat.lt_of_le_of_lt h.loA (blk_lt h.box)
theorem Bm.bs {w w' : World} {lo A : Nat} {n : Int} {hb hi hn ht hd : List Hd} {ub ui un ut ud : Value} (h : Bm w lo A n hb hi hn ht hd ub ui un ut ud) (g : Below w.heap.size w w') : Bm w' lo A n hb hi hn ht hd ub ui un ut ud :=
  ⟨h.box.bs g, own_bs h.ob g, own_bs h.oi g, own_bs h.on g, own_bs h.ot g, own_bs h.od g, h.loA, h.q_b, h.q_i, h.q_n, h.q_t, h.q_d, h.p_bi, h.p_bn, h.p_bt, h.p_bd, h.p_in, h.p_it, h.p_id, h.p_nt, h.p_nd, h.p_td, h.many⟩
theorem Bm.low {w w' : World} {lo A : Nat} {n : Int} {hb hi hn ht hd : List Hd} {ub ui un ut ud u : Value} (h : Bm w lo A n hb hi hn ht hd ub ui un ut ud) (hu : ∀ b, u.ownBlock = some b → lo ≤ b) (hc : Chg (fun b => b = A ∨ u.ownBlock = some b) w w') : Below lo w w' := hc.to_below (fun b hS => by
  rcases hS with rfl | e
  · exact h.loA
  · exact hu b e) (Nat.le_of_lt h.size)



theorem bkeepInt_m (w : World) (lo A : Nat) (n : Int) (hb hi hn ht hd : List Hd) (ub ui un ut ud v : Value) (k : Nat) (xs : List Value) (h : Bm w lo A n hb hi hn ht hd ub ui un ut ud) (hv : Sl w 1 v k xs) (hf : n ≤ 3999999) :
    Fnc Tryz.prog 110 [.pointer (some ⟨A, 0, none⟩), v] w (fun r w' => r = .tuple #[] ∧ Chg (fun b => b = A ∨ ui.ownBlock = some b) w w' ∧ ∃ u', Bm w' lo A (n + 1) hb (hi ++ [newHdM v k xs (n + 1)]) hn ht hd ub u' un ut ud) := by
  have hm := h.many
  refine (keepInt_m A _ n ui hi lo w v k xs h.box rfl rfl h.oi (Nat.le_of_lt h.size) h.q_i (by omega) (by omega) hv).mono ?_
  rintro _ w' ⟨rfl, u', hb', ho, hc, hu⟩
  exact ⟨rfl, hc, u', hb', own_chg h.ob hc (fun b e1 e2 => e2.elim (fun e => h.q_b (by rw [e1, e])) (fun e => h.p_bi b e1 e)), (by rw [List.length_append]; exact ho), own_chg h.on hc (fun b e1 e2 => e2.elim (fun e => h.q_n (by rw [e1, e])) (fun e => h.p_in b e e1)), own_chg h.ot hc (fun b e1 e2 => e2.elim (fun e => h.q_t (by rw [e1, e])) (fun e => h.p_it b e e1)), own_chg h.od hc (fun b e1 e2 => e2.elim (fun e => h.q_d (by rw [e1, e])) (fun e => h.p_id b e e1)), h.loA, h.q_b, (fun e => by rcases hu _ e with h1 | h1; exact h.q_i h1; have := blk_lt h.box; omega), h.q_n, h.q_t, h.q_d, (apt_newM h.p_bi.symm h.ob hu).symm, h.p_bn, h.p_bt, h.p_bd, apt_newM h.p_in h.on hu, apt_newM h.p_it h.ot hu, apt_newM h.p_id h.od hu, h.p_nt, h.p_nd, h.p_td, by simp only [List.length_append, List.length_singleton]; omega⟩

theorem bookInts_m (w : World) (lo A : Nat) (n : Int) (hb hi hn ht hd : List Hd) (ub ui un ut ud v : Value) (k : Nat) (xs : List Value) (h : Bm w lo A n hb hi hn ht hd ub ui un ut ud) (hv : Sl w 1 v k xs) (hf : n ≤ 3999999) :
    Fnc Tryz.prog 26 [.pointer (some ⟨A, 0, none⟩), v] w (fun r w' => r = .tuple #[] ∧ Chg (fun b => b = A ∨ ui.ownBlock = some b) w w' ∧ ∃ u', Bm w' lo A (n + 1) hb (hi ++ [newHdM v k xs (n + 1)]) hn ht hd ub u' un ut ud) := by
  refine Fnc.enter (n := 7) Tryz.func26 (by kernel_rfl) rfl rfl rfl ?_
  refine Cw.region ?_
  refine Lw.val (Ex.move rfl) rfl ?_
  refine Lw.val (Ex.move rfl) rfl ?_
  refine Lw.callF rfl rfl (bkeepInt_m w lo A n hb hi hn ht hd ub ui un ut ud v k xs h hv hf) ?_
  rintro _ w' ⟨rfl, hc, u', hb'⟩
  refine Lw.nil ?_
  refine Pw.end0 rfl ?_
  exact ⟨rfl, hc, u', hb'⟩

theorem bkeepNumber_m (w : World) (lo A : Nat) (n : Int) (hb hi hn ht hd : List Hd) (ub ui un ut ud v : Value) (k : Nat) (xs : List Value) (h : Bm w lo A n hb hi hn ht hd ub ui un ut ud) (hv : Sl w 1 v k xs) (hf : n ≤ 3999999) :
    Fnc Tryz.prog 115 [.pointer (some ⟨A, 0, none⟩), v] w (fun r w' => r = .tuple #[] ∧ Chg (fun b => b = A ∨ un.ownBlock = some b) w w' ∧ ∃ u', Bm w' lo A (n + 1) hb hi (hn ++ [newHdM v k xs (n + 1)]) ht hd ub ui u' ut ud) := by
  have hm := h.many
  refine (keepNumber_m A _ n un hn lo w v k xs h.box rfl rfl h.on (Nat.le_of_lt h.size) h.q_n (by omega) (by omega) hv).mono ?_
  rintro _ w' ⟨rfl, u', hb', ho, hc, hu⟩
  exact ⟨rfl, hc, u', hb', own_chg h.ob hc (fun b e1 e2 => e2.elim (fun e => h.q_b (by rw [e1, e])) (fun e => h.p_bn b e1 e)), own_chg h.oi hc (fun b e1 e2 => e2.elim (fun e => h.q_i (by rw [e1, e])) (fun e => h.p_in b e1 e)), (by rw [List.length_append]; exact ho), own_chg h.ot hc (fun b e1 e2 => e2.elim (fun e => h.q_t (by rw [e1, e])) (fun e => h.p_nt b e e1)), own_chg h.od hc (fun b e1 e2 => e2.elim (fun e => h.q_d (by rw [e1, e])) (fun e => h.p_nd b e e1)), h.loA, h.q_b, h.q_i, (fun e => by rcases hu _ e with h1 | h1; exact h.q_n h1; have := blk_lt h.box; omega), h.q_t, h.q_d, h.p_bi, (apt_newM h.p_bn.symm h.ob hu).symm, h.p_bt, h.p_bd, (apt_newM h.p_in.symm h.oi hu).symm, h.p_it, h.p_id, apt_newM h.p_nt h.ot hu, apt_newM h.p_nd h.od hu, h.p_td, by simp only [List.length_append, List.length_singleton]; omega⟩

theorem bookNumbers_m (w : World) (lo A : Nat) (n : Int) (hb hi hn ht hd : List Hd) (ub ui un ut ud v : Value) (k : Nat) (xs : List Value) (h : Bm w lo A n hb hi hn ht hd ub ui un ut ud) (hv : Sl w 1 v k xs) (hf : n ≤ 3999999) :
    Fnc Tryz.prog 44 [.pointer (some ⟨A, 0, none⟩), v] w (fun r w' => r = .tuple #[] ∧ Chg (fun b => b = A ∨ un.ownBlock = some b) w w' ∧ ∃ u', Bm w' lo A (n + 1) hb hi (hn ++ [newHdM v k xs (n + 1)]) ht hd ub ui u' ut ud) := by
  refine Fnc.enter (n := 7) Tryz.func44 (by kernel_rfl) rfl rfl rfl ?_
  refine Cw.region ?_
  refine Lw.val (Ex.move rfl) rfl ?_
  refine Lw.val (Ex.move rfl) rfl ?_
  refine Lw.callF rfl rfl (bkeepNumber_m w lo A n hb hi hn ht hd ub ui un ut ud v k xs h hv hf) ?_
  rintro _ w' ⟨rfl, hc, u', hb'⟩
  refine Lw.nil ?_
  refine Pw.end0 rfl ?_
  exact ⟨rfl, hc, u', hb'⟩

theorem bkeepTensor_m (w : World) (lo A : Nat) (n : Int) (hb hi hn ht hd : List Hd) (ub ui un ut ud v : Value) (k : Nat) (xs : List Value) (h : Bm w lo A n hb hi hn ht hd ub ui un ut ud) (hv : Sl w 2 v k xs) (hf : n ≤ 3999999) :
    Fnc Tryz.prog 43 [.pointer (some ⟨A, 0, none⟩), v] w (fun r w' => r = .tuple #[] ∧ Chg (fun b => b = A ∨ ut.ownBlock = some b) w w' ∧ ∃ u', Bm w' lo A (n + 1) hb hi hn (ht ++ [newHdM v k xs (n + 1)]) hd ub ui un u' ud) := by
  have hm := h.many
  refine (keepTensor_m A _ n ut ht lo w v k xs h.box rfl rfl h.ot (Nat.le_of_lt h.size) h.q_t (by omega) (by omega) hv).mono ?_
  rintro _ w' ⟨rfl, u', hb', ho, hc, hu⟩
  exact ⟨rfl, hc, u', hb', own_chg h.ob hc (fun b e1 e2 => e2.elim (fun e => h.q_b (by rw [e1, e])) (fun e => h.p_bt b e1 e)), own_chg h.oi hc (fun b e1 e2 => e2.elim (fun e => h.q_i (by rw [e1, e])) (fun e => h.p_it b e1 e)), own_chg h.on hc (fun b e1 e2 => e2.elim (fun e => h.q_n (by rw [e1, e])) (fun e => h.p_nt b e1 e)), (by rw [List.length_append]; exact ho), own_chg h.od hc (fun b e1 e2 => e2.elim (fun e => h.q_d (by rw [e1, e])) (fun e => h.p_td b e e1)), h.loA, h.q_b, h.q_i, h.q_n, (fun e => by rcases hu _ e with h1 | h1; exact h.q_t h1; have := blk_lt h.box; omega), h.q_d, h.p_bi, h.p_bn, (apt_newM h.p_bt.symm h.ob hu).symm, h.p_bd, h.p_in, (apt_newM h.p_it.symm h.oi hu).symm, h.p_id, (apt_newM h.p_nt.symm h.on hu).symm, h.p_nd, apt_newM h.p_td h.od hu, by simp only [List.length_append, List.length_singleton]; omega⟩


end Go.Proofs.YtkhndfaampkbnaaGreatDoor
