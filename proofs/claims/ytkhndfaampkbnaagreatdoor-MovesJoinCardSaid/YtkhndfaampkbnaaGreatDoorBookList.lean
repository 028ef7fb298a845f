/- What a book keeps of a list of tensors. -/
import Derived.Test.YtkhndfaampkbnaaGreatDoorBookMore
import Derived.Test.YtkhndfaampkbnaaGreatDoorTensorsCode
namespace Go.Proofs.YtkhndfaampkbnaaGreatDoor
open Go Go.Dd Go.RowKit
set_option maxRecDepth 100000

def hmI (n : Int) : List T4 → List Hd
  | [] => []
  | t :: ts => newHdM t.x t.s.length (t.s.map (Value.int .i64)) (n + 1) :: hmI (n + 2) ts
def hmN (n : Int) : List T4 → List Hd
  | [] => []
  | t :: ts => newHdM t.y t.l.length (t.l.map i32) (n + 2) :: hmN (n + 2) ts
theorem hmI_snoc (t : T4) : ∀ (ts : List T4) (n : Int), hmI n (ts ++ [t]) = hmI n ts ++ [newHdM t.x t.s.length (t.s.map (Value.int .i64)) (n + 2 * ts.length + 1)]
  | [], n => by simp [hmI]
  | a :: ts, n => by
    simp only [List.cons_append, hmI, hmI_snoc t ts (n + 2), List.length_cons]
    rw [show n + 2 + 2 * (ts.length : Int) + 1 = n + 2 * ((ts.length + 1 : Nat) : Int) + 1 by omega]
theorem hmN_snoc (t : T4) : ∀ (ts : List T4) (n : Int), hmN n (ts ++ [t]) = hmN n ts ++ [newHdM t.y t.l.length (t.l.map i32) (n + 2 * ts.length + 2)]
  | [], n => by simp [hmN]
  | a :: ts, n => by
    simp only [List.cons_append, hmN, hmN_snoc t ts (n + 2), List.length_cons]
    rw [show n + 2 + 2 * (ts.length : Int) + 2 = n + 2 * ((ts.length + 1 : Nat) : Int) + 2 by omega]
/-- A tensor's lists lie below a block. -/
def T4.low (lo : Nat) (t : T4) : Prop := (∀ b, t.x.ownBlock = some b → b < lo) ∧ ∀ b, t.y.ownBlock = some b → b < lo
theorem sl_low {w w' : World} {lo sz n : Nat} {v : Value} {xs : List Value} (h : Sl w sz v n xs) (hv : ∀ b, v.ownBlock = some b → b < lo) (g : Below lo w w') : Sl w' sz v n xs := h.keep fun b _ e => g.block b (hv b e)
/-- (Tens of MovesJoin, without its imports.) -/
def TensB (w : World) (v : Value) (ts : List T4) : Prop := Sl w 2 v ts.length (cellsOf ts) ∧ ∀ t ∈ ts, t.at w
theorem tens_low {w w' : World} {lo : Nat} {v : Value} {ts : List T4} (h : TensB w v ts) (hv : ∀ b, v.ownBlock = some b → b < lo) (ht : ∀ t ∈ ts, t.low lo) (g : Below lo w w') : TensB w' v ts :=
  ⟨sl_low h.1 hv g, fun t m => ⟨sl_low (h.2 t m).1 (ht t m).1 g, sl_low (h.2 t m).2 (ht t m).2 g⟩⟩
theorem ten_cellsB {ts : List T4} {j : Nat} (h : j < ts.length) : ∀ i, i < 2 → ∃ q, [ts[j].x, ts[j].y][i]? = some q ∧ (cellsOf ts)[j * 2 + i]? = some q := fun i hi => by
  obtain ⟨h1, h2⟩ := cells_at h
  rcases (show i = 0 ∨ i = 1 by omega) with rfl | rfl
  · exact ⟨_, rfl, h1⟩
  · exact ⟨_, rfl, h2⟩
theorem bookTensors_m (w : World) (lo A : Nat) (n : Int) (hb hi hn ht hd : List Hd) (ub ui un ut ud v : Value) (ts : List T4) (h : Bm w lo A n hb hi hn ht hd ub ui un ut ud) (hv : TensB w v ts) (hvl : ∀ b, v.ownBlock = some b → b < lo) (hlow : ∀ t ∈ ts, t.low lo) (hf : n + 2 * ts.length ≤ 3999980) :
    Fnc Tryz.prog 12 [.pointer (some ⟨A, 0, none⟩), v] w (fun r w' => r = .tuple #[] ∧ Below lo w w' ∧ ∃ ui' un' ut', Bm w' lo A (n + 2 * ts.length + 1) hb (hi ++ hmI n ts) (hn ++ hmN n ts) (ht ++ [newHdM v ts.length (cellsOf ts) (n + 2 * ts.length + 1)]) hd ub ui' un' ut' ud) := by
  have sv := hv.1
  have hnn := h.many
  refine Fnc.enter (n := 20) Tryz.func12 (by kernel_rfl) rfl rfl rfl ?_
  refine Cw.seq ?_
  refine Cw.seq ?_
  refine Cw.region ?_
  refine Lw.val (Ex.assign rfl) rfl ?_
  refine Lw.nil ?_
  refine Pw.thenN (Cw.out ?_)
  refine Cw.block ?_
  refine Cw.loop (S := (Nat × Value × Value)) (fun z => [(0, .pointer (some ⟨A, 0, none⟩)), (1, v), (4, .int .i64 (z.1 : Int))]) (fun z w' => z.1 ≤ ts.length ∧ Below lo w w' ∧ Bm w' lo A (n + 2 * z.1) hb (hi ++ hmI n (ts.take z.1)) (hn ++ hmN n (ts.take z.1)) ht hd ub z.2.1 z.2.2 ut ud) (fun z => ts.length - z.1) ((0, ui, un)) ⟨rfl, rfl, rfl, trivial⟩ ?_ ?_
  · exact ⟨Nat.zero_le _, Below.refl _ _, by simpa [hmI, hmN] using h⟩
  rintro ⟨i, vi, vn⟩ w2 ⟨hi', hB, hK⟩
  dsimp only at hi' hK ⊢
  have hv2 := tens_low hv hvl hlow hB
  have sv2 := hv2.1
  refine Cw.seq ?_
  refine Cw.seq ?_
  refine Cw.region ?_
  refine Lw.val (Ex.move rfl) rfl ?_
  refine Lw.val (Ex.move rfl) rfl ?_
  refine Lw.val (Ex.lenS st_22 rfl (by assumption)) rfl ?_
  refine Lw.val (Ex.lss rfl rfl) rfl ?_
  refine Lw.nil ?_
  refine Pw.thenN (Cw.out ?_)
  refine Cw.cond rfl ?_ ?_
  · intro g
    have hlt : i < ts.length := by have := of_decide_eq_true g; omega
    obtain ⟨a, ha⟩ : ∃ a, a = ts[i] := ⟨_, rfl⟩
    have ham : a ∈ ts := ha ▸ List.getElem_mem hlt
    have hac := ten_cellsB hlt
    rw [← ha] at hac
    have haw := hv2.2 a ham
    refine Cw.skip ?_
    refine Pw.thenN (Cw.out ?_)
    refine Cw.seq ?_
    refine Cw.block ?_
    refine Cw.region ?_
    refine Lw.val (Ex.move rfl) rfl ?_
    refine Lw.val (Ex.move rfl) rfl ?_
    refine Lw.val (Ex.move rfl) rfl ?_
    refine Lw.val (Ex.idx st_22 rfl rfl sv2 i rfl hlt) rfl ?_
    refine Lw.val (Ex.ldE (cs := [a.x, a.y]) (ag_29 _) (sz_29 _) rfl sv2 rfl (by decide) hac) rfl ?_
    refine Lw.callF rfl rfl (bookTensor_m w2 lo A (n + 2 * i) hb _ _ ht hd ub vi vn ut ud a.x a.y a.s.length a.l.length _ _ hK haw.1 haw.2 (hlow a ham).2 (by omega)) ?_
    rintro _ w3 ⟨rfl, hl3, vi', vn', hK3⟩
    have eI : hi ++ hmI n (ts.take (i + 1)) = hi ++ hmI n (ts.take i) ++ [newHdM a.x a.s.length (a.s.map (Value.int .i64)) (n + 2 * i + 1)] := by
      rw [List.take_succ_eq_append_getElem hlt, hmI_snoc, ← ha, List.length_take, Nat.min_eq_left (by omega), List.append_assoc]
    have eN : hn ++ hmN n (ts.take (i + 1)) = hn ++ hmN n (ts.take i) ++ [newHdM a.y a.l.length (a.l.map i32) (n + 2 * i + 2)] := by
      rw [List.take_succ_eq_append_getElem hlt, hmN_snoc, ← ha, List.length_take, Nat.min_eq_left (by omega), List.append_assoc]
    have eK : n + 2 * (i : Int) + 2 = n + 2 * ((i + 1 : Nat) : Int) := by omega
    rw [← eI, ← eN, eK] at hK3
    refine Lw.nil ?_
    refine Pw.blkN ?_
    refine Pw.thenN (Cw.out ?_)
    refine Cw.region ?_
    refine Lw.val (Ex.move rfl) rfl ?_
    refine Lw.val (Ex.addI rfl rfl (by omega)) rfl ?_
    refine Lw.val (Ex.assign rfl) rfl ?_
    refine Lw.nil ?_
    exact Pw.thenN (Pw.next ((i + 1, vi', vn')) ⟨rfl, rfl, rfl, trivial⟩ (⟨hlt, hB.trans hl3, hK3⟩) (by simp only; omega))
  intro g
  have hlt : i = ts.length := by have := of_decide_eq_false g; omega
  subst hlt
  rw [List.take_length] at hK
  refine Cw.exit ?_
  refine Pw.thenE ?_
  refine Pw.thenE ?_
  refine Pw.blkHit ?_
  refine Pw.thenN (Cw.out ?_)
  refine Cw.region ?_
  refine Lw.val (Ex.move rfl) rfl ?_
  refine Lw.val (Ex.move rfl) rfl ?_
  refine Lw.callF rfl rfl (bkeepTensor_m w2 lo A (n + 2 * ts.length) hb _ _ ht hd ub vi vn ut ud v ts.length (cellsOf ts) hK sv2 (by omega)) ?_
  rintro _ w3 ⟨rfl, hc, ut', hK3⟩
  have l3 := hK.low (fun b e => (own_block hK.ot b e).1) hc
  refine Lw.nil ?_
  refine Pw.end0 rfl ?_
  exact ⟨rfl, hB.trans l3, vi, vn, ut', hK3⟩
end Go.Proofs.YtkhndfaampkbnaaGreatDoor
