/- Contracts: numbers as bytes. -/
import Derived.Test.YtkhndfaampkbnaaGreatDoorFacts
import Derived.Test.YtkhndfaampkbnaaGreatDoorByt
namespace Go.Proofs.YtkhndfaampkbnaaGreatDoor
open Go Go.Dd Go.RowKit
set_option maxRecDepth 100000

def gf (l : List (BitVec 8)) : BitVec 32 := le4 (l.getD 0 default) (l.getD 1 default) (l.getD 2 default) (l.getD 3 default)
theorem gf_nums {l : List (BitVec 8)} (h : 4 ≤ l.length) : nums l = gf l :: nums (l.drop 4) := by
  have := nums_drop l 0 (by omega)
  simpa [gf] using this
theorem growIntS_c (k : Nat) (w : World) (hk : k ≤ 16777216) : Fnc Tryz.prog 148 [.slice none 0 0, .int .i64 (k : Int)] w (fun r w' => w'.ownsRow w.heap.size 3 1 r 0 [] ∧ Below w.heap.size w w') := by
  have hnil := Sl.nil w 1
  refine Fnc.enter (n := 27) Tryz.func148 (by kernel_rfl) rfl rfl rfl ?_
  refine Cw.seq ?_
  refine Cw.region ?_
  refine Lw.val (Ex.assign rfl) rfl ?_
  refine Lw.nil ?_
  refine Pw.thenN (Cw.out ?_)
  refine Cw.seq ?_
  refine Cw.seq ?_
  refine Cw.region ?_
  refine Lw.val (Ex.move rfl) rfl ?_
  refine Lw.val (Ex.lss rfl rfl) rfl ?_
  refine Lw.nil ?_
  refine Pw.thenN (Cw.out ?_)
  refine Cw.condB rfl false (by simp) ?_
  refine Cw.skip ?_
  refine Pw.thenN (Cw.out ?_)
  refine Cw.seq ?_
  refine Cw.seq ?_
  refine Cw.region ?_
  refine Lw.val (Ex.move rfl) rfl ?_
  refine Lw.val (Ex.move rfl) rfl ?_
  refine Lw.val (Ex.capNil st_26 rfl) rfl ?_
  refine Lw.val (Ex.move rfl) rfl ?_
  refine Lw.val (Ex.lenS st_26 rfl (by assumption)) rfl ?_
  refine Lw.val (Ex.subI rfl rfl (by omega)) rfl ?_
  refine Lw.val (Ex.subI rfl rfl (by omega)) rfl ?_
  refine Lw.val (Ex.assign rfl) rfl ?_
  refine Lw.nil ?_
  refine Pw.thenN (Cw.out ?_)
  refine Cw.seq ?_
  refine Cw.region ?_
  refine Lw.val (Ex.move rfl) rfl ?_
  refine Lw.val (Ex.gtr rfl rfl) rfl ?_
  refine Lw.nil ?_
  refine Pw.thenN (Cw.out ?_)
  refine Cw.cond rfl ?_ ?_
  · intro g
    have g' : 0 < k := by have := of_decide_eq_true g; omega
    refine Cw.region ?_
    refine Lw.val (Ex.move rfl) rfl ?_
    refine Lw.val (Ex.move rfl) rfl ?_
    refine Lw.val (Ex.capNil st_26 rfl) rfl ?_
    refine Lw.val (Ex.as (u := .slice none 0 0) (Ex.cutH (j := 0) st_26 rfl rfl hnil (Nat.le_refl 0)) rfl) rfl ?_
    refine Lw.val (Ex.as (u := .int .i64 (k : Int)) (Ex.move rfl) (congrArg (Value.int .i64) (by omega))) rfl ?_
    refine Lw.valW (Xw.grow0 (tn := 3) (kn := .i64) st_26 it_3 rfl (by decide) un_3 rfl rfl g' (by omega) (by omega)) rfl ?_
    rintro v w1 ⟨cap, xs, rfl, ho, hn⟩
    have hnil := Sl.nil w1 1
    refine Lw.val (Ex.move rfl) rfl ?_
    refine Lw.val (Ex.lenS st_26 rfl (by assumption)) rfl ?_
    refine Lw.val (Ex.extH (j := 0) st_26 rfl rfl (Nat.zero_le cap)) rfl ?_
    refine Lw.val (Ex.assign rfl) rfl ?_
    refine Lw.nil ?_
    refine Pw.thenN (Cw.out ?_)
    refine Cw.seq ?_
    refine Cw.region ?_
    refine Lw.val (Ex.move rfl) rfl ?_
    refine Lw.val (Ex.assign rfl) rfl ?_
    refine Lw.nil ?_
    refine Pw.thenN (Cw.out ?_)
    refine Cw.ret ?_
    refine Pw.ret1 rfl rfl ?_
    exact ⟨own_short (k := 0) (m := k) (xs := []) (by simpa using ho) rfl, hn⟩
  · intro g
    refine Cw.skip ?_
    refine Pw.thenN (Cw.out ?_)
    refine Cw.seq ?_
    refine Cw.region ?_
    refine Lw.val (Ex.move rfl) rfl ?_
    refine Lw.val (Ex.assign rfl) rfl ?_
    refine Lw.nil ?_
    refine Pw.thenN (Cw.out ?_)
    refine Cw.ret ?_
    refine Pw.ret1 rfl rfl ?_
    exact ⟨⟨rfl, .inl ⟨rfl, rfl⟩⟩, Below.refl _ _⟩
theorem concatInt_c (v : Value) (ps : List (Value × List (Int))) (w : World) (hv : SlT (fun p : Value × List (Int) => p.1) w v ps) (hp : ∀ p ∈ ps, SlT (Value.int .i64) w p.1 p.2) (hb : (ps.map (·.2)).flatten.length ≤ 16777216) :
    Fnc Tryz.prog 100 [v] w (fun r w' => w'.ownsRow w.heap.size 3 1 r (ps.map (·.2)).flatten.length ((ps.map (·.2)).flatten.map (Value.int .i64)) ∧ Below w.heap.size w w') := by
  have hle := hv.le
  have hmem : ∀ i, i < ps.length → SlT (Value.int .i64) w (ps.getD i default).1 (ps.getD i default).2 := fun i hi => hp _ (getD_mem hi)
  refine Fnc.enter (n := 36) Tryz.func100 (by kernel_rfl) rfl rfl rfl ?_
  refine Cw.seq ?_
  refine Cw.region ?_
  refine Lw.val (Ex.assign rfl) rfl ?_
  refine Lw.nil ?_
  refine Pw.thenN (Cw.out ?_)
  refine Cw.seq ?_
  refine Cw.region ?_
  refine Lw.val (Ex.assign rfl) rfl ?_
  refine Lw.nil ?_
  refine Pw.thenN (Cw.out ?_)
  refine Cw.seq ?_
  refine Cw.seq ?_
  refine Cw.region ?_
  refine Lw.val (Ex.move rfl) rfl ?_
  refine Lw.val (Ex.lenS st_72 rfl (by assumption)) rfl ?_
  refine Lw.val (Ex.move rfl) rfl ?_
  refine Lw.nil ?_
  refine Pw.thenN (Cw.out ?_)
  refine Cw.block ?_
  refine Cw.loop (S := Nat) (fun i => [(0, v), (3, .int .i64 ((((ps.take i).map (·.2)).flatten.length : Nat) : Int)), (9, v), (10, .int .i64 (ps.length : Int)), (11, .int .i64 (i : Int))]) (fun i w' => i ≤ ps.length ∧ w' = w) (fun i => ps.length - i) (0) ⟨rfl, rfl, rfl, rfl, rfl, trivial⟩ ?_ ?_
  · exact ⟨by omega, rfl⟩
  rintro i w1 ⟨hi, rfl⟩
  refine Cw.seq ?_
  refine Cw.region ?_
  refine Lw.val (Ex.lss rfl rfl) rfl ?_
  refine Lw.nil ?_
  refine Pw.thenN (Cw.out ?_)
  refine Cw.seq ?_
  refine Cw.cond rfl ?_ ?_
  · intro h
    have hi' : i < ps.length := by simp at h; omega
    have hs := hmem i hi'
    have h1 := cat_le (ps := ps) (i + 1)
    have h2 := cat_step hi'
    have h3 := congrArg List.length h2
    rw [List.length_append] at h3
    refine Cw.skip ?_
    refine Pw.thenN (Cw.out ?_)
    refine Cw.seq ?_
    refine Cw.block ?_
    refine Cw.seq ?_
    refine Cw.region ?_
    refine Lw.val (Ex.idxT st_72 rfl rfl (by assumption) _ rfl (by omega)) rfl ?_
    refine Lw.val (Ex.ldT (ag_26 _) rfl (by assumption) (by omega)) rfl ?_
    refine Lw.val (Ex.assign rfl) rfl ?_
    refine Lw.nil ?_
    refine Pw.thenN (Cw.out ?_)
    refine Cw.seq ?_
    refine Cw.region ?_
    refine Lw.val (Ex.move rfl) rfl ?_
    refine Lw.val (Ex.move rfl) rfl ?_
    refine Lw.val (Ex.lenS st_26 rfl (by assumption)) rfl ?_
    refine Lw.val (Ex.addI rfl rfl (by omega)) rfl ?_
    refine Lw.val (Ex.assign rfl) rfl ?_
    refine Lw.nil ?_
    refine Pw.thenN (Cw.out ?_)
    refine Cw.seq ?_
    refine Cw.region ?_
    refine Lw.val (Ex.move rfl) rfl ?_
    refine Lw.val (Ex.lss rfl rfl) rfl ?_
    refine Lw.nil ?_
    refine Pw.thenN (Cw.out ?_)
    refine Cw.condB rfl false (by simp; omega) ?_
    refine Cw.skip ?_
    refine Pw.blkN ?_
    refine Pw.thenN (Cw.out ?_)
    refine Cw.region ?_
    refine Lw.val (Ex.addI rfl rfl (by omega)) rfl ?_
    refine Lw.val (Ex.move rfl) rfl ?_
    refine Lw.nil ?_
    exact Pw.thenN (Pw.next (i + 1) ⟨rfl, (congrArg (fun x => some (Value.int .i64 x)) (by omega)), rfl, rfl, rfl, trivial⟩ (⟨hi', rfl⟩) (by omega))
  intro h
  have hi' : i = ps.length := by simp at h; omega
  subst hi'
  rw [List.take_length]
  refine Cw.exit ?_
  refine Pw.thenE ?_
  refine Pw.thenE ?_
  refine Pw.blkHit ?_
  refine Pw.thenN (Cw.out ?_)
  refine Cw.seq ?_
  refine Cw.region ?_
  refine Lw.val (Ex.move rfl) rfl ?_
  refine Lw.callF rfl rfl (growIntS_c _ w1 hb) ?_
  rintro x w2 ⟨ho, hn⟩
  have hv2 := hv.bs hn
  refine Lw.val (Ex.assign rfl) rfl ?_
  refine Lw.nil ?_
  refine Pw.thenN (Cw.out ?_)
  refine Cw.seq ?_
  refine Cw.seq ?_
  refine Cw.region ?_
  refine Lw.val (Ex.move rfl) rfl ?_
  refine Lw.val (Ex.lenS st_72 rfl (by assumption)) rfl ?_
  refine Lw.val (Ex.move rfl) rfl ?_
  refine Lw.nil ?_
  refine Pw.thenN (Cw.out ?_)
  refine Cw.block ?_
  refine Cw.loop (S := (Nat × Value)) (fun z => [(0, v), (6, z.2), (25, v), (26, .int .i64 (ps.length : Int)), (27, .int .i64 (z.1 : Int))]) (fun z w' => z.1 ≤ ps.length ∧ w'.ownsRow w1.heap.size 3 1 z.2 ((ps.take z.1).map (·.2)).flatten.length (((ps.take z.1).map (·.2)).flatten.map (Value.int .i64)) ∧ Below w1.heap.size w1 w') (fun z => ps.length - z.1) ((0, x)) ⟨rfl, rfl, rfl, rfl, rfl, trivial⟩ ?_ ?_
  · exact ⟨Nat.zero_le _, by simpa using ho, hn⟩
  clear ho hn hv2
  rintro ⟨i, x⟩ w2 ⟨hi, ho, hn⟩
  dsimp only at hi ho ⊢
  have hv2 := hv.bs hn
  refine Cw.seq ?_
  refine Cw.region ?_
  refine Lw.val (Ex.lss rfl rfl) rfl ?_
  refine Lw.nil ?_
  refine Pw.thenN (Cw.out ?_)
  refine Cw.seq ?_
  refine Cw.cond rfl ?_ ?_
  · intro h
    have hi' : i < ps.length := by simp at h; omega
    have hs := (hmem i hi').bs hn
    have h1 := cat_le (ps := ps) (i + 1)
    have h2 := cat_step hi'
    have h3 := congrArg List.length h2
    rw [List.length_append] at h3
    refine Cw.skip ?_
    refine Pw.thenN (Cw.out ?_)
    refine Cw.seq ?_
    refine Cw.block ?_
    refine Cw.seq ?_
    refine Cw.region ?_
    refine Lw.val (Ex.idxT st_72 rfl rfl (by assumption) _ rfl (by omega)) rfl ?_
    refine Lw.val (Ex.ldT (ag_26 _) rfl (by assumption) (by omega)) rfl ?_
    refine Lw.val (Ex.assign rfl) rfl ?_
    refine Lw.nil ?_
    refine Pw.thenN (Cw.out ?_)
    refine Cw.region ?_
    refine Lw.val (Ex.move rfl) rfl ?_
    refine Lw.val (Ex.move rfl) rfl ?_
    refine Lw.valW (Xw.append (base := w1.heap.size) st_26 it_3 rfl (by decide) rfl rfl ho hs (one_map (fun _ => rfl) _) (by omega) (by omega) hn.size) rfl ?_
    rintro x' w3 ⟨ho3, hb3, -⟩
    rw [← List.map_append, ← h2, ← h3] at ho3
    refine Lw.val (Ex.assign rfl) rfl ?_
    refine Lw.nil ?_
    refine Pw.blkN ?_
    refine Pw.thenN (Cw.out ?_)
    refine Cw.region ?_
    refine Lw.val (Ex.addI rfl rfl (by omega)) rfl ?_
    refine Lw.val (Ex.move rfl) rfl ?_
    refine Lw.nil ?_
    exact Pw.thenN (Pw.next ((i + 1, x')) ⟨rfl, rfl, rfl, rfl, rfl, trivial⟩ (⟨hi', ho3, hn.trans hb3⟩) (by simp only; omega))
  intro h
  have hi' : i = ps.length := by simp at h; omega
  subst hi'
  rw [List.take_length] at ho
  refine Cw.exit ?_
  refine Pw.thenE ?_
  refine Pw.thenE ?_
  refine Pw.blkHit ?_
  refine Pw.thenN (Cw.out ?_)
  refine Cw.seq ?_
  refine Cw.region ?_
  refine Lw.val (Ex.move rfl) rfl ?_
  refine Lw.val (Ex.assign rfl) rfl ?_
  refine Lw.nil ?_
  refine Pw.thenN (Cw.out ?_)
  refine Cw.ret ?_
  refine Pw.ret1 rfl rfl ?_
  exact ⟨ho, hn⟩
end Go.Proofs.YtkhndfaampkbnaaGreatDoor
