/- Contracts: what the statements on tensors use besides. -/
import Derived.Test.YtkhndfaampkbnaaGreatDoorTensorsCode
import Derived.Test.YtkhndfaampkbnaaGreatDoorTwins
namespace Go.Proofs.YtkhndfaampkbnaaGreatDoor
open Go Go.Dd Go.RowKit
set_option maxRecDepth 100000

theorem nilT (w : World) : (T4.mk (.slice none 0 0) (.slice none 0 0) [] []).at w := ⟨Sl.nil w 1, Sl.nil w 1⟩
theorem Made1.at {W w : World} {x y : Value} {s : List Int} {l : List (BitVec 32)} (h : Made1 W w x y s l) : (T4.mk x y s l).at w := ⟨h.sh, own_sl h.own⟩
theorem getD_map {f : BitVec 32 → BitVec 32} {l : List (BitVec 32)} {i : Nat} (h : i < l.length) : (l.map f).getD i default = f (l.getD i default) := by simp [h]
theorem getD_rep {c : BitVec 32} {n i : Nat} (h : i < n) : (List.replicate n c).getD i default = c := by simp [h]
theorem tok_ok {s : List Int} {l : List (BitVec 32)} (h : tok s l = true) : Shapes.ok s = true ∧ l.length = (Shapes.size s).toNat := by
  simp only [tok, Bool.and_eq_true, decide_eq_true_eq] at h
  exact ⟨h.1, by omega⟩
theorem tok_len {s : List Int} {l m : List (BitVec 32)} (h : tok s l = true) (hm : m.length = l.length) : tok s m = true := by simpa [tok, hm] using h
/-- A contract's answer: a tensor of one's own, or none. -/
def Gets (W w : World) (r : Value) (e : Int) (s : List Int) (l : List (BitVec 32)) : Prop :=
  ∃ c : T4, r = .tuple #[c.v, .int .i64 e] ∧ c.at w ∧ (e ≠ 0 → c.s = [] ∧ c.l = []) ∧ (e = 0 → c.s = s ∧ c.l = l ∧ Made1 W w c.x c.y s l)
/-! How great an argument is. -/
def tsz (s : List Int) (l : List (BitVec 32)) : Int := if 1 + (s.length : Int) ≤ 1048576 then 1 + (s.length : Int) + (l.length : Int) else 1 + (s.length : Int)
def bey (n : Int) : List Int → Bool
  | [] => false
  | x :: l => if 1048576 < n + x then true else bey (n + x) l
theorem bey_no : ∀ {l : List Int} {n : Int}, 0 ≤ n → (∀ x ∈ l, 0 ≤ x) → bey n l = false → ∀ x ∈ l, x ≤ 1048576
  | [], _, _, _, _ => by simp
  | x :: l, n, h0, hx, h => by
    have h1 := hx x (by simp)
    simp only [bey] at h
    split at h
    · cases h
    · intro y hy
      rcases List.mem_cons.1 hy with rfl | hy
      · omega
      · exact bey_no (by omega) (fun z hz => hx z (by simp [hz])) h y hy
theorem bey_drop {l : List Int} {i : Nat} {n : Int} (h : i < l.length) : bey n (l.drop i) = (if 1048576 < n + l.getD i default then true else bey (n + l.getD i default) (l.drop (i + 1))) := by
  rw [List.drop_eq_getElem_cons h]; simp [bey, h]

theorem intsSize_c (u : Value) (l : List Int) (w : World) (hu : SlT (Value.int .i64) w u l) : Fnc Tryz.prog 90 [u] w (fun r w' => r = .int .i64 (l.length : Int) ∧ Below w.heap.size w w') := by
  refine Fnc.enter (n := 5) Tryz.func90 (by kernel_rfl) rfl rfl rfl ?_
  refine Cw.seq ?_
  refine Cw.region ?_
  refine Lw.val (Ex.assign rfl) rfl ?_
  refine Lw.nil ?_
  refine Pw.thenN (Cw.out ?_)
  refine Cw.seq ?_
  refine Cw.region ?_
  refine Lw.val (Ex.move rfl) rfl ?_
  refine Lw.val (Ex.lenS st_26 rfl (by assumption)) rfl ?_
  refine Lw.val (Ex.assign rfl) rfl ?_
  refine Lw.nil ?_
  refine Pw.thenN (Cw.out ?_)
  refine Cw.ret ?_
  refine Pw.ret1 rfl rfl ?_
  exact ⟨rfl, Below.refl _ _⟩
theorem numsSize_c (u : Value) (l : List (BitVec 32)) (w : World) (hu : SlT i32 w u l) : Fnc Tryz.prog 91 [u] w (fun r w' => r = .int .i64 (l.length : Int) ∧ Below w.heap.size w w') := by
  refine Fnc.enter (n := 5) Tryz.func91 (by kernel_rfl) rfl rfl rfl ?_
  refine Cw.seq ?_
  refine Cw.region ?_
  refine Lw.val (Ex.assign rfl) rfl ?_
  refine Lw.nil ?_
  refine Pw.thenN (Cw.out ?_)
  refine Cw.seq ?_
  refine Cw.region ?_
  refine Lw.val (Ex.move rfl) rfl ?_
  refine Lw.val (Ex.lenS st_27 rfl (by assumption)) rfl ?_
  refine Lw.val (Ex.assign rfl) rfl ?_
  refine Lw.nil ?_
  refine Pw.thenN (Cw.out ?_)
  refine Cw.ret ?_
  refine Pw.ret1 rfl rfl ?_
  exact ⟨rfl, Below.refl _ _⟩

theorem tsize_c (a : T4) (w : World) (ha : a.at w) (hs : a.s.length ≤ 1125899906842624) (hl : a.l.length ≤ 1125899906842624) : Fnc Tryz.prog 15 [a.v] w (fun r w' => r = .int .i64 (tsz a.s a.l) ∧ Below w.heap.size w w') := by
  have hB := Below.refl w.heap.size w
  refine Fnc.enter (n := 19) Tryz.func15 (by kernel_rfl) rfl rfl rfl ?_
  refine Cw.seq ?_
  refine Cw.region ?_
  refine Lw.valW (Xw.box (cs := [a.x, a.y]) rfl rfl) rfl ?_
  rintro _ w1 ⟨rfl, b, hn, -⟩
  replace hB := hB.bs hn
  replace ha := ha.bs hn
  have hx := ha.1
  refine Lw.val (Ex.assign rfl) rfl ?_
  refine Lw.nil ?_
  refine Pw.thenN (Cw.out ?_)
  refine Cw.seq ?_
  refine Cw.region ?_
  refine Lw.val (Ex.assign rfl) rfl ?_
  refine Lw.nil ?_
  refine Pw.thenN (Cw.out ?_)
  refine Cw.seq ?_
  refine Cw.seq ?_
  refine Cw.region ?_
  refine Lw.val (Ex.move rfl) rfl ?_
  refine Lw.val (Ex.leq rfl rfl) rfl ?_
  refine Lw.nil ?_
  refine Pw.thenN (Cw.out ?_)
  refine Cw.condB rfl true (by decide) ?_
  refine Cw.region ?_
  refine Lw.val (Ex.move rfl) rfl ?_
  refine Lw.val (Ex.fieldAddr (q := 0) Tryz.underlying29 rfl (sz_26 _) rfl) rfl ?_
  refine Lw.val (Ex.ldB (ag_26 _) rfl (by assumption) rfl) rfl ?_
  refine Lw.callF rfl rfl (intsSize_c a.x a.s w1 ha.1) ?_
  rintro _ w2 ⟨rfl, hn⟩
  replace hB := hB.bs hn
  replace ha := ha.bs hn
  replace b := b.bs hn
  refine Lw.val (Ex.addI rfl rfl (by omega)) rfl ?_
  refine Lw.val (Ex.assign rfl) rfl ?_
  refine Lw.nil ?_
  refine Pw.thenN (Cw.out ?_)
  refine Cw.seq ?_
  refine Cw.seq ?_
  refine Cw.region ?_
  refine Lw.val (Ex.move rfl) rfl ?_
  refine Lw.val (Ex.leq rfl rfl) rfl ?_
  refine Lw.nil ?_
  refine Pw.thenN (Cw.out ?_)
  refine Cw.cond rfl ?_ ?_
  · intro g
    have g' := of_decide_eq_true g
    refine Cw.region ?_
    refine Lw.val (Ex.move rfl) rfl ?_
    refine Lw.val (Ex.fieldAddr (q := 0) Tryz.underlying29 rfl (sz_27 _) rfl) rfl ?_
    refine Lw.val (Ex.ldB (ag_27 _) rfl (by assumption) rfl) rfl ?_
    refine Lw.callF rfl rfl (numsSize_c a.y a.l w2 ha.2) ?_
    rintro _ w3 ⟨rfl, hn⟩
    replace hB := hB.bs hn
    replace ha := ha.bs hn
    replace b := b.bs hn
    refine Lw.val (Ex.addI rfl rfl (by omega)) rfl ?_
    refine Lw.val (Ex.assign rfl) rfl ?_
    refine Lw.nil ?_
    refine Pw.thenN (Cw.out ?_)
    refine Cw.seq ?_
    refine Cw.region ?_
    refine Lw.val (Ex.move rfl) rfl ?_
    refine Lw.val (Ex.assign rfl) rfl ?_
    refine Lw.nil ?_
    refine Pw.thenN (Cw.out ?_)
    refine Cw.ret ?_
    refine Pw.ret1 rfl rfl ?_
    exact ⟨by rw [tsz, if_pos g'], hB⟩
  · intro g
    have g' := of_decide_eq_false g
    refine Cw.skip ?_
    refine Pw.thenN (Cw.out ?_)
    refine Cw.seq ?_
    refine Cw.region ?_
    refine Lw.val (Ex.move rfl) rfl ?_
    refine Lw.val (Ex.assign rfl) rfl ?_
    refine Lw.nil ?_
    refine Pw.thenN (Cw.out ?_)
    refine Cw.ret ?_
    refine Pw.ret1 rfl rfl ?_
    exact ⟨by rw [tsz, if_neg g'], hB⟩

theorem beyond_c (u : Value) (l : List Int) (w : World) (hu : SlT (Value.int .i64) w u l) (hb : ∀ x ∈ l, 0 ≤ x ∧ x ≤ 4503599627370496) : Fnc Tryz.prog 5 [u] w (fun r w' => r = .bool (bey 0 l) ∧ Below w.heap.size w w') := by
  have hle := hu.le
  refine Fnc.enter (n := 19) Tryz.func5 (by kernel_rfl) rfl rfl rfl ?_
  refine Cw.seq ?_
  refine Cw.region ?_
  refine Lw.val (Ex.assign rfl) rfl ?_
  refine Lw.nil ?_
  refine Pw.thenN (Cw.out ?_)
  refine Cw.seq ?_
  refine Cw.region ?_
  refine Lw.val (Ex.assign rfl) rfl ?_
  refine Lw.nil ?_
  refine Pw.thenN (Cw.out ?_)
  refine Cw.seq ?_
  refine Cw.seq ?_
  refine Cw.region ?_
  refine Lw.val (Ex.assign rfl) rfl ?_
  refine Lw.nil ?_
  refine Pw.thenN (Cw.out ?_)
  refine Cw.block ?_
  refine Cw.loop (S := (Nat × Int)) (fun s => [(0, u), (3, .int .i64 s.2), (4, .int .i64 (s.1 : Int))]) (fun s w' => s.1 ≤ l.length ∧ (0 ≤ s.2 ∧ s.2 ≤ 1048576) ∧ bey s.2 (l.drop s.1) = bey 0 l ∧ w' = w) (fun s => l.length - s.1) ((0, 0)) ⟨rfl, rfl, rfl, trivial⟩ ?_ ?_
  · exact ⟨by simp, by simp, by simp, rfl⟩
  rintro ⟨i, n⟩ w1 ⟨hi, hn, ht, rfl⟩
  dsimp only at hi hn ht ⊢
  refine Cw.seq ?_
  refine Cw.seq ?_
  refine Cw.region ?_
  refine Lw.val (Ex.move rfl) rfl ?_
  refine Lw.val (Ex.move rfl) rfl ?_
  refine Lw.val (Ex.lenS st_26 rfl (by assumption)) rfl ?_
  refine Lw.val (Ex.lss rfl rfl) rfl ?_
  refine Lw.nil ?_
  refine Pw.thenN (Cw.out ?_)
  refine Cw.cond rfl ?_ ?_
  · intro h
    have hi' : i < l.length := by simp at h; omega
    have hx : 0 ≤ l.getD i default ∧ l.getD i default ≤ 4503599627370496 := by
      have := hb l[i] (List.getElem_mem hi')
      simpa [hi'] using this
    rw [bey_drop hi'] at ht
    refine Cw.skip ?_
    refine Pw.thenN (Cw.out ?_)
    refine Cw.seq ?_
    refine Cw.block ?_
    refine Cw.seq ?_
    refine Cw.region ?_
    refine Lw.val (Ex.move rfl) rfl ?_
    refine Lw.val (Ex.move rfl) rfl ?_
    refine Lw.val (Ex.move rfl) rfl ?_
    refine Lw.val (Ex.idxT st_26 rfl rfl (by assumption) _ rfl (by omega)) rfl ?_
    refine Lw.val (Ex.ldT (ag_3 _) rfl (by assumption) (by omega)) rfl ?_
    refine Lw.val (Ex.addI rfl rfl (by omega)) rfl ?_
    refine Lw.val (Ex.assign rfl) rfl ?_
    refine Lw.nil ?_
    refine Pw.thenN (Cw.out ?_)
    refine Cw.seq ?_
    refine Cw.region ?_
    refine Lw.val (Ex.move rfl) rfl ?_
    refine Lw.val (Ex.gtr rfl rfl) rfl ?_
    refine Lw.nil ?_
    refine Pw.thenN (Cw.out ?_)
    refine Cw.cond rfl ?_ ?_
    · intro g
      have g' := of_decide_eq_true g
      refine Cw.seq ?_
      refine Cw.region ?_
      refine Lw.val (Ex.assign rfl) rfl ?_
      refine Lw.nil ?_
      refine Pw.thenN (Cw.out ?_)
      refine Cw.ret ?_
      refine Pw.blkR ?_
      refine Pw.thenR ?_
      refine Pw.thenR ?_
      refine Pw.blkR ?_
      refine Pw.thenR ?_
      refine Pw.ret1 rfl rfl ?_
      exact ⟨by rw [← ht, if_pos g'], Below.refl _ _⟩
    · intro g
      have g' := of_decide_eq_false g
      rw [if_neg g'] at ht
      refine Cw.skip ?_
      refine Pw.blkN ?_
      refine Pw.thenN (Cw.out ?_)
      refine Cw.region ?_
      refine Lw.val (Ex.move rfl) rfl ?_
      refine Lw.val (Ex.addI rfl rfl (by omega)) rfl ?_
      refine Lw.val (Ex.assign rfl) rfl ?_
      refine Lw.nil ?_
      exact Pw.thenN (Pw.next ((i + 1, n + l.getD i default)) ⟨rfl, rfl, rfl, trivial⟩ (⟨hi', ⟨by simp only; omega, by simp only; omega⟩, ht, rfl⟩) (by simp only; omega))
  · intro h
    have hi' : i = l.length := by simp at h; omega
    subst hi'
    refine Cw.exit ?_
    refine Pw.thenE ?_
    refine Pw.thenE ?_
    refine Pw.blkHit ?_
    refine Pw.thenN (Cw.out ?_)
    refine Cw.seq ?_
    refine Cw.region ?_
    refine Lw.val (Ex.assign rfl) rfl ?_
    refine Lw.nil ?_
    refine Pw.thenN (Cw.out ?_)
    refine Cw.ret ?_
    refine Pw.ret1 rfl rfl ?_
    exact ⟨by rw [← ht, List.drop_length]; rfl, Below.refl _ _⟩
end Go.Proofs.YtkhndfaampkbnaaGreatDoor
