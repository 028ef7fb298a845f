/- Texts of this proof, one behind the other: MathsShiftCode, MathsLaw, TensorsArg, TwinTensor, ProductsCode, WinCode, WinOf, WinPool. -/
import Derived.Test.YtmipoeanpnnjoaaGreatPk2
import Derived.Test.YtmipoeanpnnjoaaGreatPk1

/-! Contracts: what is below 0 made 0; shifts. -/
namespace Go.Proofs.YtmipoeanpnnjoaaGreat
open Go Go.Dd Go.RowKit
set_option maxRecDepth 100000

def reluB (x : BitVec 32) : BitVec 32 := if 0 < x.toInt then x else 0#32
theorem relu_eq (x : BitVec 32) : Value.int .i32 (if (0 : Int) < x.toInt then x.toInt else 0) = i32 (reluB x) := by
 unfold reluB
 split <;> rfl
def reluG (l : List (BitVec 32)) : BitVec 32 := reluB (l.getD 0 default)

theorem relu1_c (u : Value) (xs : List (BitVec 32)) (w : World) (hu : SlT i32 w u xs) (hl : xs.length = 1) : Fnc Tryz.prog 105 [u] w (fun r w' => r = i32 (reluG xs) ∧ Below w.heap.size w w') := by
 refine Fnc.enter (n := 7) Tryz.func105 (by kernel_rfl) rfl rfl rfl <| Cw.seq <| Cw.region <| Lw.val (Ex.assign (show _ = some (i32 (0#32)) from rfl)) rfl <| Lw.nil <| Pw.thenN <| Cw.out <| Cw.seq <| Cw.region <| Lw.val (Ex.move rfl) rfl <| Lw.val (Ex.idxS st_27 rfl rfl hu.shp 0 rfl (by omega)) rfl <| Lw.val (Ex.ldT (ag_21 _) rfl (by assumption) (by omega)) rfl ?_
 refine Lw.val (Ex.as (Ex.max2 (m := 0) (q := (xs.getD 0 default).toInt) rfl rfl) (relu_eq _)) rfl <| Lw.val (Ex.assign rfl) rfl <| Lw.nil <| Pw.thenN <| Cw.out <| Cw.ret <| Pw.ret1 rfl rfl ?_
 exact ⟨rfl, Below.refl _ _⟩

theorem relu_c (a : T4) (W : World) (ha : a.at W) :
  Fnc Tryz.prog 77 [a.v] W (fun r w' => Below W.heap.size W w' ∧ Ans W w' r (ofE [a] a.s) a.s (ofL id reluG [a] (Shapes.size a.s).toNat)) := by
 refine Fnc.enter (n := 10) Tryz.func77 (by kernel_rfl) rfl rfl rfl <| Cw.seq <| Cw.region <| Lw.valW (Xw.box (cs := [a.x, a.y]) rfl rfl) rfl ?_
 rintro _ w1 ⟨rfl, h1, hB1, s1⟩
 refine Lw.valW (Xw.new it_29) rfl ?_
 rintro _ w3 ⟨rfl, h3, hw3, s3⟩
 have hB3 := bt hB1 hw3
 have h1 := h1.bs hw3
 refine Lw.val (Ex.assign rfl) rfl <| Lw.nil <| Pw.thenN <| Cw.out <| Cw.seq <| Cw.region <| Lw.val (Ex.build (vs := [(0, .func (.func 105) #[] #[])]) (cs := [.func (.func 105) #[] #[]]) rfl rfl) rfl <| Lw.val (Ex.ldA (ag_29 _) (sz_29 _) rfl rfl (by assumption)) rfl ?_
 refine Lw.valW (Xw.litA (vs := [(0, a.v)]) (cs := cellsOf [a]) st_25 it_29 rfl (by decide) (by decide) (by decide) (by kernel_rfl) rfl) rfl ?_
 rintro v w4 ⟨ho4, -, hw4, s4⟩
 have hB4 := bt hB3 hw4
 refine Lw.callF rfl rfl (of32_c [a] v a 105 [] reluG w4 rfl (by simp) (own_sl ho4) (fun t ht => by simp at ht; subst ht; exact ha.bs hB4) (fun w u xs _ hu hl => relu1_c u xs w hu hl)) ?_
 rintro _ w5 ⟨hw5, x, y, rfl, q1, q2⟩
 have hB5 := bt hB4 hw5
 have h5 := (h3.bs hw4).bs hw5
 refine Lw.val (Ex.extract (i := 0) rfl rfl) rfl <| Lw.val (Ex.extract (i := 1) rfl rfl) rfl <| Lw.unit (Xu.stA (cs := [x, y]) rfl rfl rfl rfl (ans_one q1 q2) h5 rfl) ?_
 rintro w6 ⟨h6, hg6, -⟩
 have z2 := hB1.size
 have hB6 : Below W.heap.size W w6 := hB5.grown hg6 (below_size hB5) (by rintro _ ⟨⟩; exact z2)
 refine Lw.val (Ex.assign rfl) rfl <| Lw.nil <| Pw.thenN <| Cw.out <| Cw.ret <| Pw.retCT rfl rfl rfl (by assumption) (Tryz.underlying29) rfl rfl rfl ?_
 exact ⟨hB6, x, y, rfl, q1, fun h => (q2 h).out hg6 (by omega) (by omega)⟩

theorem of64_c (ts : List T4) (v : Value) (t0 : T4) (f : FuncId) (q : List Value) (g : List Int → Int) (W : World) (h0 : ts[0]? = some t0) (hk : ts.length ≤ 1000) (hv : Sl W 2 v ts.length (cellsOf ts)) (hts : ∀ t ∈ ts, t.at W)
    (hdo : ∀ (w : World) (u : Value) (xs : List Int), Below W.heap.size W w → SlT (Value.int .i64) w u xs → (∃ i : Nat, xs = ts.map fun t => (t.l.getD i default).toInt) → Fnc Tryz.prog f (u :: q) w (fun r w' => r = .int .i64 (g xs) ∧ Below w.heap.size w w')) :
    Fnc Tryz.prog 108 [.agg #[.func (.func f) #[] q.toArray], v] W (fun r w' => Below W.heap.size W w' ∧ ∃ x y, r = .tuple #[.agg #[x, y], .int .i64 (ofE ts t0.s)] ∧ (ofE ts t0.s ≠ 0 → x = .slice none 0 0 ∧ y = .slice none 0 0) ∧ (ofE ts t0.s = 0 → Made1 W w' x y t0.s (ofL BitVec.toInt (fun xs => BitVec.ofInt 32 (g xs)) ts (Shapes.size t0.s).toNat))) := by
  have hpos : 0 < ts.length := by
    cases ts with
    | nil => cases h0
    | cons => simp
  have hvs : ∃ ad c k, v = .slice (some ad) c k := by
    obtain ⟨_, ao, cap, rfl, h1, h2, h3, h4⟩ := hv
    cases ao with
    | none => have := h3 rfl; omega
    | some ad => exact ⟨ad, _, _, rfl⟩
  refine Fnc.enter (n := 86) Tryz.func108 (by kernel_rfl) rfl rfl rfl <| Cw.seq <| Cw.region <| Lw.valW (Xw.box (cs := [.func (.func f) #[] q.toArray]) rfl rfl) rfl ?_
  rintro _ w1 ⟨rfl, hb2, hB1, hs1⟩
  refine Lw.valW (Xw.new it_29) rfl ?_
  rintro _ w2 ⟨rfl, hb4, hw2, hs2⟩
  have hB2 := bt hB1 hw2
  have hb2 := hb2.bs hw2
  refine Lw.val (Ex.assign rfl) rfl <| Lw.nil <| Pw.thenN <| Cw.out <| Cw.seq <| Cw.seq <| Cw.region <| Lw.val (Ex.move rfl) rfl <| Lw.val (Ex.lenS (sz := 2) st_25 rfl (hv.bs hB2)) rfl <| Lw.val (Ex.move rfl) rfl <| Lw.nil <| Pw.thenN <| Cw.out <| Cw.block ?_
  refine Cw.loop (S := Nat) (fun i => [(1, v), (2, .pointer (some ⟨W.heap.size, 0, none⟩)), (4, .pointer (some ⟨w1.heap.size, 0, none⟩)), (5, .int .i64 0), (16, v), (17, .int .i64 (ts.length : Int)), (18, .int .i64 (i : Int))]) (fun i w' => i ≤ ts.length ∧ (∀ t ∈ ts.take i, t.ok = true) ∧ Below w2.heap.size w2 w') (fun i => ts.length - i) (0) ⟨rfl, rfl, rfl, rfl, rfl, rfl, rfl, trivial⟩ ?_ ?_
  · exact ⟨by omega, by simp, Below.refl _ _⟩
  rintro i w3 ⟨hi, hall, hw3⟩
  have hB3 := bt hB2 hw3
  refine Cw.seq <| Cw.region <| Lw.val (Ex.lss rfl rfl) rfl <| Lw.nil <| Pw.thenN <| Cw.out <| Cw.seq <| Cw.cond rfl ?_ ?_
  · intro h
    have hi' : i < ts.length := by simp at h; omega
    obtain ⟨c1, c2⟩ := cells_at hi'
    have hv3 := hv.bs hB3
    refine Cw.skip <| Pw.thenN <| Cw.out <| Cw.seq <| Cw.block <| Cw.seq <| Cw.region <| Lw.val (Ex.idx st_25 rfl rfl hv3 i rfl hi') rfl <| Lw.val (Ex.ldE (cs := [ts[i].x, ts[i].y]) (ag_29 _) (sz_29 _) rfl hv3 rfl (by decide) (fun j hj => by rcases (show j = 0 ∨ j = 1 by omega) with rfl | rfl; exact ⟨_, rfl, c1⟩; exact ⟨_, rfl, c2⟩)) rfl <| Lw.valW (Xw.new it_29) rfl ?_
    rintro _ w4 ⟨rfl, hb7, hw4, hs4⟩
    refine Lw.unit (Xu.stA (cs := [ts[i].x, ts[i].y]) rfl rfl rfl rfl (by have := (hts _ (List.getElem_mem hi')); simp [this.1.one', this.2.one']) hb7 rfl) ?_
    rintro w5 ⟨hb7, hg5, hs5⟩
    have hw5 : Below w3.heap.size w3 w5 := hw4.grown hg5 (below_size hw4) (by rintro _ ⟨⟩; exact Nat.le_refl _)
    have hB5 := bt hB3 hw5
    have hat := (hts _ (List.getElem_mem hi')).bs hB5
    refine Lw.nil <| Pw.thenN <| Cw.out <| Cw.seq <| Cw.region <| Lw.val (Ex.ldA (ag_29 _) (sz_29 _) rfl rfl (by assumption)) rfl ?_
    refine Lw.callF rfl rfl (tcheck_c ts[i].x ts[i].y ts[i].s ts[i].l w5 hat.1 hat.2) ?_
    rintro _ w6 ⟨rfl, hw6⟩
    have hw6' := bt hw3 (bt hw5 hw6)
    refine Lw.val (Ex.not rfl) rfl <| Lw.nil <| Pw.thenN <| Cw.out <| Cw.cond rfl ?_ ?_
    · intro h
      have hno : ts[i].ok = false := by simpa [T4.ok] using h
      have hb4' := hb4.bs hw6'
      refine Cw.seq <| Cw.region <| Lw.val (Ex.build (vs := []) (cs := [.slice none 0 0, .slice none 0 0]) rfl (by kernel_rfl)) rfl <| Lw.unit (Xu.stA (cs := [.slice none 0 0, .slice none 0 0]) rfl rfl rfl rfl rfl hb4' rfl) ?_
      rintro w7 ⟨hb7', hg7, -⟩
      have hB6 := bt hB2 hw6'
      have hB7 : Below W.heap.size W w7 := hB6.grown hg7 (below_size hB6) (by rintro _ ⟨⟩; omega)
      have he : ofE ts t0.s = 1 := by
        unfold ofE
        rw [if_neg]
        intro ha
        rw [List.all_eq_true.1 ha _ (List.getElem_mem hi')] at hno
        cases hno
      refine Lw.val (Ex.assign rfl) rfl <| Lw.nil <| Pw.thenN <| Cw.out <| Cw.ret <| Pw.blkR <| Pw.thenR <| Pw.thenR <| Pw.blkR <| Pw.thenR <| Pw.retCT rfl rfl rfl (by assumption) (Tryz.underlying29) rfl rfl rfl ?_
      exact ⟨hB7, _, _, by rw [he], fun _ => ⟨rfl, rfl⟩, fun h => by rw [he] at h; cases h⟩
    · intro h
      have hyes : ts[i].ok = true := by simpa [T4.ok] using h
      have hall' : ∀ t ∈ ts.take (i + 1), t.ok = true := fun t ht => by
        rw [List.take_succ_eq_append_getElem hi'] at ht
        rcases List.mem_append.1 ht with h | h
        · exact hall t h
        · rw [List.mem_singleton.1 h]; exact hyes
      refine Cw.skip <| Pw.blkN <| Pw.thenN <| Cw.out <| Cw.region <| Lw.val (Ex.addI rfl rfl (by omega)) rfl <| Lw.val (Ex.move rfl) rfl <| Lw.nil ?_
      exact Pw.thenN (Pw.next (i + 1) ⟨rfl, rfl, rfl, rfl, rfl, rfl, rfl, trivial⟩ (⟨hi', hall', hw6'⟩) (by omega))
  intro h
  have hi' : i = ts.length := by simp at h; omega
  subst hi'
  rw [List.take_length] at hall
  obtain ⟨c1, c2⟩ := cells_at hpos
  have h00 : ts[0] = t0 := by rw [List.getElem?_eq_getElem hpos] at h0; exact Option.some.inj h0
  rw [h00] at c1 c2
  have hm0 : t0 ∈ ts := h00 ▸ List.getElem_mem hpos
  have hv3 := hv.bs hB3
  have ht0 := (hts t0 hm0).bs hB3
  have hok0 : Shapes.ok t0.s = true := by
    have := hall t0 hm0
    simp only [T4.ok, tok, Bool.and_eq_true] at this
    exact this.1
  have hsz := Shapes.size_le t0.s
  refine Cw.exit <| Pw.thenE <| Pw.thenE <| Pw.blkHit <| Pw.thenN <| Cw.out <| Cw.seq <| Cw.region <| Lw.val (Ex.move rfl) rfl <| Lw.val (Ex.idx st_25 rfl rfl hv3 0 rfl hpos) rfl <| Lw.val (Ex.fieldAddrE Tryz.underlying29 rfl (sz_26 _) rfl hvs) rfl <| Lw.val (Ex.ld (ag_26 _) rfl hv3 c1) rfl <| Lw.callF rfl rfl (new_c t0.x t0.s w3 ht0.1) ?_
  rintro r w4 ⟨hw4, hcase⟩
  obtain ⟨x, y, rfl, hm⟩ : ∃ x y, r = .tuple #[.agg #[x, y], .int .i64 0] ∧ Made1 w3 w4 x y t0.s (List.replicate (Shapes.size t0.s).toNat 0#32) := by
    rcases hcase with ⟨_, h⟩ | ⟨h, _⟩
    · exact h
    · rw [hok0] at h; cases h
  have hB4 := bt hB3 hw4
  refine Lw.val (Ex.move rfl) rfl <| Lw.val (Ex.extract (i := 0) rfl rfl) rfl <| Lw.val (Ex.extract (i := 1) rfl rfl) rfl <| Lw.valW (Xw.new it_29) rfl ?_
  rintro _ w5 ⟨rfl, hb8, hw5, hs5⟩
  have hm5 := hm.bs hw5
  refine Lw.unit (Xu.stA (cs := [x, y]) rfl rfl rfl rfl (by simp [hm.sh.one', (own_sl hm.own).one']) hb8 rfl) ?_
  rintro w6 ⟨hb8, hg6, hs6⟩
  have hw6 : Below w4.heap.size w4 w6 := hw5.grown hg6 (below_size hw5) (by rintro _ ⟨⟩; exact Nat.le_refl _)
  have hm6 := hm.bs hw6
  have hB6 := bt hB4 hw6
  have hw26 : Below w2.heap.size w2 w6 := bt hw3 (bt hw4 hw6)
  clear hm5 hw5 hg6
  refine Lw.val (Ex.assign rfl) rfl <| Lw.nil <| Pw.thenN <| Cw.out <| Cw.seq <| Cw.seq <| Cw.region <| Lw.val (Ex.move rfl) rfl <| Lw.val (Ex.lenS (sz := 2) st_25 rfl (hv.bs hB6)) rfl <| Lw.val (Ex.move rfl) rfl <| Lw.nil <| Pw.thenN <| Cw.out <| Cw.block ?_
  refine Cw.loop (S := Nat) (fun i => [(1, v), (2, .pointer (some ⟨W.heap.size, 0, none⟩)), (4, .pointer (some ⟨w1.heap.size, 0, none⟩)), (5, .int .i64 0), (8, .pointer (some ⟨w4.heap.size, 0, none⟩)), (35, v), (36, .int .i64 (ts.length : Int)), (37, .int .i64 (i : Int))]) (fun i w' => i ≤ ts.length ∧ (∀ t ∈ ts.take i, t.s = t0.s) ∧ Below w6.heap.size w6 w') (fun i => ts.length - i) (0) ⟨rfl, rfl, rfl, rfl, rfl, rfl, rfl, rfl, trivial⟩ ?_ ?_
  · exact ⟨by omega, by simp, Below.refl _ _⟩
  rintro i w7 ⟨hi, hsame, hw7⟩
  have hB7 := bt hB6 hw7
  refine Cw.seq <| Cw.region <| Lw.val (Ex.lss rfl rfl) rfl <| Lw.nil <| Pw.thenN <| Cw.out <| Cw.seq <| Cw.cond rfl ?_ ?_
  · intro h
    have hi' : i < ts.length := by simp at h; omega
    obtain ⟨c1, c2⟩ := cells_at hi'
    have hv7 := hv.bs hB7
    refine Cw.skip <| Pw.thenN <| Cw.out <| Cw.seq <| Cw.block <| Cw.seq <| Cw.region <| Lw.val (Ex.idx st_25 rfl rfl hv7 i rfl hi') rfl <| Lw.val (Ex.ldE (cs := [ts[i].x, ts[i].y]) (ag_29 _) (sz_29 _) rfl hv7 rfl (by decide) (fun j hj => by rcases (show j = 0 ∨ j = 1 by omega) with rfl | rfl; exact ⟨_, rfl, c1⟩; exact ⟨_, rfl, c2⟩)) rfl <| Lw.valW (Xw.new it_29) rfl ?_
    rintro _ w8 ⟨rfl, hb11, hw8, hs8⟩
    refine Lw.unit (Xu.stA (cs := [ts[i].x, ts[i].y]) rfl rfl rfl rfl (by have := (hts _ (List.getElem_mem hi')); simp [this.1.one', this.2.one']) hb11 rfl) ?_
    rintro w9 ⟨hb11, hg9, hs9⟩
    have hw9 : Below w7.heap.size w7 w9 := hw8.grown hg9 (below_size hw8) (by rintro _ ⟨⟩; exact Nat.le_refl _)
    have hB9 := bt hB7 hw9
    have hw69 := bt hw7 hw9
    have hat := (hts _ (List.getElem_mem hi')).bs hB9
    have hb8' := hb8.bs hw69
    have hm9 := hm6.bs hw69
    refine Lw.nil <| Pw.thenN <| Cw.out <| Cw.seq <| Cw.region <| Lw.val (Ex.fieldAddr (q := 0) Tryz.underlying29 rfl (sz_26 _) rfl) rfl <| Lw.val (Ex.ldB (ag_26 _) rfl (by assumption) rfl) rfl ?_
    refine Lw.val (Ex.fieldAddr (q := 0) Tryz.underlying29 rfl (sz_26 _) rfl) rfl <| Lw.val (Ex.ldB (ag_26 _) rfl (by assumption) rfl) rfl ?_
    refine Lw.callF rfl rfl (equalInts_c ts[i].x x ts[i].s t0.s w9 hat.1 hm9.sh) ?_
    rintro _ w10 ⟨rfl, hw10⟩
    have hw6a := bt hw69 hw10
    refine Lw.val (Ex.not rfl) rfl <| Lw.nil <| Pw.thenN <| Cw.out <| Cw.cond rfl ?_ ?_
    · intro h
      have hno : ¬ ts[i].s = t0.s := by simpa using h
      have hb4' := (hb4.bs hw26).bs hw6a
      have hB10 := bt hB6 hw6a
      refine Cw.seq <| Cw.region <| Lw.val (Ex.build (vs := []) (cs := [.slice none 0 0, .slice none 0 0]) rfl (by kernel_rfl)) rfl <| Lw.unit (Xu.stA (cs := [.slice none 0 0, .slice none 0 0]) rfl rfl rfl rfl rfl hb4' rfl) ?_
      rintro w11 ⟨hb4', hg11, -⟩
      have hB11 : Below W.heap.size W w11 := hB10.grown hg11 (below_size hB10) (by rintro _ ⟨⟩; omega)
      have he : ofE ts t0.s = 10 := by
        unfold ofE
        rw [if_pos (List.all_eq_true.2 hall), if_neg]
        intro ha
        exact hno (of_decide_eq_true (List.all_eq_true.1 ha _ (List.getElem_mem hi')))
      refine Lw.val (Ex.assign rfl) rfl <| Lw.nil <| Pw.thenN <| Cw.out <| Cw.ret <| Pw.blkR <| Pw.thenR <| Pw.thenR <| Pw.blkR <| Pw.thenR <| Pw.retCT rfl rfl rfl (by assumption) (Tryz.underlying29) rfl rfl rfl ?_
      exact ⟨hB11, _, _, by rw [he], fun _ => ⟨rfl, rfl⟩, fun h => by rw [he] at h; cases h⟩
    · intro h
      have hyes : ts[i].s = t0.s := by simpa using h
      have hsame' : ∀ t ∈ ts.take (i + 1), t.s = t0.s := fun t ht => by
        rw [List.take_succ_eq_append_getElem hi'] at ht
        rcases List.mem_append.1 ht with h | h
        · exact hsame t h
        · rw [List.mem_singleton.1 h]; exact hyes
      refine Cw.skip <| Pw.blkN <| Pw.thenN <| Cw.out <| Cw.region <| Lw.val (Ex.addI rfl rfl (by omega)) rfl <| Lw.val (Ex.move rfl) rfl <| Lw.nil ?_
      exact Pw.thenN (Pw.next (i + 1) ⟨rfl, rfl, rfl, rfl, rfl, rfl, rfl, rfl, trivial⟩ (⟨hi', hsame', hw6a⟩) (by omega))
  intro h
  have hi' : i = ts.length := by simp at h; omega
  subst hi'
  rw [List.take_length] at hsame
  have he : ofE ts t0.s = 0 := by
    unfold ofE
    rw [if_pos (List.all_eq_true.2 hall), if_pos (List.all_eq_true.2 fun t ht => decide_eq_true (hsame t ht))]
  obtain ⟨N, hN⟩ : ∃ N, N = (Shapes.size t0.s).toNat := ⟨_, rfl⟩
  obtain ⟨K, hK⟩ : ∃ K, K = ts.length := ⟨_, rfl⟩
  have hlen : ∀ t ∈ ts, t.l.length = N := fun t ht => by
    have := hall t ht
    simp only [T4.ok, tok, Bool.and_eq_true, decide_eq_true_eq] at this
    rw [hsame t ht] at this
    omega
  have z3 := hB3.size
  have z23 := hw3.size
  have z34 := hw4.size
  have z67 := (bt hw6 hw7).size
  rw [← hN] at hm6 hm
  have hmA := hm6.bs hw7
  have hyb : ∀ b, y.ownBlock = some b → w3.heap.size ≤ b ∧ b < w4.heap.size := own_block hm.own
  have facts : ∀ w', w7.grownBy w' y.ownBlock → Below W.heap.size W w' ∧ Blk w' W.heap.size 130 [.func (.func f) #[] q.toArray] ∧ Blk w' w1.heap.size 29 [.slice none 0 0, .slice none 0 0] ∧ Blk w' w4.heap.size 29 [x, y] ∧ KRow w' w3.heap.size 3 1 x t0.s.length (t0.s.map (Value.int .i64)) := fun w' hg =>
    ⟨hB7.grown hg (below_size hB7) (fun b hb => by have := (hyb b hb).1; omega),
     ((hb2.bs hw26).bs hw7).by hg (fun h => by have := (hyb _ h.symm).1; omega),
     ((hb4.bs hw26).bs hw7).by hg (fun h => by have := (hyb _ h.symm).1; omega),
     (hb8.bs hw7).by hg (fun h => by have := (hyb _ h.symm).2; omega),
     hmA.row.by' hg (by
      cases hx : x.ownBlock with
      | none => exact .inl rfl
      | some b => exact .inr fun h => hmA.apart b h.symm hx)⟩
  have hownA : w7.ownsRow w3.heap.size 21 1 y N ((ofL BitVec.toInt (fun xs => BitVec.ofInt 32 (g xs)) ts 0 ++ List.replicate (N - 0) 0#32).map i32) := by
    have := hmA.own
    rw [List.length_replicate] at this
    exact this
  rw [← hK]
  refine Cw.exit <| Pw.thenE <| Pw.thenE <| Pw.blkHit <| Pw.thenN <| Cw.out <| Cw.seq <| Cw.region <| Lw.val (Ex.move rfl) rfl <| Lw.val (Ex.lenS (sz := 2) st_25 rfl (hv.bs hB7)) rfl <| Lw.valW (Xw.make st_126 it_2 rfl rfl rfl (Nat.le_refl _) (by omega) (by omega)) rfl ?_
  rintro sv w8 ⟨ho8, hsv, hw8, hs8⟩
  have hg8 : w7.grownBy w8 y.ownBlock := below_grown hw8 _
  obtain ⟨f1, f2, f4, f8, fx⟩ := facts w8 hg8
  have hy8 := own_bs hownA hw8
  have hyT := own_slT hy8
  refine Lw.val (Ex.assign rfl) rfl <| Lw.nil <| Pw.thenN <| Cw.out <| Cw.seq <| Cw.seq <| Cw.region <| Lw.val (Ex.fieldAddr (q := 0) Tryz.underlying29 rfl (sz_27 _) rfl) rfl <| Lw.val (Ex.ldB (ag_27 _) rfl (by assumption) rfl) rfl ?_
  refine Lw.val (Ex.lenS st_27 rfl (by assumption)) rfl ?_
  refine Lw.val (Ex.move rfl) rfl <| Lw.nil <| Pw.thenN <| Cw.out <| Cw.block ?_
  have hlen0 : (ofL BitVec.toInt (fun xs => BitVec.ofInt 32 (g xs)) ts 0 ++ List.replicate (N - 0) 0#32).length = N := by simp [ofL]
  refine Cw.know 54 (v' := .int .i64 (N : Int)) rfl (congrArg (Value.int .i64) (by rw [hlen0])) ?_
  have hrep : ∃ rest : List Int, rest.length = K ∧ w8.ownsRow w7.heap.size 2 1 sv K (rest.map (Value.int .i64)) := by
    refine ⟨List.replicate K (0 : Int), by simp, ?_⟩
    have e : (List.replicate K [Value.int .i64 0]).flatten = (List.replicate K (0 : Int)).map (Value.int .i64) := by
      clear ho8 hsv hk
      generalize K = K
      induction K with
      | zero => rfl
      | succ n ih => simp [List.replicate_succ]
    rw [← e]; rw [← hK] at ho8; exact ho8
  have hsvb : sv.ownBlock = some w7.heap.size := by rw [hsv]; rfl
  refine Cw.loop (S := Nat) (fun i => [(1, v), (2, .pointer (some ⟨W.heap.size, 0, none⟩)), (4, .pointer (some ⟨w1.heap.size, 0, none⟩)), (5, .int .i64 0), (8, .pointer (some ⟨w4.heap.size, 0, none⟩)), (12, sv), (54, .int .i64 (N : Int)), (55, .int .i64 (i : Int))]) (fun i w' => i ≤ N ∧ w7.grownBy w' y.ownBlock ∧ w'.ownsRow w3.heap.size 21 1 y N ((ofL BitVec.toInt (fun xs => BitVec.ofInt 32 (g xs)) ts i ++ List.replicate (N - i) 0#32).map i32) ∧ (∃ rest : List Int, rest.length = K ∧ w'.ownsRow w7.heap.size 2 1 sv K (rest.map (Value.int .i64)))) (fun i => N - i) (0) ⟨rfl, rfl, rfl, rfl, rfl, rfl, rfl, rfl, trivial⟩ ?_ ?_
  · exact ⟨by omega, hg8, hy8, hrep⟩
  clear ho8 hy8 hyT hrep f1 f2 f4 f8 fx hw8
  rintro i w9 ⟨hi, hg9, hy9, rest9, hr9, hs9⟩
  obtain ⟨f1, f2, f4, f8, fx⟩ := facts w9 hg9
  refine Cw.seq <| Cw.region <| Lw.val (Ex.lss rfl rfl) rfl <| Lw.nil <| Pw.thenN <| Cw.out <| Cw.seq <| Cw.cond rfl ?_ ?_
  · intro h
    have hi' : i < N := by simp at h; omega
    refine Cw.skip <| Pw.thenN <| Cw.out <| Cw.seq <| Cw.block <| Cw.seq <| Cw.region <| Lw.val (Ex.move rfl) rfl <| Lw.val (Ex.assign rfl) rfl <| Lw.nil <| Pw.thenN <| Cw.out <| Cw.seq <| Cw.seq <| Cw.region <| Lw.val (Ex.move rfl) rfl <| Lw.val (Ex.lenS (sz := 2) st_25 rfl (hv.bs f1)) rfl <| Lw.val (Ex.move rfl) rfl <| Lw.nil <| Pw.thenN <| Cw.out <| Cw.block <| Cw.know 59 (v' := .int .i64 (K : Int)) rfl (by rw [hK]) ?_
    refine Cw.loop (S := Nat) (fun k => [(1, v), (2, .pointer (some ⟨W.heap.size, 0, none⟩)), (4, .pointer (some ⟨w1.heap.size, 0, none⟩)), (5, .int .i64 0), (8, .pointer (some ⟨w4.heap.size, 0, none⟩)), (12, sv), (13, .int .i64 (i : Int)), (54, .int .i64 (N : Int)), (55, .int .i64 (i : Int)), (58, v), (59, .int .i64 (K : Int)), (60, .int .i64 (k : Int))]) (fun k w' => k ≤ K ∧ w7.grownBy w' y.ownBlock ∧ w'.ownsRow w3.heap.size 21 1 y N ((ofL BitVec.toInt (fun xs => BitVec.ofInt 32 (g xs)) ts i ++ List.replicate (N - i) 0#32).map i32) ∧ (∃ rest : List Int, rest.length = K ∧ rest.take k = (ts.take k).map (fun t => (t.l.getD i default).toInt) ∧ w'.ownsRow w7.heap.size 2 1 sv K (rest.map (Value.int .i64)))) (fun k => K - k) (0) ⟨rfl, rfl, rfl, rfl, rfl, rfl, rfl, rfl, rfl, rfl, rfl, rfl, trivial⟩ ?_ ?_
    · exact ⟨by omega, hg9, hy9, rest9, hr9, by simp, hs9⟩
    clear hr9 hs9 hy9 hg9 f1 f2 f4 f8 fx
    rintro k w10 ⟨hkK, hg10, hy10, rest10, hr10, ht10, hs10⟩
    obtain ⟨f1, f2, f4, f8, fx⟩ := facts w10 hg10
    refine Cw.seq <| Cw.region <| Lw.val (Ex.lss rfl rfl) rfl <| Lw.nil <| Pw.thenN <| Cw.out <| Cw.seq <| Cw.cond rfl ?_ ?_
    · intro h
      have hk' : k < K := by simp at h; omega
      have hk'' : k < ts.length := by omega
      obtain ⟨c1, c2⟩ := cells_at hk''
      have hv10 := hv.bs f1
      refine Cw.skip <| Pw.thenN <| Cw.out <| Cw.seq <| Cw.block <| Cw.seq <| Cw.region <| Lw.val (Ex.move rfl) rfl <| Lw.val (Ex.idx st_25 rfl rfl hv10 k rfl hk'') rfl <| Lw.val (Ex.ldE (cs := [ts[k].x, ts[k].y]) (ag_29 _) (sz_29 _) rfl hv10 rfl (by decide) (fun j hj => by rcases (show j = 0 ∨ j = 1 by omega) with rfl | rfl; exact ⟨_, rfl, c1⟩; exact ⟨_, rfl, c2⟩)) rfl <| Lw.valW (Xw.new it_29) rfl ?_
      rintro _ w11 ⟨rfl, hb15, hw11, hs11⟩
      refine Lw.val (Ex.assign rfl) rfl <| Lw.unit (Xu.stA (cs := [ts[k].x, ts[k].y]) rfl rfl rfl rfl (by have := (hts _ (List.getElem_mem hk'')); simp [this.1.one', this.2.one']) hb15 rfl) ?_
      rintro w12 ⟨hb15, hg12, hs12⟩
      have hw12 : Below w10.heap.size w10 w12 := hw11.grown hg12 (below_size hw11) (by rintro _ ⟨⟩; exact Nat.le_refl _)
      have hB12 := bt f1 hw12
      have hat := (hts _ (List.getElem_mem hk'')).bs hB12
      have haty := hat.2
      have hsT := own_slT (own_bs hs10 hw12)
      have hly : ts[k].l.length = N := hlen _ (List.getElem_mem hk'')
      refine Lw.nil <| Pw.thenN <| Cw.out <| Cw.region <| Lw.val (Ex.move rfl) rfl <| Lw.val (Ex.move rfl) rfl <| Lw.val (Ex.fieldAddr (q := 0) Tryz.underlying29 rfl (sz_27 _) rfl) rfl <| Lw.val (Ex.ldB (ag_27 _) rfl (by assumption) rfl) rfl ?_
      refine Lw.val (Ex.move rfl) rfl <| Lw.val (Ex.idxT st_27 rfl rfl (by assumption) _ rfl (by omega)) rfl ?_
      refine Lw.val (Ex.ldT (ag_21 _) rfl (by assumption) (by omega)) rfl ?_
      refine Lw.val (Ex.convi32_I us_21 un_2 rfl) rfl <| Lw.val (Ex.idxT st_126 rfl rfl (by assumption) _ rfl (by omega)) rfl ?_
      refine Lw.unit (Xu.stO (sz_2 _) rfl rfl rfl (own_bs hs10 hw12) (by rw [List.length_map]; omega)) ?_
      rintro w13 ⟨hs13, hg13, -⟩
      have hg12' : w7.grownBy w12 y.ownBlock := grown_more hg10 (below_grown hw12 none) (by rintro _ ⟨⟩)
      have hg13' : w7.grownBy w13 y.ownBlock := grown_more hg12' hg13 (by rintro b hb; rw [hsvb] at hb; cases hb; exact Nat.le_refl _)
      have hy13 := (own_bs hy10 hw12).kept hg13 (.inr fun h => by rw [hsvb] at h; have := (hyb _ h).2; omega)
      have hset : (rest10.set k (ts[k].l.getD i default).toInt).take (k + 1) = (ts.take (k + 1)).map (fun t => (t.l.getD i default).toInt) := by
        rw [List.take_succ_eq_append_getElem hk'', List.map_append, ← ht10, List.take_set, List.take_succ_eq_append_getElem (by omega), List.set_append_right _ _ (by simp; omega)]
        simp [Nat.min_eq_left (show k ≤ rest10.length by omega)]
      rw [← List.map_set] at hs13
      refine Lw.nil <| Pw.blkN <| Pw.thenN <| Cw.out <| Cw.region <| Lw.val (Ex.addI rfl rfl (by omega)) rfl <| Lw.val (Ex.move rfl) rfl <| Lw.nil ?_
      exact Pw.thenN (Pw.next (k + 1) ⟨rfl, rfl, rfl, rfl, rfl, rfl, rfl, rfl, rfl, rfl, rfl, rfl, trivial⟩ (⟨hk', hg13', hy13, _, by simpa using hr10, hset, hs13⟩) (by omega))
    · intro h
      have hk' : k = ts.length := by simp at h; omega
      rw [List.take_of_length_le (by omega), List.take_of_length_le (by omega)] at ht10
      have hsT := own_slT hs10
      have hyT := own_slT hy10
      have hyl : (ofL BitVec.toInt (fun xs => BitVec.ofInt 32 (g xs)) ts i ++ List.replicate (N - i) 0#32).length = N := by simp [ofL]; omega
      refine Cw.exit <| Pw.thenE <| Pw.thenE <| Pw.blkHit <| Pw.thenN <| Cw.out <| Cw.tail 9 mixed (by kernel_rfl) <| Qw.val (fun w1 hq => Ex.fieldAddr (q := 0) Tryz.underlying29 rfl (sz_27 _) rfl) rfl <| Qw.val (fun w1 hq => Ex.ldB (ag_27 _) rfl (Blk.bs (by assumption) hq) rfl) rfl ?_
      refine Qw.val (fun w1 hq => Ex.move rfl) rfl <| Qw.val (fun w1 hq => Ex.fieldAddr (q := 0) Tryz.underlying130 rfl (sz_128 _) rfl) rfl <| Qw.val (fun w1 hq => Ex.ldB (ag_128 _) rfl (Blk.bs (by assumption) hq) rfl) rfl ?_
      refine Qw.val (fun w1 hq => Ex.move rfl) rfl <| Qw.callV (p := []) rfl rfl rfl (fun w1 hq => (hdo w1 sv rest10 (bt f1 hq) (hsT.bs hq) ⟨i, ht10⟩).q hq) <| Qw.val (fun w1 hq => Ex.convi32 us_2 un_21 rfl) rfl <| Qw.val (fun w1 hq => Ex.idxT st_27 rfl rfl (Sl.bs (by assumption) hq) _ rfl (by omega)) rfl ?_
      refine Qw.done (fun w11 hq => ?_)
      refine Lw.unit (Xu.stO (sz_21 _) rfl rfl rfl (own_bs hy10 hq) (by rw [List.length_map]; omega)) ?_
      rintro w12 ⟨hy12, hg12, -⟩
      have hg12' : w7.grownBy w12 y.ownBlock := grown_trans (grown_more hg10 (below_grown hq none) (by rintro _ ⟨⟩)) hg12
      have hs12 := (own_bs hs10 hq).kept hg12 (.inr fun h => by rw [hsvb] at h; have := (hyb _ h.symm).2; omega)
      have hset : (ofL BitVec.toInt (fun xs => BitVec.ofInt 32 (g xs)) ts i ++ List.replicate (N - i) 0#32).set i (BitVec.ofInt 32 (g rest10)) = ofL BitVec.toInt (fun xs => BitVec.ofInt 32 (g xs)) ts (i + 1) ++ List.replicate (N - (i + 1)) 0#32 := by
        have hl : (ofL BitVec.toInt (fun xs => BitVec.ofInt 32 (g xs)) ts i).length = i := by simp [ofL]
        rw [List.set_append_right _ _ (by omega), hl, Nat.sub_self, show N - i = (N - (i + 1)) + 1 by omega, List.replicate_succ, List.set_cons_zero]
        rw [ht10]
        simp [ofL, List.range_succ]
      rw [← List.map_set, hset] at hy12
      refine Lw.nil <| Pw.blkN <| Pw.thenN <| Cw.out <| Cw.region <| Lw.val (Ex.addI rfl rfl (by omega)) rfl <| Lw.val (Ex.move rfl) rfl <| Lw.nil ?_
      exact Pw.thenN (Pw.next (i + 1) ⟨rfl, rfl, rfl, rfl, rfl, rfl, rfl, rfl, trivial⟩ (⟨hi', hg12', hy12, rest10, hr10, hs12⟩) (by omega))
  · intro h
    have hi' : i = N := by simp at h; omega
    subst hi'
    refine Cw.exit <| Pw.thenE <| Pw.thenE <| Pw.blkHit <| Pw.thenN <| Cw.out <| Cw.seq <| Cw.region <| Lw.val (Ex.ldA (ag_29 _) (sz_29 _) rfl rfl (by assumption)) rfl ?_
    refine Lw.unit (Xu.stA (cs := [x, y]) rfl rfl rfl rfl (by simp [fx.sl.one', (own_sl hy9).one']) f4 rfl) ?_
    rintro w10 ⟨hb4', hg10, -⟩
    have hB10 : Below W.heap.size W w10 := f1.grown hg10 (below_size f1) (by rintro _ ⟨⟩; omega)
    refine Lw.val (Ex.assign rfl) rfl <| Lw.nil <| Pw.thenN <| Cw.out <| Cw.ret <| Pw.retCT rfl rfl rfl (by assumption) (Tryz.underlying29) rfl rfl rfl ?_
    refine ⟨hB10, x, y, by rw [he], fun h => absurd he h, fun _ => ⟨(fx.by' hg10 ?_).mono z3, ?_, hmA.apart⟩⟩
    · cases hx : x.ownBlock with
      | none => exact .inl rfl
      | some b =>
        refine .inr fun h => ?_
        have := hmA.fresh b hx
        cases h
        omega
    · have hy10 := own_mono (hy9.kept hg10 (.inr fun h => by have := (hyb _ h).1; omega)) z3
      rw [Nat.sub_self, List.replicate_zero, List.append_nil] at hy10
      rw [← hN]
      have : (ofL BitVec.toInt (fun xs => BitVec.ofInt 32 (g xs)) ts i).length = i := by simp [ofL]
      rw [this]
      exact hy10


def clampI (z : Int) : Int := if 127 < (if z < -128 then -128 else z) then 127 else (if z < -128 then -128 else z)
def shI (j : Nat) (z : Int) : Int := clampI ((z + 1 * 2 ^ j / 2 ^ 1) / 2 ^ j)
def shG (j : Nat) (l : List Int) : Int := shI j (l.getD 0 default)
def shL (j : Nat) (l : List Int) : BitVec 32 := BitVec.ofInt 32 (shG j l)

theorem within_c (z : Int) (w : World) : Fnc Tryz.prog 107 [.int .i64 z, .int .i64 (-128), .int .i64 127] w (fun r w' => r = .int .i64 (clampI z) ∧ Below w.heap.size w w') := by
 refine Fnc.enter (n := 12) Tryz.func107 (by kernel_rfl) rfl rfl rfl <| Cw.seq <| Cw.region <| Lw.val (Ex.assign rfl) rfl <| Lw.nil <| Pw.thenN <| Cw.out <| Cw.seq <| Cw.region <| Lw.val (Ex.move rfl) rfl <| Lw.val (Ex.move rfl) rfl <| Lw.val (Ex.max2 rfl rfl) rfl <| Lw.val (Ex.move rfl) rfl <| Lw.val (Ex.min2 rfl rfl) rfl <| Lw.val (Ex.assign rfl) rfl <| Lw.nil <| Pw.thenN <| Cw.out <| Cw.ret <| Pw.ret1 rfl rfl ?_
 exact ⟨rfl, Below.refl _ _⟩

theorem pow_le (j : Nat) (h : j ≤ 31) : (1 : Int) ≤ 2 ^ j ∧ (2 : Int) ^ j ≤ 2147483648 := by
 have h1 : 1 ≤ 2 ^ j := Nat.one_le_two_pow
 have h2 : 2 ^ j ≤ 2 ^ 31 := Nat.pow_le_pow_right (by decide) h
 have h3 : (2 : Nat) ^ 31 = 2147483648 := by decide
 have e : ((2 ^ j : Nat) : Int) = (2 : Int) ^ j := by simp
 omega

theorem shift1_c (u : Value) (xs : List Int) (j b1 b2 : Nat) (w : World) (hj : j ≤ 31) (hu : SlT (Value.int .i64) w u xs) (hl : xs.length = 1) (hx : -2147483648 ≤ xs.getD 0 default ∧ xs.getD 0 default ≤ 2147483647)
  (h1 : Blk w b1 2 [.int .i64 (1 * 2 ^ j / 2 ^ 1)]) (h2 : Blk w b2 3 [.int .i64 (j : Int)]) :
  Fnc Tryz.prog 106 [u, .pointer (some ⟨b1, 0, none⟩), .pointer (some ⟨b2, 0, none⟩)] w (fun r w' => r = .int .i64 (shG j xs) ∧ Below w.heap.size w w') := by
 have hp := pow_le j hj
 refine Fnc.enter (n := 13) Tryz.func106 (by kernel_rfl) rfl rfl rfl <| Cw.seq <| Cw.region <| Lw.val (Ex.assign rfl) rfl <| Lw.nil <| Pw.thenN <| Cw.out <| Cw.seq <| Cw.quiet mixed (by kernel_rfl) <| Qw.val (fun w1 hq => Ex.move rfl) rfl <| Qw.val (fun w1 hq => Ex.idxS st_126 rfl rfl hu.shp 0 rfl (by omega)) rfl <| Qw.val (fun w1 hq => Ex.ldT (ag_2 _) rfl (Sl.bs (by assumption) hq) (by omega)) rfl ?_
 refine Qw.val (fun w1 hq => Ex.ldB (ag_2 _) rfl (Blk.bs (by assumption) hq) rfl) rfl ?_
 refine Qw.val (fun w1 hq => Ex.addI rfl rfl (by omega)) rfl <| Qw.val (fun w1 hq => Ex.ldB (ag_3 _) rfl (Blk.bs (by assumption) hq) rfl) rfl ?_
 refine Qw.val (fun w1 hq => Ex.shrI (j := j) rfl rfl (by omega)) rfl <| Qw.callF rfl rfl (fun w1 hq => (within_c _ w1).q hq) <| Qw.val (fun w1 hq => Ex.assign rfl) rfl ?_
 refine Qw.nil (fun w2 hq => ?_)
 refine Pw.thenN <| Cw.out <| Cw.ret <| Pw.ret1 rfl rfl ?_
 exact ⟨rfl, hq⟩

/-- The error of a shift. -/
def shE (a : T4) (n : Int) : Int := if n < 0 ∨ 31 < n then 1 else ofE [a] a.s

theorem shift_c (a : T4) (n : Int) (W : World) (ha : a.at W) :
  Fnc Tryz.prog 79 [a.v, .int .i64 n] W (fun r w' => Below W.heap.size W w' ∧ Ans W w' r (shE a n) a.s (ofL BitVec.toInt (shL n.toNat) [a] (Shapes.size a.s).toNat)) := by
 refine Fnc.enter (n := 24) Tryz.func79 (by kernel_rfl) rfl rfl rfl <| Cw.seq <| Cw.region <| Lw.valW (Xw.box (cs := [a.x, a.y]) rfl rfl) rfl ?_
 rintro _ w1 ⟨rfl, h1, hB1, s1⟩
 refine Lw.valW (Xw.box (cs := [.int .i64 n]) rfl rfl) rfl ?_
 rintro _ w2 ⟨rfl, h2, hw2, s2⟩
 have hB2 := bt hB1 hw2
 have h1 := h1.bs hw2
 refine Lw.valW (Xw.new it_29) rfl ?_
 rintro _ w3 ⟨rfl, h3, hw3, s3⟩
 have hB3 := bt hB2 hw3
 have h1 := h1.bs hw3
 have h2 := h2.bs hw3
 refine Lw.val (Ex.assign rfl) rfl <| Lw.nil <| Pw.thenN <| Cw.out <| Cw.seq <| Cw.seq <| Cw.region <| Lw.val (Ex.ldB (ag_3 _) rfl (by assumption) rfl) rfl ?_
 refine Lw.val (Ex.lss rfl rfl) rfl <| Lw.val (Ex.move rfl) rfl ?_
 refine Lw.part 9 rfl ?_ ?_
 ·intro g
  have g' := of_decide_eq_true g
  refine Lw.pass (dj := 9) rfl rfl rfl rfl <| Lw.pass (dj := 9) rfl rfl rfl rfl <| Lw.val (Ex.pickT rfl rfl) rfl <| Lw.nil <| Pw.thenN <| Cw.out <| Cw.condT rfl <| Cw.seq <| Cw.region <| Lw.val (Ex.build (vs := []) (cs := [.slice none 0 0, .slice none 0 0]) rfl (by kernel_rfl)) rfl ?_
  have he : shE a n = 1 := by unfold shE; rw [if_pos (by omega)]
  refine Lw.unit (Xu.stA (cs := [.slice none 0 0, .slice none 0 0]) rfl rfl rfl rfl rfl h3 rfl) ?_
  rintro w4 ⟨h4, hg4, -⟩
  have z2 := hB2.size
  have hB4 : Below W.heap.size W w4 := hB3.grown hg4 (below_size hB3) (by rintro _ ⟨⟩; exact z2)
  refine Lw.val (Ex.assign rfl) rfl <| Lw.nil <| Pw.thenN <| Cw.out <| Cw.ret <| Pw.thenR <| Pw.retCT rfl rfl rfl (by assumption) (Tryz.underlying29) rfl rfl rfl ?_
  exact ⟨hB4, _, _, by rw [he], fun _ => ⟨rfl, rfl⟩, fun h => by rw [he] at h; cases h⟩
 intro g
 have g' := of_decide_eq_false g
 refine Lw.take (dj := 9) rfl rfl <| Lw.val (Ex.ldB (ag_3 _) rfl (by assumption) rfl) rfl ?_
 refine Lw.take (dj := 9) rfl rfl <| Lw.val (Ex.gtr rfl rfl) rfl <| Lw.val (Ex.pickF rfl rfl) rfl <| Lw.nil <| Pw.thenN <| Cw.out <| Cw.cond rfl ?_ ?_
 ·intro k
  have k' := of_decide_eq_true k
  have he : shE a n = 1 := by unfold shE; rw [if_pos (by omega)]
  refine Cw.seq <| Cw.region <| Lw.val (Ex.build (vs := []) (cs := [.slice none 0 0, .slice none 0 0]) rfl (by kernel_rfl)) rfl <| Lw.unit (Xu.stA (cs := [.slice none 0 0, .slice none 0 0]) rfl rfl rfl rfl rfl h3 rfl) ?_
  rintro w4 ⟨h4, hg4, -⟩
  have z2 := hB2.size
  have hB4 : Below W.heap.size W w4 := hB3.grown hg4 (below_size hB3) (by rintro _ ⟨⟩; exact z2)
  refine Lw.val (Ex.assign rfl) rfl <| Lw.nil <| Pw.thenN <| Cw.out <| Cw.ret <| Pw.thenR <| Pw.retCT rfl rfl rfl (by assumption) (Tryz.underlying29) rfl rfl rfl ?_
  exact ⟨hB4, _, _, by rw [he], fun _ => ⟨rfl, rfl⟩, fun h => by rw [he] at h; cases h⟩
 intro k
 have k' := of_decide_eq_false k
 obtain ⟨j, rfl⟩ := Int.eq_ofNat_of_zero_le (show 0 ≤ n by omega)
 have hj : j ≤ 31 := by omega
 have hp := pow_le j hj
 have he : shE a (j : Int) = ofE [a] a.s := by unfold shE; rw [if_neg (by omega)]
 refine Cw.skip <| Pw.thenN <| Cw.out <| Cw.seq <| Cw.region <| Lw.val (Ex.ldB (ag_3 _) rfl (by assumption) rfl) rfl ?_
 refine Lw.val (Ex.shlI (j := j) rfl rfl (by omega) (by omega)) rfl <| Lw.val (Ex.shrI (j := 1) rfl rfl (by decide)) rfl <| Lw.valW (Xw.new it_2) rfl ?_
 rintro _ w4 ⟨rfl, h4, hw4, s4⟩
 refine Lw.unit (Xu.stB (sz_2 _) rfl rfl rfl h4 (by simp)) ?_
 rintro w5 ⟨h5, hg5, s5⟩
 have hw5 : Below w3.heap.size w3 w5 := hw4.grown hg5 (below_size hw4) (by rintro _ ⟨⟩; exact Nat.le_refl _)
 have hB5 := bt hB3 hw5
 have h1 := h1.bs hw5
 have h2 := h2.bs hw5
 have h3 := h3.bs hw5
 refine Lw.nil <| Pw.thenN <| Cw.out <| Cw.seq <| Cw.region <| Lw.val (Ex.mkFn (vs := []) rfl rfl) rfl <| Lw.val (Ex.build (vs := [(0, .func (.func 106) #[] #[.pointer (some ⟨w3.heap.size, 0, none⟩), .pointer (some ⟨w1.heap.size, 0, none⟩)])]) (cs := [.func (.func 106) #[] #[.pointer (some ⟨w3.heap.size, 0, none⟩), .pointer (some ⟨w1.heap.size, 0, none⟩)]]) rfl rfl) rfl <| Lw.val (Ex.ldA (ag_29 _) (sz_29 _) rfl rfl (by assumption)) rfl ?_
 refine Lw.valW (Xw.litA (vs := [(0, a.v)]) (cs := cellsOf [a]) st_25 it_29 rfl (by decide) (by decide) (by decide) (by kernel_rfl) rfl) rfl ?_
 rintro v w6 ⟨ho6, -, hw6, s6⟩
 have hB6 := bt hB5 hw6
 refine Lw.callF rfl rfl (of64_c [a] v a 106 [.pointer (some ⟨w3.heap.size, 0, none⟩), .pointer (some ⟨w1.heap.size, 0, none⟩)] (shG j) w6 rfl (by simp) (own_sl ho6) (fun t ht => by simp at ht; subst ht; exact ha.bs hB6) (fun w u xs hB hu hl => shift1_c u xs j _ _ w hj hu (by obtain ⟨i, rfl⟩ := hl; rfl) (by obtain ⟨i, rfl⟩ := hl; have := (a.l.getD i default).isLt; have := BitVec.toInt_lt (x := a.l.getD i default); have := BitVec.le_toInt (a.l.getD i default); simp at *; omega) ((h5.bs hw6).bs hB) ((h2.bs hw6).bs hB))) ?_
 rintro _ w7 ⟨hw7, x, y, rfl, q1, q2⟩
 have hB7 := bt hB6 hw7
 have h7 := (h3.bs hw6).bs hw7
 refine Lw.val (Ex.extract (i := 0) rfl rfl) rfl <| Lw.val (Ex.extract (i := 1) rfl rfl) rfl <| Lw.unit (Xu.stA (cs := [x, y]) rfl rfl rfl rfl (ans_one q1 q2) h7 rfl) ?_
 rintro w8 ⟨h8, hg8, -⟩
 have z2 := hB2.size
 have z5 := hw5.size
 have hB8 : Below W.heap.size W w8 := hB7.grown hg8 (below_size hB7) (by rintro _ ⟨⟩; exact z2)
 refine Lw.val (Ex.assign rfl) rfl <| Lw.nil <| Pw.thenN <| Cw.out <| Cw.ret <| Pw.retCT rfl rfl rfl (by assumption) (Tryz.underlying29) rfl rfl rfl ?_
 rw [Int.toNat_natCast, he]
 exact ⟨hB8, x, y, rfl, q1, fun h => (q2 h).out hg8 (by omega) (by omega)⟩
end Go.Proofs.YtmipoeanpnnjoaaGreat

/-! Contracts: what the statements on tensors use besides. -/
namespace Go.Proofs.YtmipoeanpnnjoaaGreat
open Go Go.Dd Go.RowKit
set_option maxRecDepth 100000

/-- An answer, as a tensor. -/
theorem Ans.get {W w : World} {r : Value} {e : Int} {s : List Int} {l : List (BitVec 32)} (h : Ans W w r e s l) : ∃ a : T4, r = .tuple #[a.v, .int .i64 e] ∧ a.at w ∧ (e ≠ 0 → a.s = [] ∧ a.l = [] ∧ a.x = .slice none 0 0 ∧ a.y = .slice none 0 0) ∧ (e = 0 → a.s = s ∧ a.l = l ∧ Made1 W w a.x a.y s l) := by
 obtain ⟨x, y, rfl, q1, q2⟩ := h
 by_cases he : e = 0
 ·exact ⟨⟨x, y, s, l⟩, rfl, (q2 he).at, fun h => absurd he h, fun _ => ⟨rfl, rfl, q2 he⟩⟩
 ·obtain ⟨rfl, rfl⟩ := q1 he
  exact ⟨⟨_, _, [], []⟩, rfl, nilT w, fun _ => ⟨rfl, rfl, rfl, rfl⟩, fun h => absurd h he⟩

/-! What is reckoned, without memory. -/
def e2 (s : List Int) (l : List (BitVec 32)) (t : List Int) (m : List (BitVec 32)) : Int := if tok s l && tok t m then (if t = s then 0 else 10) else 1
def e1 (s : List Int) (l : List (BitVec 32)) : Int := if tok s l then 0 else 1
def z2 (f : BitVec 32 → BitVec 32 → BitVec 32) (s : List Int) (l m : List (BitVec 32)) : List (BitVec 32) := (List.range (Shapes.size s).toNat).map fun i => f (l.getD i default) (m.getD i default)
def z1 (f : BitVec 32 → BitVec 32) (s : List Int) (l : List (BitVec 32)) : List (BitVec 32) := (List.range (Shapes.size s).toNat).map fun i => f (l.getD i default)
theorem ofE_two (a b : T4) : ofE [a, b] a.s = e2 a.s a.l b.s b.l := by
 simp only [ofE, e2, List.all_cons, List.all_nil, T4.ok, Bool.and_true, decide_true, Bool.true_and, decide_eq_true_eq]
theorem ofE_one (a : T4) : ofE [a] a.s = e1 a.s a.l := by
 simp [ofE, e1, T4.ok]

theorem Ans.gets {W w : World} {r : Value} {e : Int} {s : List Int} {l : List (BitVec 32)} (h : Ans W w r e s l) : Gets W w r e s l := by
 obtain ⟨a, h1, h2, h3, h4⟩ := h.get
 exact ⟨a, h1, h2, fun h => ⟨(h3 h).1, (h3 h).2.1⟩, h4⟩
theorem add_p (a b : T4) (W : World) (ha : a.at W) (hb : b.at W) : Fnc Tryz.prog 73 [a.v, b.v] W (fun r w' => Below W.heap.size W w' ∧ Gets W w' r (e2 a.s a.l b.s b.l) a.s (z2 (· + ·) a.s a.l b.l)) :=
 (add_c a b W ha hb).mono fun r w' ⟨h1, h2⟩ => ⟨h1, by rw [ofE_two] at h2; exact h2.gets⟩
theorem mul_p (a b : T4) (W : World) (ha : a.at W) (hb : b.at W) : Fnc Tryz.prog 17 [a.v, b.v] W (fun r w' => Below W.heap.size W w' ∧ Gets W w' r (e2 a.s a.l b.s b.l) a.s (z2 (· * ·) a.s a.l b.l)) :=
 (mul_c a b W ha hb).mono fun r w' ⟨h1, h2⟩ => ⟨h1, by rw [ofE_two] at h2; exact h2.gets⟩
theorem relu_p (a : T4) (W : World) (ha : a.at W) : Fnc Tryz.prog 77 [a.v] W (fun r w' => Below W.heap.size W w' ∧ Gets W w' r (e1 a.s a.l) a.s (z1 reluB a.s a.l)) :=
 (relu_c a W ha).mono fun r w' ⟨h1, h2⟩ => ⟨h1, by rw [ofE_one] at h2; exact h2.gets⟩
def shB (j : Nat) (x : BitVec 32) : BitVec 32 := BitVec.ofInt 32 (shI j x.toInt)
def eSh (s : List Int) (l : List (BitVec 32)) (n : Int) : Int := if n < 0 ∨ 31 < n then 1 else e1 s l
theorem shift_p (a : T4) (n : Int) (W : World) (ha : a.at W) : Fnc Tryz.prog 79 [a.v, .int .i64 n] W (fun r w' => Below W.heap.size W w' ∧ Gets W w' r (eSh a.s a.l n) a.s (z1 (shB n.toNat) a.s a.l)) :=
 (shift_c a n W ha).mono fun r w' ⟨h1, h2⟩ => ⟨h1, by unfold shE at h2; rw [ofE_one] at h2; exact h2.gets⟩




end Go.Proofs.YtmipoeanpnnjoaaGreat

/-! A tensor as a statement's argument. -/
namespace Go.Proofs.YtmipoeanpnnjoaaGreat
open Go Go.Dd Go.RowKit Go.ChangeShapes Go.WideShapes
set_option maxRecDepth 100000

theorem two_of {α : Type} {l : List α} (h : l.length = 2) : ∃ a b, l = [a, b] := by
 match l, h with
 | [a, b], _ => exact ⟨a, b, rfl⟩

theorem in_ten {H : Type} {enc : TypeId × Value → H} {w : World} {cs : List Value} (h : In enc Tryz.prog w 29 cs) : ∃ a : T4, cs = [a.x, a.y] ∧ a.at w ∧ a.s.length ≤ 17592186044416 ∧ a.l.length ≤ 35184372088832 := by
 obtain ⟨hlen, hel⟩ := h.struct Tryz.underlying29
 have c2 : Tryz.prog.cellsOf 29 = 2 := by kernel_rfl
 have c1 : Tryz.prog.cellsOf 26 = 1 := by kernel_rfl
 have d1 : Tryz.prog.cellsOf 27 = 1 := by kernel_rfl
 rw [c2] at hlen
 obtain ⟨x, y, rfl⟩ := two_of hlen
 obtain ⟨u0, s, e0, h0, q0⟩ := (hel 0 _ rfl).slT un_26 (by kernel_rfl) (fun cs h => (In.int un_3 h).imp fun _ h => h.1)
 obtain ⟨u1, l, e1, h1, q1⟩ := (hel 1 _ rfl).slT un_27 (by kernel_rfl) (fun cs h => In.num (BitVec.ofInt 32) i32 (fun _ h => wf_i32 h) un_21 h)
 have k0 : Tryz.prog.bytesOf 3 = 8 := by kernel_rfl
 have k1 : Tryz.prog.bytesOf 21 = 4 := by kernel_rfl
 rw [k0] at q0
 rw [k1] at q1
 simp [c1, d1] at e0 e1
 subst e0 e1
 have hr : reachBytes ≤ 140737488355328 := by decide
 exact ⟨⟨x, y, s, l⟩, rfl, ⟨h0, h1⟩, by simp only; omega, by simp only; omega⟩

end Go.Proofs.YtmipoeanpnnjoaaGreat

/-! Contract: a tensor's twin, in memory of its own. -/
namespace Go.Proofs.YtmipoeanpnnjoaaGreat
open Go Go.Dd Go.RowKit
set_option maxRecDepth 100000

theorem _root_.Go.Dd.Twn.own {α : Type} {w : World} {base : Nat} {T : TypeId} {enc : α → Value} {mark v : Value} {l : List α} (h : Twn w base T enc mark v l) : w.ownsRow base T 1 v l.length (l.map enc) := by
 obtain ⟨b, cap, rfl, ho⟩ := h
 exact own_short ho (by simp)


theorem twin_made {W w w' : World} {x y : Value} {s : List Int} {l : List (BitVec 32)} {p q r : Nat} {mx my : Value} (hx : Twn w p 3 (Value.int .i64) mx x s) (hy : Twn w q 21 i32 my y l) (hg : w.grownBy w' (some r)) (hb : ∀ b, x.ownBlock = some b → b < q) (h1 : r < p) (h2 : r < q) (h3 : W.heap.size ≤ p) (h4 : W.heap.size ≤ q) : Made1 W w' x y s l :=
  ⟨.inl (own_mono (hx.own.kept hg (.inr fun e => by have := (own_block hx.own r e).1; omega)) h3),
   own_mono (hy.own.kept hg (.inr fun e => by have := (own_block hy.own r e).1; omega)) h4,
   fun b e1 e2 => by have := (own_block hy.own b e1).1; have := hb b e2; omega⟩

theorem twinTensor_c (a : T4) (w : World) (ha : a.at w) (hs : a.s.length ≤ 4194304) (hl : a.l.length ≤ 4194304) :
  Fnc Tryz.prog 52 [a.v] w (fun r w' => Below w.heap.size w w' ∧ ∃ x y, r = .agg #[x, y] ∧ Made1 w w' x y a.s a.l) := by
 have hB := Below.refl w.heap.size w
 refine Fnc.enter (n := 10) Tryz.func52 (by kernel_rfl) rfl rfl rfl <| Cw.seq <| Cw.region <| Lw.valW (Xw.box (cs := [a.x, a.y]) rfl rfl) rfl ?_
 rintro _ w1 ⟨rfl, b, hn, -⟩
 replace hB := hB.bs hn
 replace ha := ha.bs hn
 clear hn
 have z1 := below_size hB
 refine Lw.valW (Xw.new it_29) rfl ?_
 rintro _ w2 ⟨rfl, c, hn, hs2⟩
 replace hB := hB.bs hn
 replace ha := ha.bs hn
 replace b := b.bs hn
 clear hn
 refine Lw.nil <| Pw.thenN <| Cw.out <| Cw.seq ?_
 refine Cw.any mixed (fun w3 hd _ => ?_)
 replace hB := hB.bs hd
 replace ha := ha.bs hd
 replace b := b.bs hd
 replace c := c.bs hd
 clear hd
 refine Aw.take (i := 0) (NoP.thn NoP.ret) rfl (by kernel_rfl) (by kernel_rfl) (by kernel_rfl) (fun _ => Ex.fieldAddr (q := 0) Tryz.underlying29 rfl (sz_26 _) rfl) rfl <| Aw.take (i := 3) (NoP.thn NoP.ret) rfl (by kernel_rfl) (by kernel_rfl) (by kernel_rfl) (fun _ => Ex.fieldAddr (q := 0) Tryz.underlying29 rfl (sz_27 _) rfl) rfl ?_
 have z0 := below_size hB
 have z3 : w1.heap.size < w3.heap.size := blk_lt c
 refine Aw.two (i := 1) (j := 4) (by kernel_rfl) rfl rfl ?_ ?_
 ·refine Lw.val (Ex.ldB (ag_26 _) rfl (by assumption) rfl) rfl ?_
  refine Aw.back ?_
  refine Aw.two (i := 2) (j := 4) (by kernel_rfl) rfl rfl ?_ ?_
  ·refine Lw.callF rfl rfl (twinInts_c a.x a.s w3 ha.1 hs) ?_
   rintro x w4 ⟨hx, hn⟩
   have hxb := fun b hb => (own_block hx.own b hb).2
   have z4 := hn.size
   replace hB := hB.bs hn
   replace ha := ha.bs hn
   replace b := b.bs hn
   replace c := c.bs hn
   clear hn
   refine Aw.back <| Aw.only (i := 4) (by kernel_rfl) rfl <| Lw.val (Ex.ldB (ag_27 _) rfl (by assumption) rfl) rfl ?_
   refine Aw.back <| Aw.only (i := 5) (by kernel_rfl) rfl <| Lw.callF rfl rfl (twinNumbers_c a.y a.l w4 ha.2 hl) ?_
   rintro y w5 ⟨hy, hn⟩
   have z5 := hn.size
   replace hB := hB.bs hn
   replace ha := ha.bs hn
   replace b := b.bs hn
   replace c := c.bs hn
   replace hx := hx.bs hn
   clear hn
   refine Aw.back <| Aw.only (i := 6) (by kernel_rfl) rfl <| Lw.val (Ex.build (vs := [(0, x), (1, y)]) (cs := [x, y]) rfl (bt_ten _ _ hx.sl.one hy.sl.one)) rfl <| Aw.back <| Aw.only (i := 7) (by kernel_rfl) rfl <| Lw.unit (Xu.stA (cs := [x, y]) rfl rfl rfl rfl (by simp [hx.sl.one', hy.sl.one']) c rfl) ?_
   rintro w6 ⟨c6, hg, -⟩
   have hB6 := hB.grown hg (below_size hB) (by rintro _ ⟨⟩; exact z1)
   refine Aw.back <| Aw.done (by kernel_rfl) <| Pw.thenN <| Cw.out <| Cw.ret <| Pw.retC rfl rfl (by assumption) (Tryz.underlying29) rfl rfl rfl ?_
   exact ⟨hB6, x, y, rfl, twin_made hx hy hg hxb (by omega) (by omega) (by omega) (by omega)⟩
  ·refine Lw.val (Ex.ldB (ag_27 _) rfl (by assumption) rfl) rfl ?_
   refine Aw.back <| Aw.only (i := 2) (by kernel_rfl) rfl <| Lw.callF rfl rfl (twinInts_c a.x a.s w3 ha.1 hs) ?_
   rintro x w4 ⟨hx, hn⟩
   have hxb := fun b hb => (own_block hx.own b hb).2
   have z4 := hn.size
   replace hB := hB.bs hn
   replace ha := ha.bs hn
   replace b := b.bs hn
   replace c := c.bs hn
   clear hn
   refine Aw.back <| Aw.only (i := 5) (by kernel_rfl) rfl <| Lw.callF rfl rfl (twinNumbers_c a.y a.l w4 ha.2 hl) ?_
   rintro y w5 ⟨hy, hn⟩
   have z5 := hn.size
   replace hB := hB.bs hn
   replace ha := ha.bs hn
   replace b := b.bs hn
   replace c := c.bs hn
   replace hx := hx.bs hn
   clear hn
   refine Aw.back <| Aw.only (i := 6) (by kernel_rfl) rfl <| Lw.val (Ex.build (vs := [(0, x), (1, y)]) (cs := [x, y]) rfl (bt_ten _ _ hx.sl.one hy.sl.one)) rfl <| Aw.back <| Aw.only (i := 7) (by kernel_rfl) rfl <| Lw.unit (Xu.stA (cs := [x, y]) rfl rfl rfl rfl (by simp [hx.sl.one', hy.sl.one']) c rfl) ?_
   rintro w6 ⟨c6, hg, -⟩
   have hB6 := hB.grown hg (below_size hB) (by rintro _ ⟨⟩; exact z1)
   refine Aw.back <| Aw.done (by kernel_rfl) <| Pw.thenN <| Cw.out <| Cw.ret <| Pw.retC rfl rfl (by assumption) (Tryz.underlying29) rfl rfl rfl ?_
   exact ⟨hB6, x, y, rfl, twin_made hx hy hg hxb (by omega) (by omega) (by omega) (by omega)⟩
 ·refine Lw.val (Ex.ldB (ag_27 _) rfl (by assumption) rfl) rfl ?_
  refine Aw.back <| Aw.only (i := 1) (by kernel_rfl) rfl <| Lw.val (Ex.ldB (ag_26 _) rfl (by assumption) rfl) rfl ?_
  refine Aw.back <| Aw.only (i := 2) (by kernel_rfl) rfl <| Lw.callF rfl rfl (twinInts_c a.x a.s w3 ha.1 hs) ?_
  rintro x w4 ⟨hx, hn⟩
  have hxb := fun b hb => (own_block hx.own b hb).2
  have z4 := hn.size
  replace hB := hB.bs hn
  replace ha := ha.bs hn
  replace b := b.bs hn
  replace c := c.bs hn
  clear hn
  refine Aw.back <| Aw.only (i := 5) (by kernel_rfl) rfl <| Lw.callF rfl rfl (twinNumbers_c a.y a.l w4 ha.2 hl) ?_
  rintro y w5 ⟨hy, hn⟩
  have z5 := hn.size
  replace hB := hB.bs hn
  replace ha := ha.bs hn
  replace b := b.bs hn
  replace c := c.bs hn
  replace hx := hx.bs hn
  clear hn
  refine Aw.back <| Aw.only (i := 6) (by kernel_rfl) rfl <| Lw.val (Ex.build (vs := [(0, x), (1, y)]) (cs := [x, y]) rfl (bt_ten _ _ hx.sl.one hy.sl.one)) rfl <| Aw.back <| Aw.only (i := 7) (by kernel_rfl) rfl <| Lw.unit (Xu.stA (cs := [x, y]) rfl rfl rfl rfl (by simp [hx.sl.one', hy.sl.one']) c rfl) ?_
  rintro w6 ⟨c6, hg, -⟩
  have hB6 := hB.grown hg (below_size hB) (by rintro _ ⟨⟩; exact z1)
  refine Aw.back <| Aw.done (by kernel_rfl) <| Pw.thenN <| Cw.out <| Cw.ret <| Pw.retC rfl rfl (by assumption) (Tryz.underlying29) rfl rfl rfl ?_
  exact ⟨hB6, x, y, rfl, twin_made hx hy hg hxb (by omega) (by omega) (by omega) (by omega)⟩
end Go.Proofs.YtmipoeanpnnjoaaGreat

/-! Contracts: rows with columns. -/
namespace Go.Proofs.YtmipoeanpnnjoaaGreat
open Go Go.Dd Go.RowKit
set_option maxRecDepth 100000

def pshE (a b : List Int) : Int := if Shapes.ok a && Shapes.ok b then (if a.length = 2 ∧ b.length = 2 ∧ a.getD 1 default = b.getD 0 default then 0 else 10) else 1
theorem pshE_no {a b : List Int} (h : Shapes.ok a = false ∨ Shapes.ok b = false) : pshE a b = 1 := by
 unfold pshE
 rw [if_neg]
 rcases h with h | h <;> simp [h]
theorem pshE_ten {a b : List Int} (h1 : Shapes.ok a = true) (h2 : Shapes.ok b = true) (h : ¬ (a.length = 2 ∧ b.length = 2 ∧ a.getD 1 default = b.getD 0 default)) : pshE a b = 10 := by
 unfold pshE
 rw [h1, h2, if_neg h]; rfl
theorem pshE_yes {a b : List Int} (h1 : Shapes.ok a = true) (h2 : Shapes.ok b = true) (h : a.length = 2 ∧ b.length = 2 ∧ a.getD 1 default = b.getD 0 default) : pshE a b = 0 := by
 unfold pshE
 rw [h1, h2, if_pos h]; rfl

/-- What Shape tells. -/
def PShp (W w : World) (r : Value) (a b : List Int) : Prop :=
 ∃ x, r = .tuple #[x, .int .i64 (pshE a b)] ∧ (pshE a b ≠ 0 → x = .slice none 0 0) ∧ (pshE a b = 0 → w.ownsRow W.heap.size 3 1 x 2 ([a.getD 0 default, b.getD 1 default].map (Value.int .i64)))

theorem pshape_c (u v : Value) (a b : List Int) (W : World) (hu : SlT (Value.int .i64) W u a) (hv : SlT (Value.int .i64) W v b) :
  Fnc Tryz.prog 65 [u, v] W (fun r w' => Below W.heap.size W w' ∧ PShp W w' r a b) := by
 have hB := Below.refl W.heap.size W
 refine Fnc.enter (n := 40) Tryz.func65 (by kernel_rfl) rfl rfl rfl <| Cw.seq <| Cw.region <| Lw.val (Ex.assign rfl) rfl <| Lw.val (Ex.assign rfl) rfl <| Lw.nil <| Pw.thenN <| Cw.out <| Cw.seq <| Cw.block <| Cw.seq <| Cw.region <| Lw.val (Ex.move rfl) rfl <| Lw.callF rfl rfl (check_c u a _ hu) ?_
 rintro _ w ⟨rfl, hn⟩
 replace hB := hB.bs hn
 replace hu := hu.bs hn
 replace hv := hv.bs hn
 clear hn
 refine Lw.val (Ex.not rfl) rfl <| Lw.val (Ex.move rfl) rfl ?_
 refine Lw.part 10 rfl ?_ ?_
 ·intro g
  have e := pshE_no (a := a) (b := b) (.inl (by simpa using g))
  refine Lw.pass (dj := 10) rfl rfl rfl rfl <| Lw.pass (dj := 10) rfl rfl rfl rfl <| Lw.pass (dj := 10) rfl rfl rfl rfl <| Lw.val (Ex.pickT rfl rfl) rfl <| Lw.val (Ex.assign rfl) rfl <| Lw.nil <| Pw.thenN <| Cw.out <| Cw.condT rfl <| Cw.seq <| Cw.region <| Lw.val (Ex.assign rfl) rfl <| Lw.val (Ex.assign rfl) rfl <| Lw.nil <| Pw.thenN <| Cw.out <| Cw.ret <| Pw.blkR <| Pw.thenR <| Pw.ret2 rfl rfl rfl ?_
  exact ⟨hB, _, by rw [e], fun _ => rfl, fun h => by rw [e] at h; cases h⟩
 intro g
 have ka : Shapes.ok a = true := by simpa using g
 refine Lw.take (dj := 10) rfl rfl <| Lw.val (Ex.move rfl) rfl <| Lw.take (dj := 10) rfl rfl <| Lw.callF rfl rfl (check_c v b _ hv) ?_
 rintro _ w ⟨rfl, hn⟩
 replace hB := hB.bs hn
 replace hu := hu.bs hn
 replace hv := hv.bs hn
 clear hn
 refine Lw.take (dj := 10) rfl rfl <| Lw.val (Ex.not rfl) rfl <| Lw.val (Ex.pickF rfl rfl) rfl <| Lw.val (Ex.assign rfl) rfl <| Lw.nil <| Pw.thenN <| Cw.out <| Cw.cond rfl ?_ ?_
 ·intro g
  have e := pshE_no (a := a) (b := b) (.inr (by simpa using g))
  refine Cw.seq <| Cw.region <| Lw.val (Ex.assign rfl) rfl <| Lw.val (Ex.assign rfl) rfl <| Lw.nil <| Pw.thenN <| Cw.out <| Cw.ret <| Pw.blkR <| Pw.thenR <| Pw.ret2 rfl rfl rfl ?_
  exact ⟨hB, _, by rw [e], fun _ => rfl, fun h => by rw [e] at h; cases h⟩
 intro g
 have kb : Shapes.ok b = true := by simpa using g
 refine Cw.seq <| Cw.quiet mixed (by kernel_rfl) <| Qw.val (fun w1 hq => Ex.move rfl) rfl <| Qw.val (fun w1 hq => Ex.lenS st_26 rfl (Sl.bs (by assumption) hq)) rfl ?_
 refine Qw.val (fun w1 hq => Ex.neq rfl rfl) rfl <| Qw.val (fun w1 hq => Ex.move rfl) rfl ?_
 refine Qw.part 19 rfl ?_ ?_
 ·intro g
  have e : pshE a b = 10 := pshE_ten ka kb fun h => by simp [h.1] at g
  refine Qw.pass (dj := 19) rfl rfl rfl rfl <| Qw.pass (dj := 19) rfl rfl rfl rfl <| Qw.pass (dj := 19) rfl rfl rfl rfl <| Qw.val (fun w1 hq => Ex.pickT rfl rfl) rfl <| Qw.val (fun w1 hq => Ex.move rfl) rfl <| Qw.pass (dj := 24) rfl rfl rfl rfl <| Qw.pass (dj := 24) rfl rfl rfl rfl <| Qw.pass (dj := 24) rfl rfl rfl rfl <| Qw.pass (dj := 24) rfl rfl rfl rfl <| Qw.pass (dj := 24) rfl rfl rfl rfl <| Qw.pass (dj := 24) rfl rfl rfl rfl <| Qw.pass (dj := 24) rfl rfl rfl rfl <| Qw.val (fun w1 hq => Ex.pickT rfl rfl) rfl <| Qw.val (fun w1 hq => Ex.assign rfl) rfl ?_
  refine Qw.nil (fun w2 hq => ?_)
  refine Pw.thenN <| Cw.out <| Cw.condT rfl <| Cw.seq <| Cw.region <| Lw.val (Ex.assign rfl) rfl <| Lw.val (Ex.assign rfl) rfl <| Lw.nil <| Pw.thenN <| Cw.out <| Cw.ret <| Pw.blkR <| Pw.thenR <| Pw.ret2 rfl rfl rfl ?_
  exact ⟨bt hB hq, _, by rw [e], fun _ => rfl, fun h => by rw [e] at h; cases h⟩
 intro g
 have la : a.length = 2 := by simp at g; omega
 refine Qw.take (dj := 19) rfl rfl <| Qw.val (fun w1 hq => Ex.move rfl) rfl <| Qw.take (dj := 19) rfl rfl <| Qw.val (fun w1 hq => Ex.lenS st_26 rfl (Sl.bs (by assumption) hq)) rfl ?_
 refine Qw.take (dj := 19) rfl rfl <| Qw.val (fun w1 hq => Ex.neq rfl rfl) rfl <| Qw.val (fun w1 hq => Ex.pickF rfl rfl) rfl <| Qw.val (fun w1 hq => Ex.move rfl) rfl ?_
 refine Qw.part 24 rfl ?_ ?_
 ·intro g
  have e : pshE a b = 10 := pshE_ten ka kb fun h => by simp [h.2.1] at g
  refine Qw.pass (dj := 24) rfl rfl rfl rfl <| Qw.pass (dj := 24) rfl rfl rfl rfl <| Qw.pass (dj := 24) rfl rfl rfl rfl <| Qw.pass (dj := 24) rfl rfl rfl rfl <| Qw.pass (dj := 24) rfl rfl rfl rfl <| Qw.pass (dj := 24) rfl rfl rfl rfl <| Qw.pass (dj := 24) rfl rfl rfl rfl <| Qw.val (fun w1 hq => Ex.pickT rfl rfl) rfl <| Qw.val (fun w1 hq => Ex.assign rfl) rfl ?_
  refine Qw.nil (fun w2 hq => ?_)
  refine Pw.thenN <| Cw.out <| Cw.condT rfl <| Cw.seq <| Cw.region <| Lw.val (Ex.assign rfl) rfl <| Lw.val (Ex.assign rfl) rfl <| Lw.nil <| Pw.thenN <| Cw.out <| Cw.ret <| Pw.blkR <| Pw.thenR <| Pw.ret2 rfl rfl rfl ?_
  exact ⟨bt hB hq, _, by rw [e], fun _ => rfl, fun h => by rw [e] at h; cases h⟩
 intro g
 have lb : b.length = 2 := by simp at g; omega
 refine Qw.take (dj := 24) rfl rfl <| Qw.val (fun w1 hq => Ex.move rfl) rfl <| Qw.take (dj := 24) rfl rfl <| Qw.val (fun w1 hq => Ex.idxT st_26 rfl rfl (Sl.bs (by assumption) hq) 1 rfl (by omega)) rfl ?_
 refine Qw.take (dj := 24) rfl rfl <| Qw.val (fun w1 hq => Ex.ldT (ag_3 _) rfl (Sl.bs (by assumption) hq) (by omega)) rfl ?_
 refine Qw.take (dj := 24) rfl rfl <| Qw.val (fun w1 hq => Ex.move rfl) rfl <| Qw.take (dj := 24) rfl rfl <| Qw.val (fun w1 hq => Ex.idxT st_26 rfl rfl (Sl.bs (by assumption) hq) 0 rfl (by omega)) rfl ?_
 refine Qw.take (dj := 24) rfl rfl <| Qw.val (fun w1 hq => Ex.ldT (ag_3 _) rfl (Sl.bs (by assumption) hq) (by omega)) rfl ?_
 refine Qw.take (dj := 24) rfl rfl <| Qw.val (fun w1 hq => Ex.neq rfl rfl) rfl <| Qw.val (fun w1 hq => Ex.pickF rfl rfl) rfl <| Qw.val (fun w1 hq => Ex.assign rfl) rfl ?_
 refine Qw.nil (fun w2 hq => ?_)
 refine Pw.thenN <| Cw.out <| Cw.cond rfl ?_ ?_
 ·intro g
  have e : pshE a b = 10 := pshE_ten ka kb fun h => by simp at g; exact g (by simpa using h.2.2)
  refine Cw.seq <| Cw.region <| Lw.val (Ex.assign rfl) rfl <| Lw.val (Ex.assign rfl) rfl <| Lw.nil <| Pw.thenN <| Cw.out <| Cw.ret <| Pw.blkR <| Pw.thenR <| Pw.ret2 rfl rfl rfl ?_
  exact ⟨bt hB hq, _, by rw [e], fun _ => rfl, fun h => by rw [e] at h; cases h⟩
 intro g
 have e : pshE a b = 0 := pshE_yes ka kb ⟨la, lb, by simpa using g⟩
 replace hB := hB.bs hq
 replace hu := hu.bs hq
 replace hv := hv.bs hq
 clear hq
 refine Cw.skip <| Pw.blkN <| Pw.thenN <| Cw.out <| Cw.seq <| Cw.tail 6 mixed (by kernel_rfl) <| Qw.val (fun w1 hq => Ex.move rfl) rfl <| Qw.val (fun w1 hq => Ex.idxT st_26 rfl rfl (Sl.bs (by assumption) hq) 0 rfl (by omega)) rfl ?_
 refine Qw.val (fun w1 hq => Ex.ldT (ag_3 _) rfl (Sl.bs (by assumption) hq) (by omega)) rfl ?_
 refine Qw.val (fun w1 hq => Ex.move rfl) rfl <| Qw.val (fun w1 hq => Ex.idxT st_26 rfl rfl (Sl.bs (by assumption) hq) 1 rfl (by omega)) rfl ?_
 refine Qw.val (fun w1 hq => Ex.ldT (ag_3 _) rfl (Sl.bs (by assumption) hq) (by omega)) rfl ?_
 refine Qw.done (fun w3 hq => ?_)
 replace hB := hB.bs hq
 replace hu := hu.bs hq
 replace hv := hv.bs hq
 clear hq
 refine Lw.valW (Xw.lit (vs := [a.getD 0 default, b.getD 1 default].map (Value.int .i64)) st_26 it_3 rfl rfl rfl rfl rfl) rfl ?_
 rintro x w4 ⟨ho, -, hn, -⟩
 have z := hB.size
 replace hB := hB.bs hn
 replace hu := hu.bs hn
 replace hv := hv.bs hn
 refine Lw.val (Ex.assign rfl) rfl <| Lw.val (Ex.assign rfl) rfl <| Lw.nil <| Pw.thenN <| Cw.out <| Cw.ret <| Pw.ret2 rfl rfl rfl ?_
 exact ⟨hB, x, by rw [e], fun h => absurd e h, fun _ => own_mono ho z⟩

theorem gathers_c (w : World) : Fnc Tryz.prog 103 [] w (fun r w' => r = .func (.func 126) #[] #[.pointer (some ⟨w.heap.size, 0, none⟩)] ∧ Blk w' w.heap.size 21 [i32 0#32] ∧ Below w.heap.size w w' ∧ w'.heap.size = w.heap.size + 1) := by
 refine Fnc.enter (n := 3) Tryz.func103 (by kernel_rfl) rfl rfl rfl <| Cw.seq <| Cw.region <| Lw.val (Ex.assign rfl) rfl <| Lw.nil <| Pw.thenN <| Cw.out <| Cw.seq <| Cw.region <| Lw.boxed1 (u := i32 0#32) it_21 sz_21 rfl (fun _ => rfl) (rfl) ?_
 rintro A_s w1 eA_s b_s hn zhn
 subst eA_s
 refine Lw.nil <| Pw.thenN <| Cw.out <| Cw.seq <| Cw.region <| Lw.val (Ex.mkFn (vs := []) (us := [.pointer (some ⟨w.heap.size, 0, none⟩)]) rfl rfl) rfl <| Lw.val (Ex.assign rfl) rfl <| Lw.nil <| Pw.thenN <| Cw.out <| Cw.ret <| Pw.ret1 rfl rfl ?_
 exact ⟨rfl, b_s, hn, zhn⟩

theorem gather_c (A : Nat) (s x y : BitVec 32) (w : World) (hb : Blk w A 21 [i32 s]) : Fnc Tryz.prog 126 [i32 x, i32 y, .pointer (some ⟨A, 0, none⟩)] w (fun r w' => r = i32 (s + x * y) ∧ Blk w' A 21 [i32 (s + x * y)] ∧ w.grownBy w' (some A)) := by
 refine Fnc.enter (n := 12) Tryz.func126 (by kernel_rfl) rfl rfl rfl <| Cw.seq <| Cw.region <| Lw.val (Ex.assign (show _ = some (i32 (0#32)) from rfl)) rfl <| Lw.nil <| Pw.thenN <| Cw.out <| Cw.seq <| Cw.region <| Lw.val (Ex.ldB (ag_21 _) rfl (by assumption) rfl) rfl ?_
 refine Lw.val (Ex.move rfl) rfl <| Lw.val (Ex.move rfl) rfl <| Lw.val (Ex.muli32 rfl rfl) rfl <| Lw.val (Ex.addi32 rfl rfl) rfl <| Lw.unit (Xu.stB (u := i32 (s + x * y)) (sz_21 _) rfl rfl rfl hb (by simp)) ?_
 rintro w1 ⟨b1, hg, -⟩
 refine Lw.nil <| Pw.thenN <| Cw.out <| Cw.seq <| Cw.region <| Lw.val (Ex.ldB (ag_21 _) rfl (by assumption) rfl) rfl ?_
 refine Lw.val (Ex.assign rfl) rfl <| Lw.nil <| Pw.thenN <| Cw.out <| Cw.ret <| Pw.ret1 rfl rfl ?_
 exact ⟨rfl, b1, hg⟩

def prdE (a b : T4) : Int := if tok a.s a.l && tok b.s b.l then pshE a.s b.s else 1
def prdL (a b : T4) : List (BitVec 32) := prd (a.s.getD 0 default).toNat (b.s.getD 0 default).toNat (b.s.getD 1 default).toNat a.l b.l

theorem ok_dims {s : List Int} (h : Shapes.ok s = true) {i : Nat} (hi : i < s.length) : 1 ≤ s.getD i default ∧ s.getD i default ≤ 64 := by
 have := ((Shapes.ok_iff s).1 h).2.1 s[i] (List.getElem_mem hi)
 simpa [hi] using this
theorem two_ok {m n : Int} (h1 : 1 ≤ m ∧ m ≤ 64) (h2 : 1 ≤ n ∧ n ≤ 64) (h : m * n ≤ 4096) : Shapes.ok [m, n] = true := by
 rw [Shapes.ok_iff]
 refine ⟨by simp, fun x hx => ?_, by simp [Shapes.prod]; omega⟩
 simp at hx
 rcases hx with rfl | rfl <;> assumption
theorem mul64 {m n : Int} (h1 : 1 ≤ m ∧ m ≤ 64) (h2 : 1 ≤ n ∧ n ≤ 64) : 1 ≤ m * n ∧ m * n ≤ 4096 := by
 have e1 := Int.mul_le_mul h1.1 h2.1 (by omega) (by omega)
 have e2 := Int.mul_le_mul h1.2 h2.2 (by omega) (by omega)
 omega
theorem len_two {α : Type} [Inhabited α] {l : List α} (h : l.length = 2) : l = [l.getD 0 default, l.getD 1 default] := by
 match l, h with
 | [a, b], _ => rfl
theorem size_two {s : List Int} (h : Shapes.ok s = true) (hl : s.length = 2) : Shapes.size s = s.getD 0 default * s.getD 1 default := by
 rw [Shapes.size_ok h]
 conv => lhs; rw [len_two hl]
 simp [Shapes.prod]

/-- What comes of it: a tensor of one's own, or none. -/
def Ans0 (W w : World) (r : Value) (e : Int) (s : List Int) (l : List (BitVec 32)) : Prop :=
 ∃ x y, r = .tuple #[.agg #[x, y], .int .i64 e] ∧ (e ≠ 0 → x = .slice none 0 0 ∧ y = .slice none 0 0) ∧ (e = 0 → Made1 W w x y s l)
theorem Ans0.gets {W w : World} {r : Value} {e : Int} {s : List Int} {l : List (BitVec 32)} (h : Ans0 W w r e s l) : Gets W w r e s l := by
 obtain ⟨x, y, rfl, q1, q2⟩ := h
 by_cases he : e = 0
 ·exact ⟨⟨x, y, s, l⟩, rfl, (q2 he).at, fun h => absurd he h, fun _ => ⟨rfl, rfl, q2 he⟩⟩
 ·obtain ⟨rfl, rfl⟩ := q1 he
  exact ⟨⟨_, _, [], []⟩, rfl, nilT w, fun _ => ⟨rfl, rfl⟩, fun h => absurd h he⟩
theorem prod0_c (a b : T4) (W : World) (h_a : a.at W) (h_b : b.at W) :
  Fnc Tryz.prog 74 [a.v, b.v] W (fun r w' => Below W.heap.size W w' ∧ Ans0 W w' r (prdE a b) [a.s.getD 0 default, b.s.getD 1 default] (prdL a b)) := by
 have hB := Below.refl W.heap.size W
 refine Fnc.enter (n := 94) Tryz.func74 (by kernel_rfl) rfl rfl rfl <| Cw.seq <| Cw.region <| Lw.boxV (cs := [a.x, a.y]) rfl rfl rfl ?_
 rintro A_a w eA_a b_a hn -
 replace hB := hB.bs hn
 replace h_a := h_a.bs hn
 replace h_b := h_b.bs hn
 clear hn
 refine Lw.boxV (cs := [b.x, b.y]) rfl rfl rfl ?_
 rintro A_b w eA_b b_b hn -
 replace hB := hB.bs hn
 replace h_a := h_a.bs hn
 replace h_b := h_b.bs hn
 replace b_a := b_a.bs hn
 clear hn
 have z0 := below_size hB
 refine Lw.newA it_29 rfl ?_
 rintro A_r w eA_r b_r hn -
 replace hB := hB.bs hn
 replace h_a := h_a.bs hn
 replace h_b := h_b.bs hn
 replace b_a := b_a.bs hn
 replace b_b := b_b.bs hn
 clear hn
 refine Lw.val (Ex.assign rfl) rfl <| Lw.nil <| Pw.thenN <| Cw.out <| Cw.seq <| Cw.seq <| Cw.region <| Lw.val (Ex.ldA (ag_29 _) (sz_29 _) rfl rfl (by assumption)) rfl ?_
 have z_r := blk_lt b_r
 have zr : W.heap.size ≤ A_r := by omega
 refine Lw.callF rfl rfl (tcheck_c a.x a.y a.s a.l _ h_a.1 h_a.2) ?_
 rintro _ w ⟨rfl, hn⟩
 replace hB := hB.bs hn
 replace h_a := h_a.bs hn
 replace h_b := h_b.bs hn
 replace b_a := b_a.bs hn
 replace b_b := b_b.bs hn
 replace b_r := b_r.bs hn
 clear hn
 refine Lw.val (Ex.not rfl) rfl <| Lw.val (Ex.move rfl) rfl ?_
 refine Lw.part 20 rfl ?_ ?_
 ·intro g
  have e : prdE a b = 1 := by unfold prdE; rw [if_neg]; simp at g; simp [g]
  refine Lw.pass (dj := 20) rfl rfl rfl rfl <| Lw.pass (dj := 20) rfl rfl rfl rfl <| Lw.pass (dj := 20) rfl rfl rfl rfl <| Lw.val (Ex.pickT rfl rfl) rfl <| Lw.nil <| Pw.thenN <| Cw.out <| Cw.condT rfl <| Cw.seq <| Cw.region <| Lw.val (Ex.build (vs := []) (cs := [.slice none 0 0, .slice none 0 0]) rfl (by kernel_rfl)) rfl ?_
  have b_r1 := b_r
  refine Lw.unit (Xu.stA (cs := [.slice none 0 0, .slice none 0 0]) rfl rfl rfl rfl rfl b_r rfl) ?_
  rintro w9 ⟨b_r, hg, -⟩
  have hB := hB.grown hg (below_size hB) (by rintro _ ⟨⟩; omega)
  refine Lw.val (Ex.assign rfl) rfl <| Lw.nil <| Pw.thenN <| Cw.out <| Cw.ret <| Pw.thenR <| Pw.retCT rfl rfl rfl (by assumption) (Tryz.underlying29) rfl rfl rfl ?_
  exact ⟨hB, _, _, by rw [e], fun _ => ⟨rfl, rfl⟩, fun h => by rw [e] at h; cases h⟩
 intro g
 have t_a : tok a.s a.l = true := by simpa using g
 refine Lw.take (dj := 20) rfl rfl <| Lw.val (Ex.ldA (ag_29 _) (sz_29 _) rfl rfl (by assumption)) rfl ?_
 refine Lw.take (dj := 20) rfl rfl <| Lw.callF rfl rfl (tcheck_c b.x b.y b.s b.l _ h_b.1 h_b.2) ?_
 rintro _ w ⟨rfl, hn⟩
 replace hB := hB.bs hn
 replace h_a := h_a.bs hn
 replace h_b := h_b.bs hn
 replace b_a := b_a.bs hn
 replace b_b := b_b.bs hn
 replace b_r := b_r.bs hn
 clear hn
 refine Lw.take (dj := 20) rfl rfl <| Lw.val (Ex.not rfl) rfl <| Lw.val (Ex.pickF rfl rfl) rfl <| Lw.nil <| Pw.thenN <| Cw.out <| Cw.cond rfl ?_ ?_
 ·intro g
  have e : prdE a b = 1 := by unfold prdE; rw [if_neg]; simp at g; simp [g]
  refine Cw.seq <| Cw.region <| Lw.val (Ex.build (vs := []) (cs := [.slice none 0 0, .slice none 0 0]) rfl (by kernel_rfl)) rfl ?_
  have b_r1 := b_r
  refine Lw.unit (Xu.stA (cs := [.slice none 0 0, .slice none 0 0]) rfl rfl rfl rfl rfl b_r rfl) ?_
  rintro w9 ⟨b_r, hg, -⟩
  have hB := hB.grown hg (below_size hB) (by rintro _ ⟨⟩; omega)
  refine Lw.val (Ex.assign rfl) rfl <| Lw.nil <| Pw.thenN <| Cw.out <| Cw.ret <| Pw.thenR <| Pw.retCT rfl rfl rfl (by assumption) (Tryz.underlying29) rfl rfl rfl ?_
  exact ⟨hB, _, _, by rw [e], fun _ => ⟨rfl, rfl⟩, fun h => by rw [e] at h; cases h⟩
 intro g
 have t_b : tok b.s b.l = true := by simpa using g
 have ee : prdE a b = pshE a.s b.s := by unfold prdE; rw [t_a, t_b]; rfl
 refine Cw.skip <| Pw.thenN <| Cw.out <| Cw.seq <| Cw.region <| Lw.val (Ex.fieldAddr (q := 0) Tryz.underlying29 rfl (sz_26 _) rfl) rfl <| Lw.val (Ex.ldB (ag_26 _) rfl (by assumption) rfl) rfl ?_
 refine Lw.val (Ex.fieldAddr (q := 0) Tryz.underlying29 rfl (sz_26 _) rfl) rfl <| Lw.val (Ex.ldB (ag_26 _) rfl (by assumption) rfl) rfl ?_
 refine Lw.callF rfl rfl (pshape_c a.x b.x a.s b.s w h_a.1 h_b.1) ?_
 rintro _ w ⟨hn, sv, rfl, hs1, hs2⟩
 have z2 := below_size hB
 replace hB := hB.bs hn
 replace h_a := h_a.bs hn
 replace h_b := h_b.bs hn
 replace b_a := b_a.bs hn
 replace b_b := b_b.bs hn
 replace b_r := b_r.bs hn
 clear hn
 refine Lw.val (Ex.move rfl) rfl <| Lw.val (Ex.extract (i := 0) rfl rfl) rfl <| Lw.val (Ex.extract (i := 1) rfl rfl) rfl <| Lw.val (Ex.assign rfl) rfl <| Lw.val (Ex.assign rfl) rfl <| Lw.nil <| Pw.thenN <| Cw.out <| Cw.seq <| Cw.seq <| Cw.region <| Lw.val (Ex.move rfl) rfl <| Lw.val (Ex.neq rfl rfl) rfl <| Lw.nil <| Pw.thenN <| Cw.out <| Cw.cond rfl ?_ ?_
 ·intro g
  have hne : pshE a.s b.s ≠ 0 := by simpa using g
  refine Cw.seq <| Cw.region <| Lw.val (Ex.build (vs := []) (cs := [.slice none 0 0, .slice none 0 0]) rfl (by kernel_rfl)) rfl <| Lw.val (Ex.move rfl) rfl <| Lw.unit (Xu.stA (cs := [.slice none 0 0, .slice none 0 0]) rfl rfl rfl rfl rfl b_r rfl) ?_
  rintro w9 ⟨b_r, hg, -⟩
  have hB := hB.grown hg (below_size hB) (by rintro _ ⟨⟩; omega)
  refine Lw.val (Ex.assign rfl) rfl <| Lw.nil <| Pw.thenN <| Cw.out <| Cw.ret <| Pw.thenR <| Pw.retCT rfl rfl rfl (by assumption) (Tryz.underlying29) rfl rfl rfl ?_
  exact ⟨hB, _, _, by rw [ee], fun _ => ⟨rfl, rfl⟩, fun h => absurd (ee ▸ h) hne⟩
 intro g
 have e0 : pshE a.s b.s = 0 := by simpa using g
 have hsv := hs2 e0
 have e0' := ee.trans e0
 obtain ⟨la, lb, hmid⟩ : a.s.length = 2 ∧ b.s.length = 2 ∧ a.s.getD 1 default = b.s.getD 0 default := by
  have := e0
  unfold pshE at this
  rw [(tok_ok t_a).1, (tok_ok t_b).1] at this
  simp only [Bool.and_self, if_true] at this
  split at this
  ·assumption
  ·cases this
 have ka := (tok_ok t_a).1
 have kb := (tok_ok t_b).1
 have d0 := ok_dims ka (i := 0) (by omega)
 have d1 := ok_dims kb (i := 1) (by omega)
 have d2 := ok_dims kb (i := 0) (by omega)
 obtain ⟨m, hm⟩ : ∃ m : Nat, (m : Int) = a.s.getD 0 default := ⟨(a.s.getD 0 default).toNat, by omega⟩
 obtain ⟨n, hnn⟩ : ∃ n : Nat, (n : Int) = b.s.getD 1 default := ⟨(b.s.getD 1 default).toNat, by omega⟩
 obtain ⟨k, hk⟩ : ∃ k : Nat, (k : Int) = b.s.getD 0 default := ⟨(b.s.getD 0 default).toNat, by omega⟩
 have hL : prdL a b = prd m k n a.l b.l := by unfold prdL; rw [← hm, ← hnn, ← hk]; rfl
 have hmn := mul64 d0 d1
 rw [← hm, ← hnn] at hmn
 have hok : Shapes.ok [(m : Int), (n : Int)] = true := by rw [hm, hnn]; exact two_ok d0 d1 (by rw [← hm, ← hnn]; exact hmn.2)
 have hsz : (Shapes.size [(m : Int), (n : Int)]).toNat = m * n := by
  rw [Shapes.size_ok hok]
  simp [Shapes.prod]
  exact_mod_cast Int.toNat_natCast (m * n)
 have la2 : a.l.length = m * k := by
  have h1 := (tok_ok t_a).2
  rw [size_two ka la, hmid, ← hm, ← hk] at h1
  rw [h1]; exact_mod_cast Int.toNat_natCast (m * k)
 have lb2 : b.l.length = k * n := by
  have h1 := (tok_ok t_b).2
  rw [size_two kb lb, ← hnn, ← hk] at h1
  rw [h1]; exact_mod_cast Int.toNat_natCast (k * n)
 rw [← hm, ← hnn] at hsv
 rw [e0']
 have sl_s := own_slT hsv
 refine Cw.skip <| Pw.thenN <| Cw.out <| Cw.seq <| Cw.region <| Lw.val (Ex.move rfl) rfl <| Lw.callF rfl rfl (new_c sv [(m : Int), (n : Int)] w sl_s) ?_
 rintro r w3 ⟨hn3, hcase⟩
 obtain ⟨zx, zy, rfl, hz⟩ : ∃ x y, r = .tuple #[.agg #[x, y], .int .i64 0] ∧ Made1 w w3 x y [(m : Int), (n : Int)] (List.replicate (m * n) 0#32) := by
  rw [hsz] at hcase
  rcases hcase with ⟨_, h⟩ | ⟨h, _⟩
  ·exact h
  ·rw [hok] at h; cases h
 refine Lw.val (Ex.move rfl) rfl <| Lw.val (Ex.extract (i := 0) rfl rfl) rfl <| Lw.val (Ex.extract (i := 1) rfl rfl) rfl <| Lw.boxed (cs := [zx, zy]) it_29 rfl rfl rfl rfl (fun _ => rfl) (hz.one) ?_
 rintro A_t w4 eA_t b_t hn4 zhn4
 have M := mine_new hz eA_t b_t hn4 zhn4 hn3.size
 have hw4 := bt hn3 hn4
 clear hz b_t hcase eA_t
 have b_a4 := b_a.bs hw4
 have b_b4 := b_b.bs hw4
 have s4 := sl_s.bs hw4
 have x4 := (h_b.bs hw4).1
 have hz4 := hw4.size
 refine Lw.val (Ex.assign rfl) rfl <| Lw.nil <| Pw.thenN <| Cw.out <| Cw.seq <| Cw.quiet mixed (by kernel_rfl) <| Qw.val (fun w1 hq => Ex.fieldAddr (q := 0) Tryz.underlying29 rfl (sz_26 _) rfl) rfl <| Qw.val (fun w1 hq => Ex.ldB (ag_26 _) rfl (Blk.bs (by assumption) hq) rfl) rfl ?_
 refine Qw.val (fun w1 hq => Ex.idxS st_26 rfl rfl x4.shp 0 rfl (by omega)) rfl <| Qw.val (fun w1 hq => (Ex.ldT (ag_3 _) rfl (x4.bs hq) (by omega)).as (congrArg (Value.int .i64) hk.symm)) rfl <| Qw.val (fun w1 hq => Ex.move rfl) rfl <| Qw.val (fun w1 hq => Ex.idxS st_26 rfl rfl s4.shp 1 rfl (by simp)) rfl <| Qw.val (fun w1 hq => Ex.ldT (ag_3 _) rfl (s4.bs hq) (by simp)) rfl <| Qw.val (fun w1 hq => Ex.assign rfl) rfl <| Qw.val (fun w1 hq => Ex.assign rfl) rfl ?_
 refine Qw.nil (fun w5 hq => ?_)
 refine Pw.thenN <| Cw.out <| Cw.seq <| Cw.seq ?_
 have hw5 := bt hw4 hq
 have hs5 := hq.size
 have M := M.bs hq
 have b_t5 := M.box
 have l5 := M.sly
 clear hq b_a4 b_b4 s4 x4 hn3 hn4 zhn4
 have lrep : (List.replicate (m * n) 0#32).length = m * n := by rw [List.length_replicate]
 refine Cw.region <| Lw.val (Ex.fieldAddr (q := 0) Tryz.underlying29 rfl (sz_27 _) rfl) rfl <| Lw.val (Ex.ldB (ag_27 _) rfl (by assumption) rfl) rfl ?_
 refine Lw.val ((Ex.lenS (sz := 1) st_27 rfl l5).as (congrArg (fun j : Nat => Value.int .i64 (j : Int)) lrep)) rfl <| Lw.val (Ex.move rfl) rfl <| Lw.nil <| Pw.thenN <| Cw.out <| Cw.block ?_
 obtain ⟨pl, hpl⟩ : ∃ pl, pl = prd m k n a.l b.l := ⟨_, rfl⟩
 have npl : pl.length = (List.replicate (m * n) 0#32).length := by rw [hpl, prd_length, lrep]
 refine Cw.loop (S := Nat) (fun i => [(2, .pointer (some ⟨A_a, 0, none⟩)), (3, .pointer (some ⟨A_b, 0, none⟩)), (4, .pointer (some ⟨A_r, 0, none⟩)), (5, .int .i64 0), (8, .pointer (some ⟨A_t, 0, none⟩)), (10, .int .i64 (k : Int)), (11, .int .i64 (n : Int)), (52, .int .i64 ((m * n : Nat) : Int)), (53, .int .i64 (i : Int))]) (fun i w' => i ≤ m * n ∧ w4.heap.size ≤ w'.heap.size ∧ Below w.heap.size w w' ∧ MineT w' w.heap.size w4.heap.size A_t zx zy [(m : Int), (n : Int)] (pl.take i ++ (List.replicate (m * n) 0#32).drop i)) (fun i => m * n - i) (0) ⟨rfl, rfl, rfl, rfl, rfl, rfl, rfl, rfl, rfl, trivial⟩ ?_ ?_
 ·exact ⟨by omega, hs5, hw5, by rw [td_zero]; exact M⟩
 clear M l5 b_t5 hw5
 have y_a := h_a.2
 have y_b := h_b.2
 have zrw := blk_lt b_r
 rintro i w6 ⟨hi, hs6, hw6, M⟩
 refine Cw.seq <| Cw.region <| Lw.val (Ex.lss rfl rfl) rfl <| Lw.nil <| Pw.thenN <| Cw.out <| Cw.seq <| Cw.cond rfl ?_ ?_
 ·intro h
  have hi' : i < m * n := by simp at h; omega
  obtain ⟨r1, r2, r3⟩ := at_rc hi'
  have hir : i < (List.replicate (m * n) 0#32).length := by rw [lrep]; exact hi'
  refine Cw.skip <| Pw.thenN <| Cw.out <| Cw.seq <| Cw.block <| Cw.seq <| Cw.region <| Lw.val (Ex.move rfl) rfl <| Lw.val (Ex.assign rfl) rfl <| Lw.nil <| Pw.thenN <| Cw.out <| Cw.seq ?_
  refine Cw.any mixed (fun w7 hd _ => ?_)
  have hw7 := bt hw6 hd
  have M7 := M.bs hd
  refine Aw.take (i := 1) (NoP.thn (NoP.blk (NoP.thn (NoP.thn (NoP.blk (NoP.thn NoP.ret)))))) rfl (by kernel_rfl) (by kernel_rfl) (by kernel_rfl) (fun _ => Ex.move rfl) rfl <| Aw.take (i := 2) (NoP.thn (NoP.blk (NoP.thn (NoP.thn (NoP.blk (NoP.thn NoP.ret)))))) rfl (by kernel_rfl) (by kernel_rfl) (by kernel_rfl) (fun _ => Ex.move rfl) rfl <| Aw.take (i := 3) (NoP.thn (NoP.blk (NoP.thn (NoP.thn (NoP.blk (NoP.thn NoP.ret)))))) rfl (by kernel_rfl) (by kernel_rfl) (by kernel_rfl) (fun _ => Ex.quoN rfl rfl (by omega) (by omega)) rfl <| Aw.take (i := 4) (NoP.thn (NoP.blk (NoP.thn (NoP.thn (NoP.blk (NoP.thn NoP.ret)))))) rfl (by kernel_rfl) (by kernel_rfl) (by kernel_rfl) (fun _ => Ex.move rfl) rfl <| Aw.take (i := 5) (NoP.thn (NoP.blk (NoP.thn (NoP.thn (NoP.blk (NoP.thn NoP.ret)))))) rfl (by kernel_rfl) (by kernel_rfl) (by kernel_rfl) (fun _ => Ex.move rfl) rfl <| Aw.take (i := 6) (NoP.thn (NoP.blk (NoP.thn (NoP.thn (NoP.blk (NoP.thn NoP.ret)))))) rfl (by kernel_rfl) (by kernel_rfl) (by kernel_rfl) (fun _ => Ex.remN rfl rfl (by omega)) rfl <| Aw.only (i := 0) (by kernel_rfl) rfl <| Lw.callF rfl rfl (gathers_c w7) ?_
  rintro _ w8 ⟨rfl, b_g, hn8, zhn8⟩
  have hw8 := bt hw7 hn8
  have M8 := M7.bs hn8
  have z7 := hd.size
  have z8 := hn8.size
  obtain ⟨G, hG⟩ : ∃ G, G = w7.heap.size := ⟨_, rfl⟩
  rw [← hG] at b_g
  rw [← hG]
  obtain ⟨f, hf⟩ : ∃ f : Nat → BitVec 32, f = fun p => a.l.getD (i / n * k + p) default * b.l.getD (p * n + i % n) default := ⟨_, rfl⟩
  obtain ⟨c, hc0⟩ : ∃ c, c = pl.take i ++ (List.replicate (m * n) 0#32).drop i := ⟨_, rfl⟩
  have lc : c.length = m * n := by rw [hc0, td_len npl, lrep]
  have hfull : pl.getD i default = sm k f := by
   have := prd_at (k := k) a.l b.l r1 r2
   rw [r3] at this
   rw [hpl, hf]
   exact this
  have hzero : c.set i (sm 0 f) = c := by
   have h1 : c.getD i default = 0#32 := by rw [hc0, td_get npl hir, getD_rep hi']
   refine set_same ?_ ?_
   ·omega
   ·rw [h1]; rfl
  have hlast : c.set i (sm k f) = pl.take (i + 1) ++ (List.replicate (m * n) 0#32).drop (i + 1) := by rw [← hfull, hc0]; exact td_set npl hir
  rw [← hc0] at M8
  refine Aw.back <| Aw.take (i := 7) (NoP.thn (NoP.blk (NoP.thn (NoP.thn (NoP.blk (NoP.thn NoP.ret)))))) rfl (by kernel_rfl) (by kernel_rfl) (by kernel_rfl) (fun _ => Ex.assign rfl) rfl <| Aw.take (i := 8) (NoP.thn (NoP.blk (NoP.thn (NoP.thn (NoP.blk (NoP.thn NoP.ret)))))) rfl (by kernel_rfl) (by kernel_rfl) (by kernel_rfl) (fun _ => Ex.assign rfl) rfl <| Aw.take (i := 9) (NoP.thn (NoP.blk (NoP.thn (NoP.thn (NoP.blk (NoP.thn NoP.ret)))))) rfl (by kernel_rfl) (by kernel_rfl) (by kernel_rfl) (fun _ => Ex.assign rfl) rfl <| Aw.done (by kernel_rfl) <| Pw.thenN <| Cw.out <| Cw.seq <| Cw.region <| Lw.val (Ex.move rfl) rfl <| Lw.val (Ex.move rfl) rfl <| Lw.nil <| Pw.thenN <| Cw.out <| Cw.block ?_
  refine Cw.loop (S := Nat) (fun p => [(2, .pointer (some ⟨A_a, 0, none⟩)), (3, .pointer (some ⟨A_b, 0, none⟩)), (4, .pointer (some ⟨A_r, 0, none⟩)), (5, .int .i64 0), (8, .pointer (some ⟨A_t, 0, none⟩)), (10, .int .i64 (k : Int)), (11, .int .i64 (n : Int)), (12, .int .i64 (i : Int)), (13, .func (.func 126) #[] #[.pointer (some ⟨G, 0, none⟩)]), (14, .int .i64 ((i / n : Nat) : Int)), (15, .int .i64 ((i % n : Nat) : Int)), (52, .int .i64 ((m * n : Nat) : Int)), (53, .int .i64 (i : Int)), (63, .int .i64 (k : Int)), (64, .int .i64 (p : Int))]) (fun p w' => p ≤ k ∧ w4.heap.size ≤ w'.heap.size ∧ Below w.heap.size w w' ∧ MineT w' w.heap.size w4.heap.size A_t zx zy [(m : Int), (n : Int)] (c.set i (sm p f)) ∧ Blk w' G 21 [i32 (sm p f)]) (fun p => k - p) (0) ⟨rfl, rfl, rfl, rfl, rfl, rfl, rfl, rfl, rfl, rfl, rfl, rfl, rfl, rfl, rfl, trivial⟩ ?_ ?_
  ·exact ⟨by omega, by omega, hw8, by rw [hzero]; exact M8, b_g⟩
  clear M M7 M8 b_g hw7 hw8 hd hn8
  rintro p w9 ⟨hp, hs9, hw9, M, b_g⟩
  refine Cw.seq <| Cw.region <| Lw.val (Ex.lss rfl rfl) rfl <| Lw.nil <| Pw.thenN <| Cw.out <| Cw.seq <| Cw.cond rfl ?_ ?_
  ·intro h
   have hp' : p < k := by simp at h; omega
   have hab : i / n * k + p < a.l.length := by rw [la2]; exact rc_lt r1 hp'
   have hbb : p * n + i % n < b.l.length := by rw [lb2]; exact rc_lt hp' r2
   have hla := y_a.le
   have hlb := y_b.le
   refine Cw.skip <| Pw.thenN <| Cw.out <| Cw.seq <| Cw.block <| Cw.seq <| Cw.region <| Lw.val (Ex.move rfl) rfl <| Lw.val (Ex.assign rfl) rfl <| Lw.nil <| Pw.thenN <| Cw.out ?_
   refine Cw.any mixed (fun w10 hd _ => ?_)
   have hw10 := bt hw9 hd
   have M10 := M.bs hd
   have b_g10 := b_g.bs hd
   have z10 := hd.size
   refine Aw.cls (fun w' => Below w.heap.size w w' ∧ Blk w' A_t 29 [zx, zy]) (fun hC => ?_) (⟨hw10, M10.box⟩)
   refine AwC.take (i := 0) (NoP.blk (NoP.thn (NoP.thn (NoP.blk (NoP.blk (NoP.thn (NoP.thn (NoP.blk (NoP.thn NoP.ret))))))))) rfl (by kernel_rfl) (by kernel_rfl) (by kernel_rfl) (fun w1 hc => Ex.fieldAddr (q := 0) Tryz.underlying29 rfl (sz_27 _) rfl) rfl <| AwC.take (i := 1) (NoP.blk (NoP.thn (NoP.thn (NoP.blk (NoP.blk (NoP.thn (NoP.thn (NoP.blk (NoP.thn NoP.ret))))))))) rfl (by kernel_rfl) (by kernel_rfl) (by kernel_rfl) (fun w1 hc => Ex.ldB (ag_27 _) rfl (by first | exact Blk.bs (by assumption) hc.1 | exact hc.2) rfl) rfl ?_
   refine AwC.take (i := 2) (NoP.blk (NoP.thn (NoP.thn (NoP.blk (NoP.blk (NoP.thn (NoP.thn (NoP.blk (NoP.thn NoP.ret))))))))) rfl (by kernel_rfl) (by kernel_rfl) (by kernel_rfl) (fun w1 hc => Ex.move rfl) rfl <| AwC.take (i := 3) (NoP.blk (NoP.thn (NoP.thn (NoP.blk (NoP.blk (NoP.thn (NoP.thn (NoP.blk (NoP.thn NoP.ret))))))))) rfl (by kernel_rfl) (by kernel_rfl) (by kernel_rfl) (fun w1 hc => Ex.move rfl) rfl <| AwC.take (i := 4) (NoP.blk (NoP.thn (NoP.thn (NoP.blk (NoP.blk (NoP.thn (NoP.thn (NoP.blk (NoP.thn NoP.ret))))))))) rfl (by kernel_rfl) (by kernel_rfl) (by kernel_rfl) (fun w1 hc => Ex.fieldAddr (q := 0) Tryz.underlying29 rfl (sz_27 _) rfl) rfl <| AwC.take (i := 5) (NoP.blk (NoP.thn (NoP.thn (NoP.blk (NoP.blk (NoP.thn (NoP.thn (NoP.blk (NoP.thn NoP.ret))))))))) rfl (by kernel_rfl) (by kernel_rfl) (by kernel_rfl) (fun w1 hc => Ex.ldB (ag_27 _) rfl (by first | exact Blk.bs (by assumption) hc.1 | exact hc.2) rfl) rfl ?_
   refine AwC.take (i := 6) (NoP.blk (NoP.thn (NoP.thn (NoP.blk (NoP.blk (NoP.thn (NoP.thn (NoP.blk (NoP.thn NoP.ret))))))))) rfl (by kernel_rfl) (by kernel_rfl) (by kernel_rfl) (fun w1 hc => Ex.move rfl) rfl <| AwC.take (i := 7) (NoP.blk (NoP.thn (NoP.thn (NoP.blk (NoP.blk (NoP.thn (NoP.thn (NoP.blk (NoP.thn NoP.ret))))))))) rfl (by kernel_rfl) (by kernel_rfl) (by kernel_rfl) (fun w1 hc => Ex.move rfl) rfl <| AwC.take (i := 8) (NoP.blk (NoP.thn (NoP.thn (NoP.blk (NoP.blk (NoP.thn (NoP.thn (NoP.blk (NoP.thn NoP.ret))))))))) rfl (by kernel_rfl) (by kernel_rfl) (by kernel_rfl) (fun w1 hc => Ex.mulN rfl rfl (by omega)) rfl <| AwC.take (i := 9) (NoP.blk (NoP.thn (NoP.thn (NoP.blk (NoP.blk (NoP.thn (NoP.thn (NoP.blk (NoP.thn NoP.ret))))))))) rfl (by kernel_rfl) (by kernel_rfl) (by kernel_rfl) (fun w1 hc => Ex.move rfl) rfl <| AwC.take (i := 10) (NoP.blk (NoP.thn (NoP.thn (NoP.blk (NoP.blk (NoP.thn (NoP.thn (NoP.blk (NoP.thn NoP.ret))))))))) rfl (by kernel_rfl) (by kernel_rfl) (by kernel_rfl) (fun w1 hc => Ex.addN rfl rfl (by omega)) rfl <| AwC.take (i := 11) (NoP.blk (NoP.thn (NoP.thn (NoP.blk (NoP.blk (NoP.thn (NoP.thn (NoP.blk (NoP.thn NoP.ret))))))))) rfl (by kernel_rfl) (by kernel_rfl) (by kernel_rfl) (fun w1 hc => Ex.idxT st_27 rfl rfl (y_a.bs hc.1) _ rfl hab) rfl <| AwC.take (i := 12) (NoP.blk (NoP.thn (NoP.thn (NoP.blk (NoP.blk (NoP.thn (NoP.thn (NoP.blk (NoP.thn NoP.ret))))))))) rfl (by kernel_rfl) (by kernel_rfl) (by kernel_rfl) (fun w1 hc => Ex.ldT (ag_21 _) rfl (y_a.bs hc.1) hab) rfl ?_
   refine AwC.take (i := 13) (NoP.blk (NoP.thn (NoP.thn (NoP.blk (NoP.blk (NoP.thn (NoP.thn (NoP.blk (NoP.thn NoP.ret))))))))) rfl (by kernel_rfl) (by kernel_rfl) (by kernel_rfl) (fun w1 hc => Ex.fieldAddr (q := 0) Tryz.underlying29 rfl (sz_27 _) rfl) rfl <| AwC.take (i := 14) (NoP.blk (NoP.thn (NoP.thn (NoP.blk (NoP.blk (NoP.thn (NoP.thn (NoP.blk (NoP.thn NoP.ret))))))))) rfl (by kernel_rfl) (by kernel_rfl) (by kernel_rfl) (fun w1 hc => Ex.ldB (ag_27 _) rfl (by first | exact Blk.bs (by assumption) hc.1 | exact hc.2) rfl) rfl ?_
   refine AwC.take (i := 15) (NoP.blk (NoP.thn (NoP.thn (NoP.blk (NoP.blk (NoP.thn (NoP.thn (NoP.blk (NoP.thn NoP.ret))))))))) rfl (by kernel_rfl) (by kernel_rfl) (by kernel_rfl) (fun w1 hc => Ex.move rfl) rfl <| AwC.take (i := 16) (NoP.blk (NoP.thn (NoP.thn (NoP.blk (NoP.blk (NoP.thn (NoP.thn (NoP.blk (NoP.thn NoP.ret))))))))) rfl (by kernel_rfl) (by kernel_rfl) (by kernel_rfl) (fun w1 hc => Ex.move rfl) rfl <| AwC.take (i := 17) (NoP.blk (NoP.thn (NoP.thn (NoP.blk (NoP.blk (NoP.thn (NoP.thn (NoP.blk (NoP.thn NoP.ret))))))))) rfl (by kernel_rfl) (by kernel_rfl) (by kernel_rfl) (fun w1 hc => Ex.mulN rfl rfl (by omega)) rfl <| AwC.take (i := 18) (NoP.blk (NoP.thn (NoP.thn (NoP.blk (NoP.blk (NoP.thn (NoP.thn (NoP.blk (NoP.thn NoP.ret))))))))) rfl (by kernel_rfl) (by kernel_rfl) (by kernel_rfl) (fun w1 hc => Ex.move rfl) rfl <| AwC.take (i := 19) (NoP.blk (NoP.thn (NoP.thn (NoP.blk (NoP.blk (NoP.thn (NoP.thn (NoP.blk (NoP.thn NoP.ret))))))))) rfl (by kernel_rfl) (by kernel_rfl) (by kernel_rfl) (fun w1 hc => Ex.addN rfl rfl (by omega)) rfl <| AwC.take (i := 20) (NoP.blk (NoP.thn (NoP.thn (NoP.blk (NoP.blk (NoP.thn (NoP.thn (NoP.blk (NoP.thn NoP.ret))))))))) rfl (by kernel_rfl) (by kernel_rfl) (by kernel_rfl) (fun w1 hc => Ex.idxT st_27 rfl rfl (y_b.bs hc.1) _ rfl hbb) rfl <| AwC.take (i := 21) (NoP.blk (NoP.thn (NoP.thn (NoP.blk (NoP.blk (NoP.thn (NoP.thn (NoP.blk (NoP.thn NoP.ret))))))))) rfl (by kernel_rfl) (by kernel_rfl) (by kernel_rfl) (fun w1 hc => Ex.ldT (ag_21 _) rfl (y_b.bs hc.1) hbb) rfl ?_
   refine AwC.only (by assumption) (i := 22) (by kernel_rfl) rfl ?_
   refine Lw.callV (p := []) rfl rfl rfl (gather_c G (sm p f) _ _ w10 b_g10) ?_
   rintro _ w11 ⟨rfl, b_g11, hg11⟩
   have M11 := M10.keep hg11 (by rintro _ ⟨⟩; omega)
   have hw11 := hw10.grown hg11 (below_size hw10) (by rintro _ ⟨⟩; have := below_size hw6; omega)
   have z11 := hg11.size
   have hC11 := And.intro hw11 M11.box
   have hsm : sm p f + a.l.getD (i / n * k + p) default * b.l.getD (p * n + i % n) default = sm (p + 1) f := by rw [sm, hf]
   rw [hsm] at b_g11
   rw [hsm]
   refine AwC.back <| AwC.take (i := 23) (NoP.blk (NoP.thn (NoP.thn (NoP.blk (NoP.blk (NoP.thn (NoP.thn (NoP.blk (NoP.thn NoP.ret))))))))) rfl (by kernel_rfl) (by kernel_rfl) (by kernel_rfl) (fun w1 hc => Ex.idxS st_27 rfl rfl M10.sly.shp i rfl (by rw [List.length_set]; omega)) rfl <| AwC.only (by assumption) (i := 24) (by kernel_rfl) rfl ?_
   refine Lw.unit (M11.st (sz_21 _) rfl rfl (by rw [List.length_set]; omega)) ?_
   rintro w12 ⟨M12, hg12, -⟩
   have hw12 := M11.below hw11 (Nat.le_refl _) hg12
   have b_g12 := b_g11.by hg12 (fun e => by have := M11.lst.blk _ e.symm; omega)
   have z12 := hg12.size
   have hC12 := And.intro hw12 M12.box
   rw [List.set_set] at M12
   refine AwC.back <| AwC.done (by assumption) (by kernel_rfl) ?_
   refine Pw.blkN <| Pw.thenN <| Cw.out <| Cw.region <| Lw.val (Ex.addI rfl rfl (by omega)) rfl <| Lw.val (Ex.move rfl) rfl <| Lw.nil ?_
   exact Pw.thenN (Pw.next (p + 1) ⟨rfl, rfl, rfl, rfl, rfl, rfl, rfl, rfl, rfl, rfl, rfl, rfl, rfl, rfl, rfl, trivial⟩ (⟨hp', by omega, hw12, M12, b_g12⟩) (by omega))
  intro h
  have hp' : p = k := by simp at h; omega
  subst hp'
  rw [hlast] at M
  refine Cw.exit <| Pw.thenE <| Pw.thenE <| Pw.blkHit <| Pw.blkN <| Pw.thenN <| Cw.out <| Cw.region <| Lw.val (Ex.addI rfl rfl (by omega)) rfl <| Lw.val (Ex.move rfl) rfl <| Lw.nil ?_
  exact Pw.thenN (Pw.next (i + 1) ⟨rfl, rfl, rfl, rfl, rfl, rfl, rfl, rfl, rfl, trivial⟩ (⟨hi', hs9, hw9, M⟩) (by omega))
 intro h
 have hi' : i = m * n := by simp at h; omega
 subst hi'
 have hall : pl.take (m * n) ++ (List.replicate (m * n) 0#32).drop (m * n) = pl := by
  have := td_all npl
  rwa [lrep] at this
 rw [hall] at M
 have b_t6 := M.box
 have b_r6 := b_r.bs hw6
 refine Cw.exit <| Pw.thenE <| Pw.thenE <| Pw.blkHit <| Pw.thenN <| Cw.out <| Cw.seq <| Cw.region <| Lw.val (Ex.ldA (ag_29 _) (sz_29 _) rfl rfl (by assumption)) rfl ?_
 refine Lw.unit (Xu.stA (cs := [zx, zy]) rfl rfl rfl rfl (by simp [M.sh.one', M.sly.one']) b_r6 rfl) ?_
 rintro w9 ⟨b_r9, hg9, -⟩
 have M9 := M.keep hg9 (by rintro _ ⟨⟩; omega)
 have zW := below_size hB
 have hB9 := (bt hB hw6).grown hg9 (below_size (bt hB hw6)) (by rintro _ ⟨⟩; omega)
 refine Lw.val (Ex.assign rfl) rfl <| Lw.nil <| Pw.thenN <| Cw.out <| Cw.ret <| Pw.retCT rfl rfl rfl (by assumption) (Tryz.underlying29) rfl rfl rfl ?_
 rw [← hm, ← hnn, hL, ← hpl]
 exact ⟨hB9, zx, zy, rfl, fun h => absurd rfl h, fun _ => ⟨M9.row.mono zW, own_mono M9.lst.own zW, M9.yx⟩⟩

theorem prod_c (a b : T4) (W : World) (h_a : a.at W) (h_b : b.at W) :
  Fnc Tryz.prog 74 [a.v, b.v] W (fun r w' => Below W.heap.size W w' ∧ Gets W w' r (prdE a b) [a.s.getD 0 default, b.s.getD 1 default] (prdL a b)) :=
 (prod0_c a b W h_a h_b).mono fun _ _ ⟨h1, h2⟩ => ⟨h1, h2.gets⟩
end Go.Proofs.YtmipoeanpnnjoaaGreat

/-! Contracts: windows' shapes, spots, pictures. -/
namespace Go.Proofs.YtmipoeanpnnjoaaGreat
open Go Go.Dd Go.RowKit
set_option maxRecDepth 100000

theorem slides_c (rows look step : Int) (w : World) (h1 : 0 ≤ rows ∧ rows ≤ 1000000) (h2 : 0 ≤ look ∧ look ≤ 1000000) (h3 : 1 ≤ step ∧ step ≤ 1000000) :
  Fnc Tryz.prog 99 [.int .i64 rows, .int .i64 look, .int .i64 step] w (fun r w' => r = .int .i64 (slid rows look step) ∧ Below w.heap.size w w') := by
 refine Fnc.enter (n := 16) Tryz.func99 (by kernel_rfl) rfl rfl rfl <| Cw.seq <| Cw.region <| Lw.val (Ex.assign rfl) rfl <| Lw.nil <| Pw.thenN <| Cw.out <| Cw.seq <| Cw.seq <| Cw.region <| Lw.val (Ex.move rfl) rfl <| Lw.val (Ex.move rfl) rfl <| Lw.val (Ex.lss rfl rfl) rfl <| Lw.nil <| Pw.thenN <| Cw.out <| Cw.cond rfl ?_ ?_
 ·intro g
  have g := of_decide_eq_true g
  refine Cw.seq <| Cw.region <| Lw.val (Ex.assign rfl) rfl <| Lw.nil <| Pw.thenN <| Cw.out <| Cw.ret <| Pw.thenR <| Pw.ret1 rfl rfl ?_
  exact ⟨by rw [slid, if_pos g], Below.refl _ _⟩
 intro g
 have g := of_decide_eq_false g
 have h4 := Int.ediv_le_self step (show 0 ≤ rows - look by omega)
 have h5 := Int.ediv_nonneg (show 0 ≤ rows - look by omega) (show 0 ≤ step by omega)
 refine Cw.skip <| Pw.thenN <| Cw.out <| Cw.seq <| Cw.region <| Lw.val (Ex.move rfl) rfl <| Lw.val (Ex.move rfl) rfl <| Lw.val (Ex.subI rfl rfl (by omega)) rfl <| Lw.val (Ex.move rfl) rfl <| Lw.val (Ex.quoI rfl rfl (by omega) (by omega)) rfl <| Lw.val (Ex.addI rfl rfl (by omega)) rfl <| Lw.val (Ex.assign rfl) rfl <| Lw.nil <| Pw.thenN <| Cw.out <| Cw.ret <| Pw.ret1 rfl rfl ?_
 exact ⟨by rw [slid, if_neg g], Below.refl _ _⟩
/-- An answer: whole numbers in memory of their own, or none. -/
def GotI (W w : World) (r : Value) (e : Int) (l : List Int) : Prop :=
 ∃ (x : Value) (m : List Int), r = .tuple #[x, .int .i64 e] ∧ w.ownsRow W.heap.size 3 1 x m.length (m.map (Value.int .i64)) ∧ (e ≠ 0 → x = .slice none 0 0 ∧ m = []) ∧ (e = 0 → m = l)
theorem gotI_no {W w : World} {e : Int} {l : List Int} (h : e ≠ 0) : GotI W w (.tuple #[.slice none 0 0, .int .i64 e]) e l := ⟨_, [], rfl, World.ownsRow_nil _ _ _ _, fun _ => ⟨rfl, rfl⟩, fun h0 => absurd h0 h⟩
theorem wshB_1 {t s : List Int} (h : ¬ t.length = 3) : wshB t s = false := by simp only [wshB, decide_eq_false h, Bool.false_and]
theorem wshB_2 {t s : List Int} (h : ¬ s.length = 4) : wshB t s = false := by simp only [wshB, decide_eq_false h, Bool.false_and, Bool.and_false]
theorem wshB_3 {t s : List Int} (h : ¬ t.getD 0 default = s.getD 1 default) : wshB t s = false := by simp only [wshB, decide_eq_false h, Bool.and_false]
theorem wshape_c (t s : List Int) (step pad : Int) (u v : Value) (W : World) (h_u : SlT (Value.int .i64) W u t) (h_v : SlT (Value.int .i64) W v s) :
  Fnc Tryz.prog 66 [u, v, .int .i64 step, .int .i64 pad] W (fun r w' => Below W.heap.size W w' ∧ GotI W w' r (wshE t s step pad) (wshS t s step pad)) := by
 have hB := Below.refl W.heap.size W
 refine Fnc.enter (n := 84) Tryz.func66 (by kernel_rfl) rfl rfl rfl <| Cw.seq <| Cw.region <| Lw.val (Ex.assign rfl) rfl <| Lw.val (Ex.assign rfl) rfl <| Lw.nil <| Pw.thenN <| Cw.out <| Cw.seq <| Cw.block <| Cw.seq <| Cw.region <| Lw.val (Ex.move rfl) rfl <| Lw.callF rfl rfl (check_c u t _ h_u) ?_
 rintro _ w ⟨rfl, hn⟩
 replace hB := hB.bs hn
 replace h_u := h_u.bs hn
 replace h_v := h_v.bs hn
 clear hn
 refine Lw.val (Ex.not rfl) rfl <| Lw.val (Ex.move rfl) rfl ?_
 refine Lw.part 15 rfl ?_ ?_
 ·intro g1
  refine Lw.pass (dj := 15) rfl rfl rfl rfl <| Lw.pass (dj := 15) rfl rfl rfl rfl <| Lw.pass (dj := 15) rfl rfl rfl rfl <| Lw.val (Ex.pickT rfl rfl) rfl <| Lw.val (Ex.move rfl) rfl <| Lw.pass (dj := 20) rfl rfl rfl rfl <| Lw.pass (dj := 20) rfl rfl rfl rfl <| Lw.val (Ex.pickT rfl rfl) rfl <| Lw.val (Ex.move rfl) rfl <| Lw.pass (dj := 24) rfl rfl rfl rfl <| Lw.pass (dj := 24) rfl rfl rfl rfl <| Lw.val (Ex.pickT rfl rfl) rfl <| Lw.val (Ex.move rfl) rfl <| Lw.pass (dj := 28) rfl rfl rfl rfl <| Lw.pass (dj := 28) rfl rfl rfl rfl <| Lw.val (Ex.pickT rfl rfl) rfl <| Lw.val (Ex.move rfl) rfl <| Lw.pass (dj := 32) rfl rfl rfl rfl <| Lw.pass (dj := 32) rfl rfl rfl rfl <| Lw.val (Ex.pickT rfl rfl) rfl <| Lw.val (Ex.assign rfl) rfl <| Lw.nil <| Pw.thenN <| Cw.out <| Cw.condT rfl <| Cw.seq <| Cw.region <| Lw.val (Ex.assign rfl) rfl <| Lw.val (Ex.assign rfl) rfl <| Lw.nil <| Pw.thenN <| Cw.out <| Cw.ret <| Pw.blkR <| Pw.thenR <| Pw.ret2 rfl rfl rfl ?_
  rw [show wshE t s step pad = 1 by simp [wshE, show wshA t s step pad = true by simp_all [wshA]]]
  exact ⟨hB, gotI_no (by decide)⟩
 intro g1
 refine Lw.take (dj := 15) rfl rfl <| Lw.val (Ex.move rfl) rfl <| Lw.take (dj := 15) rfl rfl <| Lw.callF rfl rfl (check_c v s _ h_v) ?_
 rintro _ w ⟨rfl, hn⟩
 replace hB := hB.bs hn
 replace h_u := h_u.bs hn
 replace h_v := h_v.bs hn
 clear hn
 refine Lw.take (dj := 15) rfl rfl <| Lw.val (Ex.not rfl) rfl <| Lw.val (Ex.pickF rfl rfl) rfl <| Lw.val (Ex.move rfl) rfl ?_
 refine Lw.part 20 rfl ?_ ?_
 ·intro g2
  refine Lw.pass (dj := 20) rfl rfl rfl rfl <| Lw.pass (dj := 20) rfl rfl rfl rfl <| Lw.val (Ex.pickT rfl rfl) rfl <| Lw.val (Ex.move rfl) rfl <| Lw.pass (dj := 24) rfl rfl rfl rfl <| Lw.pass (dj := 24) rfl rfl rfl rfl <| Lw.val (Ex.pickT rfl rfl) rfl <| Lw.val (Ex.move rfl) rfl <| Lw.pass (dj := 28) rfl rfl rfl rfl <| Lw.pass (dj := 28) rfl rfl rfl rfl <| Lw.val (Ex.pickT rfl rfl) rfl <| Lw.val (Ex.move rfl) rfl <| Lw.pass (dj := 32) rfl rfl rfl rfl <| Lw.pass (dj := 32) rfl rfl rfl rfl <| Lw.val (Ex.pickT rfl rfl) rfl <| Lw.val (Ex.assign rfl) rfl <| Lw.nil <| Pw.thenN <| Cw.out <| Cw.condT rfl <| Cw.seq <| Cw.region <| Lw.val (Ex.assign rfl) rfl <| Lw.val (Ex.assign rfl) rfl <| Lw.nil <| Pw.thenN <| Cw.out <| Cw.ret <| Pw.blkR <| Pw.thenR <| Pw.ret2 rfl rfl rfl ?_
  rw [show wshE t s step pad = 1 by simp [wshE, show wshA t s step pad = true by simp_all [wshA]]]
  exact ⟨hB, gotI_no (by decide)⟩
 intro g2
 refine Lw.take (dj := 20) rfl rfl <| Lw.val (Ex.move rfl) rfl <| Lw.take (dj := 20) rfl rfl <| Lw.val (Ex.lss rfl rfl) rfl <| Lw.val (Ex.pickF rfl rfl) rfl <| Lw.val (Ex.move rfl) rfl ?_
 refine Lw.part 24 rfl ?_ ?_
 ·intro g3
  refine Lw.pass (dj := 24) rfl rfl rfl rfl <| Lw.pass (dj := 24) rfl rfl rfl rfl <| Lw.val (Ex.pickT rfl rfl) rfl <| Lw.val (Ex.move rfl) rfl <| Lw.pass (dj := 28) rfl rfl rfl rfl <| Lw.pass (dj := 28) rfl rfl rfl rfl <| Lw.val (Ex.pickT rfl rfl) rfl <| Lw.val (Ex.move rfl) rfl <| Lw.pass (dj := 32) rfl rfl rfl rfl <| Lw.pass (dj := 32) rfl rfl rfl rfl <| Lw.val (Ex.pickT rfl rfl) rfl <| Lw.val (Ex.assign rfl) rfl <| Lw.nil <| Pw.thenN <| Cw.out <| Cw.condT rfl <| Cw.seq <| Cw.region <| Lw.val (Ex.assign rfl) rfl <| Lw.val (Ex.assign rfl) rfl <| Lw.nil <| Pw.thenN <| Cw.out <| Cw.ret <| Pw.blkR <| Pw.thenR <| Pw.ret2 rfl rfl rfl ?_
  rw [show wshE t s step pad = 1 by simp [wshE, show wshA t s step pad = true by simp_all [wshA]]]
  exact ⟨hB, gotI_no (by decide)⟩
 intro g3
 refine Lw.take (dj := 24) rfl rfl <| Lw.val (Ex.move rfl) rfl <| Lw.take (dj := 24) rfl rfl <| Lw.val (Ex.gtr rfl rfl) rfl <| Lw.val (Ex.pickF rfl rfl) rfl <| Lw.val (Ex.move rfl) rfl ?_
 refine Lw.part 28 rfl ?_ ?_
 ·intro g4
  refine Lw.pass (dj := 28) rfl rfl rfl rfl <| Lw.pass (dj := 28) rfl rfl rfl rfl <| Lw.val (Ex.pickT rfl rfl) rfl <| Lw.val (Ex.move rfl) rfl <| Lw.pass (dj := 32) rfl rfl rfl rfl <| Lw.pass (dj := 32) rfl rfl rfl rfl <| Lw.val (Ex.pickT rfl rfl) rfl <| Lw.val (Ex.assign rfl) rfl <| Lw.nil <| Pw.thenN <| Cw.out <| Cw.condT rfl <| Cw.seq <| Cw.region <| Lw.val (Ex.assign rfl) rfl <| Lw.val (Ex.assign rfl) rfl <| Lw.nil <| Pw.thenN <| Cw.out <| Cw.ret <| Pw.blkR <| Pw.thenR <| Pw.ret2 rfl rfl rfl ?_
  rw [show wshE t s step pad = 1 by simp [wshE, show wshA t s step pad = true by simp_all [wshA]]]
  exact ⟨hB, gotI_no (by decide)⟩
 intro g4
 refine Lw.take (dj := 28) rfl rfl <| Lw.val (Ex.move rfl) rfl <| Lw.take (dj := 28) rfl rfl <| Lw.val (Ex.lss rfl rfl) rfl <| Lw.val (Ex.pickF rfl rfl) rfl <| Lw.val (Ex.move rfl) rfl ?_
 refine Lw.part 32 rfl ?_ ?_
 ·intro g5
  refine Lw.pass (dj := 32) rfl rfl rfl rfl <| Lw.pass (dj := 32) rfl rfl rfl rfl <| Lw.val (Ex.pickT rfl rfl) rfl <| Lw.val (Ex.assign rfl) rfl <| Lw.nil <| Pw.thenN <| Cw.out <| Cw.condT rfl <| Cw.seq <| Cw.region <| Lw.val (Ex.assign rfl) rfl <| Lw.val (Ex.assign rfl) rfl <| Lw.nil <| Pw.thenN <| Cw.out <| Cw.ret <| Pw.blkR <| Pw.thenR <| Pw.ret2 rfl rfl rfl ?_
  rw [show wshE t s step pad = 1 by simp [wshE, show wshA t s step pad = true by simp_all [wshA]]]
  exact ⟨hB, gotI_no (by decide)⟩
 intro g5
 have gT : Shapes.ok t = true := by simpa using g1
 have gS : Shapes.ok s = true := by simpa using g2
 have gst : 1 ≤ step := by simpa using g3
 have gst2 : step ≤ 8 := by simpa using g4
 have gp : 0 ≤ pad := by simpa using g5
 refine Lw.take (dj := 32) rfl rfl <| Lw.val (Ex.move rfl) rfl <| Lw.take (dj := 32) rfl rfl <| Lw.val (Ex.gtr rfl rfl) rfl <| Lw.val (Ex.pickF rfl rfl) rfl <| Lw.val (Ex.assign rfl) rfl <| Lw.nil <| Pw.thenN <| Cw.out <| Cw.cond rfl ?_ ?_
 ·intro g6
  refine Cw.seq <| Cw.region <| Lw.val (Ex.assign rfl) rfl <| Lw.val (Ex.assign rfl) rfl <| Lw.nil <| Pw.thenN <| Cw.out <| Cw.ret <| Pw.blkR <| Pw.thenR <| Pw.ret2 rfl rfl rfl ?_
  rw [show wshE t s step pad = 1 by simp [wshE, show wshA t s step pad = true by simp_all [wshA]]]
  exact ⟨hB, gotI_no (by decide)⟩
 intro g6
 have gp2 : pad ≤ 8 := by simpa using g6
 have gA : wshA t s step pad = false := by simp_all [wshA]
 clear g1 g2 g3 g4 g5 g6
 have hT := (Shapes.ok_iff t).1 gT
 have hS := (Shapes.ok_iff s).1 gS
 refine Cw.seq <| Cw.quiet mixed (by kernel_rfl) <| Qw.val (fun w1 hq => Ex.move rfl) rfl <| Qw.val (fun w1 hq => Ex.lenS st_26 rfl (Sl.bs (by assumption) hq)) rfl ?_
 refine Qw.val (fun w1 hq => Ex.neq rfl rfl) rfl <| Qw.val (fun w1 hq => Ex.move rfl) rfl ?_
 refine Qw.part 40 rfl ?_ ?_
 ·intro g
  refine Qw.pass (dj := 40) rfl rfl rfl rfl <| Qw.pass (dj := 40) rfl rfl rfl rfl <| Qw.pass (dj := 40) rfl rfl rfl rfl <| Qw.val (fun w1 hq => Ex.pickT rfl rfl) rfl <| Qw.val (fun w1 hq => Ex.move rfl) rfl <| Qw.pass (dj := 45) rfl rfl rfl rfl <| Qw.pass (dj := 45) rfl rfl rfl rfl <| Qw.pass (dj := 45) rfl rfl rfl rfl <| Qw.pass (dj := 45) rfl rfl rfl rfl <| Qw.pass (dj := 45) rfl rfl rfl rfl <| Qw.pass (dj := 45) rfl rfl rfl rfl <| Qw.pass (dj := 45) rfl rfl rfl rfl <| Qw.val (fun w1 hq => Ex.pickT rfl rfl) rfl <| Qw.val (fun w1 hq => Ex.assign rfl) rfl ?_
  refine Qw.nil (fun w1 hq => ?_)
  refine Pw.thenN <| Cw.out <| Cw.condT rfl <| Cw.seq <| Cw.region <| Lw.val (Ex.assign rfl) rfl <| Lw.val (Ex.assign rfl) rfl <| Lw.nil <| Pw.thenN <| Cw.out <| Cw.ret <| Pw.blkR <| Pw.thenR <| Pw.ret2 rfl rfl rfl ?_
  rw [show wshE t s step pad = 10 by rw [wshE, gA, wshB_1 (fun h => by simp [h] at g)]; rfl]
  exact ⟨bt hB hq, gotI_no (by decide)⟩
 intro g7
 have lt : t.length = 3 := by have := g7; simp at this; omega
 refine Qw.take (dj := 40) rfl rfl <| Qw.val (fun w1 hq => Ex.move rfl) rfl <| Qw.take (dj := 40) rfl rfl <| Qw.val (fun w1 hq => Ex.lenS st_26 rfl (Sl.bs (by assumption) hq)) rfl ?_
 refine Qw.take (dj := 40) rfl rfl <| Qw.val (fun w1 hq => Ex.neq rfl rfl) rfl <| Qw.val (fun w1 hq => Ex.pickF rfl rfl) rfl <| Qw.val (fun w1 hq => Ex.move rfl) rfl ?_
 refine Qw.part 45 rfl ?_ ?_
 ·intro g
  refine Qw.pass (dj := 45) rfl rfl rfl rfl <| Qw.pass (dj := 45) rfl rfl rfl rfl <| Qw.pass (dj := 45) rfl rfl rfl rfl <| Qw.pass (dj := 45) rfl rfl rfl rfl <| Qw.pass (dj := 45) rfl rfl rfl rfl <| Qw.pass (dj := 45) rfl rfl rfl rfl <| Qw.pass (dj := 45) rfl rfl rfl rfl <| Qw.val (fun w1 hq => Ex.pickT rfl rfl) rfl <| Qw.val (fun w1 hq => Ex.assign rfl) rfl ?_
  refine Qw.nil (fun w1 hq => ?_)
  refine Pw.thenN <| Cw.out <| Cw.condT rfl <| Cw.seq <| Cw.region <| Lw.val (Ex.assign rfl) rfl <| Lw.val (Ex.assign rfl) rfl <| Lw.nil <| Pw.thenN <| Cw.out <| Cw.ret <| Pw.blkR <| Pw.thenR <| Pw.ret2 rfl rfl rfl ?_
  rw [show wshE t s step pad = 10 by rw [wshE, gA, wshB_2 (fun h => by simp [h] at g)]; rfl]
  exact ⟨bt hB hq, gotI_no (by decide)⟩
 intro g8
 have ls : s.length = 4 := by have := g8; simp at this; omega
 refine Qw.take (dj := 45) rfl rfl <| Qw.val (fun w1 hq => Ex.move rfl) rfl <| Qw.take (dj := 45) rfl rfl <| Qw.val (fun w1 hq => Ex.idxT st_26 rfl rfl (Sl.bs (by assumption) hq) 0 rfl (by omega)) rfl ?_
 refine Qw.take (dj := 45) rfl rfl <| Qw.val (fun w1 hq => Ex.ldT (ag_3 _) rfl (Sl.bs (by assumption) hq) (by omega)) rfl ?_
 refine Qw.take (dj := 45) rfl rfl <| Qw.val (fun w1 hq => Ex.move rfl) rfl <| Qw.take (dj := 45) rfl rfl <| Qw.val (fun w1 hq => Ex.idxT st_26 rfl rfl (Sl.bs (by assumption) hq) 1 rfl (by omega)) rfl ?_
 refine Qw.take (dj := 45) rfl rfl <| Qw.val (fun w1 hq => Ex.ldT (ag_3 _) rfl (Sl.bs (by assumption) hq) (by omega)) rfl ?_
 refine Qw.take (dj := 45) rfl rfl <| Qw.val (fun w1 hq => Ex.neq rfl rfl) rfl <| Qw.val (fun w1 hq => Ex.pickF rfl rfl) rfl <| Qw.val (fun w1 hq => Ex.assign rfl) rfl ?_
 refine Qw.nil (fun w1 hq => ?_)
 refine Pw.thenN <| Cw.out <| Cw.cond rfl ?_ ?_
 ·intro g
  refine Cw.seq <| Cw.region <| Lw.val (Ex.assign rfl) rfl <| Lw.val (Ex.assign rfl) rfl <| Lw.nil <| Pw.thenN <| Cw.out <| Cw.ret <| Pw.blkR <| Pw.thenR <| Pw.ret2 rfl rfl rfl ?_
  rw [show wshE t s step pad = 10 by rw [wshE, gA, wshB_3 (fun h => by rw [decide_eq_true h] at g; cases g)]; rfl]
  exact ⟨bt hB hq, gotI_no (by decide)⟩
 intro g9
 have gB : wshB t s = true := by
  have : t.getD 0 default = s.getD 1 default := by simpa only [Bool.not_eq_false', decide_eq_true_eq] using g9
  rw [wshB, decide_eq_true lt, decide_eq_true ls, decide_eq_true this]; rfl
 replace hB := hB.bs hq
 replace h_u := h_u.bs hq
 replace h_v := h_v.bs hq
 clear hq g7 g8 g9
 have t1 := good_at hT.2.1 (k := 1) (by omega)
 have t2 := good_at hT.2.1 (k := 2) (by omega)
 have s0 := good_at hS.2.1 (k := 0) (by omega)
 have s2 := good_at hS.2.1 (k := 2) (by omega)
 have s3 := good_at hS.2.1 (k := 3) (by omega)
 refine Cw.skip <| Pw.blkN <| Pw.thenN <| Cw.out <| Cw.seq <| Cw.tail 25 mixed (by kernel_rfl) <| Qw.val (fun w1 hq => Ex.move rfl) rfl <| Qw.val (fun w1 hq => Ex.idxT st_26 rfl rfl (Sl.bs (by assumption) hq) 0 rfl (by omega)) rfl ?_
 refine Qw.val (fun w1 hq => Ex.ldT (ag_3 _) rfl (Sl.bs (by assumption) hq) (by omega)) rfl ?_
 refine Qw.val (fun w1 hq => Ex.move rfl) rfl <| Qw.val (fun w1 hq => Ex.idxT st_26 rfl rfl (Sl.bs (by assumption) hq) 1 rfl (by omega)) rfl ?_
 refine Qw.val (fun w1 hq => Ex.ldT (ag_3 _) rfl (Sl.bs (by assumption) hq) (by omega)) rfl ?_
 refine Qw.val (fun w1 hq => Ex.move rfl) rfl <| Qw.val (fun w1 hq => Ex.mulI rfl rfl (by omega)) rfl <| Qw.val (fun w1 hq => Ex.addI rfl rfl (by omega)) rfl <| Qw.val (fun w1 hq => Ex.move rfl) rfl <| Qw.val (fun w1 hq => Ex.idxT st_26 rfl rfl (Sl.bs (by assumption) hq) 2 rfl (by omega)) rfl ?_
 refine Qw.val (fun w1 hq => Ex.ldT (ag_3 _) rfl (Sl.bs (by assumption) hq) (by omega)) rfl ?_
 refine Qw.val (fun w1 hq => Ex.move rfl) rfl <| Qw.callF rfl rfl (fun w1 hq => (slides_c (t.getD 1 default + 2 * pad) (s.getD 2 default) step w1 (by omega) (by omega) (by omega)).q hq) <| Qw.val (fun w1 hq => Ex.move rfl) rfl <| Qw.val (fun w1 hq => Ex.idxT st_26 rfl rfl (Sl.bs (by assumption) hq) 2 rfl (by omega)) rfl ?_
 refine Qw.val (fun w1 hq => Ex.ldT (ag_3 _) rfl (Sl.bs (by assumption) hq) (by omega)) rfl ?_
 refine Qw.val (fun w1 hq => Ex.move rfl) rfl <| Qw.val (fun w1 hq => Ex.mulI rfl rfl (by omega)) rfl <| Qw.val (fun w1 hq => Ex.addI rfl rfl (by omega)) rfl <| Qw.val (fun w1 hq => Ex.move rfl) rfl <| Qw.val (fun w1 hq => Ex.idxT st_26 rfl rfl (Sl.bs (by assumption) hq) 3 rfl (by omega)) rfl ?_
 refine Qw.val (fun w1 hq => Ex.ldT (ag_3 _) rfl (Sl.bs (by assumption) hq) (by omega)) rfl ?_
 refine Qw.val (fun w1 hq => Ex.move rfl) rfl <| Qw.callF rfl rfl (fun w1 hq => (slides_c (t.getD 2 default + 2 * pad) (s.getD 3 default) step w1 (by omega) (by omega) (by omega)).q hq) ?_
 refine Qw.done (fun w2 hq => ?_)
 replace hB := hB.bs hq
 replace h_u := h_u.bs hq
 replace h_v := h_v.bs hq
 clear hq
 have zw := below_size hB
 refine Lw.valW (Xw.lit (vs := (wshS t s step pad).map (Value.int .i64)) st_26 it_3 rfl rfl rfl rfl rfl) rfl ?_
 rintro x w ⟨ho, -, hn, -⟩
 have ho := own_mono ho zw
 replace hB := hB.bs hn
 replace h_u := h_u.bs hn
 replace h_v := h_v.bs hn
 clear hn
 refine Lw.val (Ex.assign rfl) rfl <| Lw.nil <| Pw.thenN <| Cw.out <| Cw.seq <| Cw.seq <| Cw.region <| Lw.val (Ex.move rfl) rfl <| Lw.callF rfl rfl (check_c x (wshS t s step pad) _ (own_slT ho)) ?_
 rintro _ w ⟨rfl, hn⟩
 replace hB := hB.bs hn
 replace h_u := h_u.bs hn
 replace h_v := h_v.bs hn
 replace ho := ho.bs hn
 clear hn
 refine Lw.val (Ex.not rfl) rfl <| Lw.nil <| Pw.thenN <| Cw.out <| Cw.cond rfl ?_ ?_
 ·intro g
  refine Cw.seq <| Cw.region <| Lw.val (Ex.assign rfl) rfl <| Lw.val (Ex.assign rfl) rfl <| Lw.nil <| Pw.thenN <| Cw.out <| Cw.ret <| Pw.thenR <| Pw.ret2 rfl rfl rfl ?_
  rw [show wshE t s step pad = 10 by simp_all [wshE]]
  exact ⟨hB, gotI_no (by decide)⟩
 intro g
 refine Cw.skip <| Pw.thenN <| Cw.out <| Cw.seq <| Cw.region <| Lw.val (Ex.move rfl) rfl <| Lw.val (Ex.assign rfl) rfl <| Lw.val (Ex.assign rfl) rfl <| Lw.nil <| Pw.thenN <| Cw.out <| Cw.ret <| Pw.ret2 rfl rfl rfl ?_
 rw [show wshE t s step pad = 0 by simp_all [wshE]]
 exact ⟨hB, x, _, rfl, ho, fun h => absurd rfl h, fun _ => rfl⟩
theorem wpshape_c (t : List Int) (wide : Int) (u : Value) (W : World) (h_u : SlT (Value.int .i64) W u t) :
  Fnc Tryz.prog 67 [u, .int .i64 wide] W (fun r w' => Below W.heap.size W w' ∧ GotI W w' r (poolE t wide) (pshS t wide)) := by
 have hB := Below.refl W.heap.size W
 refine Fnc.enter (n := 47) Tryz.func67 (by kernel_rfl) rfl rfl rfl <| Cw.seq <| Cw.region <| Lw.val (Ex.assign rfl) rfl <| Lw.val (Ex.assign rfl) rfl <| Lw.nil <| Pw.thenN <| Cw.out <| Cw.seq <| Cw.seq <| Cw.region <| Lw.val (Ex.move rfl) rfl <| Lw.callF rfl rfl (check_c u t _ h_u) ?_
 rintro _ w ⟨rfl, hn⟩
 replace hB := hB.bs hn
 replace h_u := h_u.bs hn
 clear hn
 refine Lw.val (Ex.not rfl) rfl <| Lw.val (Ex.move rfl) rfl ?_
 refine Lw.part 9 rfl ?_ ?_
 ·intro g1
  refine Lw.pass (dj := 9) rfl rfl rfl rfl <| Lw.pass (dj := 9) rfl rfl rfl rfl <| Lw.val (Ex.pickT rfl rfl) rfl <| Lw.val (Ex.move rfl) rfl <| Lw.pass (dj := 13) rfl rfl rfl rfl <| Lw.pass (dj := 13) rfl rfl rfl rfl <| Lw.val (Ex.pickT rfl rfl) rfl <| Lw.nil <| Pw.thenN <| Cw.out <| Cw.condT rfl <| Cw.seq <| Cw.region <| Lw.val (Ex.assign rfl) rfl <| Lw.val (Ex.assign rfl) rfl <| Lw.nil <| Pw.thenN <| Cw.out <| Cw.ret <| Pw.thenR <| Pw.ret2 rfl rfl rfl ?_
  rw [show poolE t wide = 1 by simp [poolE, show pshA t wide = true by simp_all [pshA]]]
  exact ⟨hB, gotI_no (by decide)⟩
 intro g1
 refine Lw.take (dj := 9) rfl rfl <| Lw.val (Ex.move rfl) rfl <| Lw.take (dj := 9) rfl rfl <| Lw.val (Ex.lss rfl rfl) rfl <| Lw.val (Ex.pickF rfl rfl) rfl <| Lw.val (Ex.move rfl) rfl ?_
 refine Lw.part 13 rfl ?_ ?_
 ·intro g2
  refine Lw.pass (dj := 13) rfl rfl rfl rfl <| Lw.pass (dj := 13) rfl rfl rfl rfl <| Lw.val (Ex.pickT rfl rfl) rfl <| Lw.nil <| Pw.thenN <| Cw.out <| Cw.condT rfl <| Cw.seq <| Cw.region <| Lw.val (Ex.assign rfl) rfl <| Lw.val (Ex.assign rfl) rfl <| Lw.nil <| Pw.thenN <| Cw.out <| Cw.ret <| Pw.thenR <| Pw.ret2 rfl rfl rfl ?_
  rw [show poolE t wide = 1 by simp [poolE, show pshA t wide = true by simp_all [pshA]]]
  exact ⟨hB, gotI_no (by decide)⟩
 intro g2
 refine Lw.take (dj := 13) rfl rfl <| Lw.val (Ex.move rfl) rfl <| Lw.take (dj := 13) rfl rfl <| Lw.val (Ex.gtr rfl rfl) rfl <| Lw.val (Ex.pickF rfl rfl) rfl <| Lw.nil <| Pw.thenN <| Cw.out <| Cw.cond rfl ?_ ?_
 ·intro g3
  refine Cw.seq <| Cw.region <| Lw.val (Ex.assign rfl) rfl <| Lw.val (Ex.assign rfl) rfl <| Lw.nil <| Pw.thenN <| Cw.out <| Cw.ret <| Pw.thenR <| Pw.ret2 rfl rfl rfl ?_
  rw [show poolE t wide = 1 by simp [poolE, show pshA t wide = true by simp_all [pshA]]]
  exact ⟨hB, gotI_no (by decide)⟩
 intro g3
 have gA : pshA t wide = false := by simp_all [pshA]
 have gT : Shapes.ok t = true := by simpa using g1
 have w1 : 1 ≤ wide := by simpa using g2
 have w2 : wide ≤ 64 := by simpa using g3
 have hT := (Shapes.ok_iff t).1 gT
 clear g1 g2 g3
 refine Cw.skip <| Pw.thenN <| Cw.out <| Cw.seq <| Cw.seq <| Cw.quiet mixed (by kernel_rfl) <| Qw.val (fun w1 hq => Ex.move rfl) rfl <| Qw.val (fun w1 hq => Ex.lenS st_26 rfl (Sl.bs (by assumption) hq)) rfl ?_
 refine Qw.val (fun w1 hq => Ex.neq rfl rfl) rfl <| Qw.val (fun w1 hq => Ex.move rfl) rfl ?_
 refine Qw.part 20 rfl ?_ ?_
 ·intro g
  refine Qw.pass (dj := 20) rfl rfl rfl rfl <| Qw.pass (dj := 20) rfl rfl rfl rfl <| Qw.pass (dj := 20) rfl rfl rfl rfl <| Qw.pass (dj := 20) rfl rfl rfl rfl <| Qw.pass (dj := 20) rfl rfl rfl rfl <| Qw.pass (dj := 20) rfl rfl rfl rfl <| Qw.pass (dj := 20) rfl rfl rfl rfl <| Qw.pass (dj := 20) rfl rfl rfl rfl <| Qw.pass (dj := 20) rfl rfl rfl rfl <| Qw.val (fun w1 hq => Ex.pickT rfl rfl) rfl ?_
  refine Qw.nil (fun wq hq => ?_)
  refine Pw.thenN <| Cw.out <| Cw.condT rfl <| Cw.seq <| Cw.region <| Lw.val (Ex.assign rfl) rfl <| Lw.val (Ex.assign rfl) rfl <| Lw.nil <| Pw.thenN <| Cw.out <| Cw.ret <| Pw.thenR <| Pw.ret2 rfl rfl rfl ?_
  rw [show poolE t wide = 10 by rw [poolE, gA, pshB, decide_eq_false (show ¬ t.length = 3 from fun h => by simp [h] at g)]; rfl]
  exact ⟨bt hB hq, gotI_no (by decide)⟩
 intro g4
 have lt : t.length = 3 := by have := g4; simp at this; omega
 have t0 := good_at hT.2.1 (k := 0) (by omega)
 have t1 := good_at hT.2.1 (k := 1) (by omega)
 have t2 := good_at hT.2.1 (k := 2) (by omega)
 refine Qw.take (dj := 20) rfl rfl <| Qw.val (fun w1 hq => Ex.move rfl) rfl <| Qw.take (dj := 20) rfl rfl <| Qw.val (fun w1 hq => Ex.idxT st_26 rfl rfl (Sl.bs (by assumption) hq) 1 rfl (by omega)) rfl ?_
 refine Qw.take (dj := 20) rfl rfl <| Qw.val (fun w1 hq => Ex.ldT (ag_3 _) rfl (Sl.bs (by assumption) hq) (by omega)) rfl ?_
 refine Qw.take (dj := 20) rfl rfl <| Qw.val (fun w1 hq => Ex.move rfl) rfl <| Qw.take (dj := 20) rfl rfl <| Qw.val (fun w1 hq => Ex.idxT st_26 rfl rfl (Sl.bs (by assumption) hq) 2 rfl (by omega)) rfl ?_
 refine Qw.take (dj := 20) rfl rfl <| Qw.val (fun w1 hq => Ex.ldT (ag_3 _) rfl (Sl.bs (by assumption) hq) (by omega)) rfl ?_
 refine Qw.take (dj := 20) rfl rfl <| Qw.val (fun w1 hq => Ex.min2 rfl rfl) rfl <| Qw.take (dj := 20) rfl rfl <| Qw.val (fun w1 hq => Ex.move rfl) rfl <| Qw.take (dj := 20) rfl rfl <| Qw.val (fun w1 hq => Ex.lss rfl rfl) rfl <| Qw.val (fun w1 hq => Ex.pickF rfl rfl) rfl ?_
 refine Qw.nil (fun wq hq => ?_)
 refine Pw.thenN <| Cw.out <| Cw.cond rfl ?_ ?_
 ·intro g
  have g := of_decide_eq_true g
  refine Cw.seq <| Cw.region <| Lw.val (Ex.assign rfl) rfl <| Lw.val (Ex.assign rfl) rfl <| Lw.nil <| Pw.thenN <| Cw.out <| Cw.ret <| Pw.thenR <| Pw.ret2 rfl rfl rfl ?_
  rw [show poolE t wide = 10 by
   have : pshB t wide = false := by
    unfold pshB
    by_cases h1 : wide ≤ t.getD 1 default
    ·have h2 : ¬ wide ≤ t.getD 2 default := fun h2 => by split at g <;> omega
     simp only [decide_eq_false h2, Bool.and_false]
    ·simp only [decide_eq_false h1, Bool.and_false, Bool.false_and]
   simp [poolE, gA, this]]
  exact ⟨bt hB hq, gotI_no (by decide)⟩
 intro g
 have g := of_decide_eq_false g
 have gB : pshB t wide = true := by
  have h1 : wide ≤ t.getD 1 default := by split at g <;> omega
  have h2 : wide ≤ t.getD 2 default := by split at g <;> omega
  rw [pshB, decide_eq_true lt, decide_eq_true h1, decide_eq_true h2]; rfl
 replace hB := hB.bs hq
 replace h_u := h_u.bs hq
 clear hq g4 g
 refine Cw.skip <| Pw.thenN <| Cw.out <| Cw.seq <| Cw.tail 15 mixed (by kernel_rfl) <| Qw.val (fun w1 hq => Ex.move rfl) rfl <| Qw.val (fun w1 hq => Ex.idxT st_26 rfl rfl (Sl.bs (by assumption) hq) 0 rfl (by omega)) rfl ?_
 refine Qw.val (fun w1 hq => Ex.ldT (ag_3 _) rfl (Sl.bs (by assumption) hq) (by omega)) rfl ?_
 refine Qw.val (fun w1 hq => Ex.move rfl) rfl <| Qw.val (fun w1 hq => Ex.idxT st_26 rfl rfl (Sl.bs (by assumption) hq) 1 rfl (by omega)) rfl ?_
 refine Qw.val (fun w1 hq => Ex.ldT (ag_3 _) rfl (Sl.bs (by assumption) hq) (by omega)) rfl ?_
 refine Qw.val (fun w1 hq => Ex.move rfl) rfl <| Qw.val (fun w1 hq => Ex.move rfl) rfl <| Qw.callF rfl rfl (fun w1 hq => (slides_c (t.getD 1 default) wide wide w1 (by omega) (by omega) (by omega)).q hq) <| Qw.val (fun w1 hq => Ex.move rfl) rfl <| Qw.val (fun w1 hq => Ex.idxT st_26 rfl rfl (Sl.bs (by assumption) hq) 2 rfl (by omega)) rfl ?_
 refine Qw.val (fun w1 hq => Ex.ldT (ag_3 _) rfl (Sl.bs (by assumption) hq) (by omega)) rfl ?_
 refine Qw.val (fun w1 hq => Ex.move rfl) rfl <| Qw.val (fun w1 hq => Ex.move rfl) rfl <| Qw.callF rfl rfl (fun w1 hq => (slides_c (t.getD 2 default) wide wide w1 (by omega) (by omega) (by omega)).q hq) ?_
 refine Qw.done (fun w3 hq => ?_)
 replace hB := hB.bs hq
 replace h_u := h_u.bs hq
 clear hq
 have zw := below_size hB
 refine Lw.valW (Xw.lit (vs := (pshS t wide).map (Value.int .i64)) st_26 it_3 rfl rfl rfl rfl rfl) rfl ?_
 rintro x w ⟨ho, -, hn, -⟩
 have ho := own_mono ho zw
 replace hB := hB.bs hn
 replace h_u := h_u.bs hn
 clear hn
 refine Lw.val (Ex.assign rfl) rfl <| Lw.val (Ex.assign rfl) rfl <| Lw.nil <| Pw.thenN <| Cw.out <| Cw.ret <| Pw.ret2 rfl rfl rfl ?_
 rw [show poolE t wide = 0 by simp [poolE, gA, gB]]
 exact ⟨hB, x, _, rfl, ho, fun h => absurd rfl h, fun _ => rfl⟩
abbrev picT : TypeId := 133
abbrev spotT : TypeId := 138
theorem bt_pic (y : Value) (a b : Int) (hy : y.cells = [y].toArray) : Tryz.prog.built picT [(0, y), (1, .int .i64 a), (2, .int .i64 b)] = some [y, .int .i64 a, .int .i64 b].toArray := by
 have h1 : Tryz.prog.info? 133 = some Tryz.t133 := rfl
 have h2 : Tryz.prog.info? 27 = some Tryz.t27 := rfl
 have h3 : Tryz.prog.info? 3 = some Tryz.t3 := rfl
 simp [Program.built, h1, Tryz.underlying133, h2, h3, Instr.fill, hy]
 rfl
theorem bt_spot (a b c : Int) : Tryz.prog.built spotT [(0, .int .i64 a), (1, .int .i64 b), (2, .int .i64 c)] = some [Value.int .i64 a, .int .i64 b, .int .i64 c].toArray := by
 have h1 : Tryz.prog.info? 138 = some Tryz.t138 := rfl
 have h3 : Tryz.prog.info? 3 = some Tryz.t3 := rfl
 simp [Program.built, h1, Tryz.underlying138, h3, Instr.fill]
 rfl
def picV (a : T4) : Value := .agg #[a.y, .int .i64 (a.s.getD 1 default), .int .i64 (a.s.getD 2 default)]
theorem own_apart {w w' : World} {base A : Nat} {e T : TypeId} {sz n : Nat} {v : Value} {xs cs : List Value} (h : w.ownsRow base e sz v n xs) (k : Blk w A T cs) (hne : e ≠ T) (g : w.grownBy w' (some A)) : w'.ownsRow base e sz v n xs :=
 own_heap h fun b hb => g.block b (own_block h b hb).2 fun e2 => by
  cases e2
  rcases h.2 with ⟨rfl, _⟩ | ⟨g', cap, cur, rfl, _, hg, _⟩
  ·cases hb
  ·simp only [Value.ownBlock, Option.some.injEq] at hb
   subst hb
   unfold Blk at k
   rw [k] at hg
   have := Option.some.inj hg
   injection this with _ h2 _
   exact hne h2.symm
/-- What comes up ahead of the loops, in whatever order. -/
def winPh (B : Nat) (x : Value) (M : Int) (t : T4) (f : Value) : Nat → Value → World → Prop
 | 0, v, _ => v = x
 | 1, v, _ => v = .int .i64 M
 | 2, v, w => w.ownsRow B 21 1 v 0 []
 | 3, v, _ => v = t.v
 | 4, v, _ => v = picV t
 | 5, v, _ => v = f
 | _, _, _ => True
theorem winPh_bs {B : Nat} {x : Value} {M : Int} {t : T4} {f v : Value} {w w' : World} {i : Nat} (h : winPh B x M t f i v w) (g : Below w.heap.size w w') : winPh B x M t f i v w' := by
 match i, h with
 | 0, h => exact h
 | 1, h => exact h
 | 2, h => exact own_bs h g
 | 3, h => exact h
 | 4, h => exact h
 | 5, h => exact h
 | _ + 6, _ => trivial
theorem winPh_by {B : Nat} {x : Value} {M : Int} {t : T4} {f v : Value} {w w' : World} {i A : Nat} {T : TypeId} {cs : List Value} (h : winPh B x M t f i v w) (hb : Blk w A T cs) (hT : T ∈ [27, 131]) (g : w.grownBy w' (some A)) : winPh B x M t f i v w' := by
 match i, h with
 | 0, h => exact h
 | 1, h => exact h
 | 2, h =>
  have hne : 21 ≠ T := fun e => by subst e; revert hT; decide
  exact own_apart h hb hne g
 | 3, h => exact h
 | 4, h => exact h
 | 5, h => exact h
 | _ + 6, _ => trivial
theorem pof_c (a : T4) (W : World) (h_a : a.at W) (hl : 3 ≤ a.s.length) : Fnc Tryz.prog 109 [a.v] W (fun r w' => r = picV a ∧ Below W.heap.size W w') := by
 have hB := Below.refl W.heap.size W
 refine Fnc.enter (n := 14) Tryz.func109 (by kernel_rfl) rfl rfl rfl <| Cw.seq <| Cw.region <| Lw.boxV (cs := [a.x, a.y]) rfl rfl rfl ?_
 rintro A_a w eA_a b_a hn -
 replace hB := hB.bs hn
 replace h_a := h_a.bs hn
 clear hn
 have z0 := below_size hB
 refine Lw.newA it_133 rfl ?_
 rintro A_r w eA_r b_r hn -
 replace hB := hB.bs hn
 replace h_a := h_a.bs hn
 replace b_a := b_a.bs hn
 clear hn
 refine Lw.nil <| Pw.thenN <| Cw.out <| Cw.seq ?_
 have z := below_size hB
 have zr := blk_lt b_r
 have h_1 := h_a.1
 refine Cw.tail 11 mixed (by kernel_rfl) <| Qw.val (fun w1 hq => Ex.fieldAddr (q := 0) Tryz.underlying29 rfl (sz_27 _) rfl) rfl <| Qw.val (fun w1 hq => Ex.ldB (ag_27 _) rfl (Blk.bs (by assumption) hq) rfl) rfl ?_
 refine Qw.val (fun w1 hq => Ex.fieldAddr (q := 0) Tryz.underlying29 rfl (sz_26 _) rfl) rfl <| Qw.val (fun w1 hq => Ex.ldB (ag_26 _) rfl (Blk.bs (by assumption) hq) rfl) rfl ?_
 refine Qw.val (fun w1 hq => Ex.idxT st_26 rfl rfl (Sl.bs (by assumption) hq) 1 rfl (by omega)) rfl ?_
 refine Qw.val (fun w1 hq => Ex.ldT (ag_3 _) rfl (Sl.bs (by assumption) hq) (by omega)) rfl ?_
 refine Qw.val (fun w1 hq => Ex.fieldAddr (q := 0) Tryz.underlying29 rfl (sz_26 _) rfl) rfl <| Qw.val (fun w1 hq => Ex.ldB (ag_26 _) rfl (Blk.bs (by assumption) hq) rfl) rfl ?_
 refine Qw.val (fun w1 hq => Ex.idxT st_26 rfl rfl (Sl.bs (by assumption) hq) 2 rfl (by omega)) rfl ?_
 refine Qw.val (fun w1 hq => Ex.ldT (ag_3 _) rfl (Sl.bs (by assumption) hq) (by omega)) rfl ?_
 refine Qw.val (fun w1 hq => Ex.build (vs := [(0, a.y), (1, .int .i64 (a.s.getD 1 default)), (2, .int .i64 (a.s.getD 2 default))]) (cs := [a.y, .int .i64 (a.s.getD 1 default), .int .i64 (a.s.getD 2 default)]) rfl (bt_pic _ _ _ h_a.2.one)) rfl ?_
 refine Qw.done (fun w2 hq => ?_)
 replace hB := hB.bs hq
 replace h_a := h_a.bs hq
 replace b_a := b_a.bs hq
 replace b_r := b_r.bs hq
 refine Lw.unit (Xu.stA (cs := [a.y, .int .i64 (a.s.getD 1 default), .int .i64 (a.s.getD 2 default)]) rfl rfl rfl rfl (by simp [h_a.2.one']; exact ⟨rfl, rfl⟩) b_r rfl) ?_
 rintro w3 ⟨b_r, hg, -⟩
 have hB := hB.grown hg (below_size hB) (by rintro _ ⟨⟩; omega)
 refine Lw.nil <| Pw.thenN <| Cw.out <| Cw.ret <| Pw.retC rfl rfl (by assumption) (Tryz.underlying133) rfl rfl rfl ?_
 exact ⟨rfl, hB⟩
theorem wat_c (a : T4) (c y x : Int) (W : World) (h_y : SlT i32 W a.y a.l) (h1 : 0 ≤ a.s.getD 1 default ∧ a.s.getD 1 default ≤ 64) (h2 : 0 ≤ a.s.getD 2 default ∧ a.s.getD 2 default ≤ 64) (hc : 0 ≤ c ∧ c ≤ 4096)
  (hy : -1000000 ≤ y ∧ y ≤ 1000000) (hx : -1000000 ≤ x ∧ x ≤ 1000000) (hl : (c + 1) * (a.s.getD 1 default * a.s.getD 2 default) ≤ a.l.length) :
  Fnc Tryz.prog 110 [picV a, .int .i64 c, .int .i64 y, .int .i64 x] W (fun r w' => r = i32 (pic a.l (a.s.getD 1 default) (a.s.getD 2 default) c y x) ∧ Below W.heap.size W w') := by
 have hB := Below.refl W.heap.size W
 obtain ⟨H, hH⟩ : ∃ H, H = a.s.getD 1 default := ⟨_, rfl⟩
 obtain ⟨V, hV⟩ : ∃ V, V = a.s.getD 2 default := ⟨_, rfl⟩
 unfold picV
 rw [← hH] at h1 hl ⊢
 rw [← hV] at h2 hl ⊢
 refine Fnc.enter (n := 42) Tryz.func110 (by kernel_rfl) rfl rfl rfl <| Cw.seq <| Cw.region <| Lw.boxV (cs := [a.y, .int .i64 H, .int .i64 V]) rfl rfl rfl ?_
 rintro A_p w eA_p b_p hn -
 replace hB := hB.bs hn
 replace h_y := h_y.bs hn
 clear hn
 refine Lw.val (Ex.assign (show _ = some (i32 (0#32)) from rfl)) rfl <| Lw.nil <| Pw.thenN <| Cw.out <| Cw.seq <| Cw.seq <| Cw.region <| Lw.val (Ex.move rfl) rfl <| Lw.val (Ex.lss rfl rfl) rfl <| Lw.val (Ex.move rfl) rfl ?_
 refine Lw.part 11 rfl ?_ ?_
 ·intro g
  have g := of_decide_eq_true g
  refine Lw.pass (dj := 11) rfl rfl rfl rfl <| Lw.pass (dj := 11) rfl rfl rfl rfl <| Lw.pass (dj := 11) rfl rfl rfl rfl <| Lw.pass (dj := 11) rfl rfl rfl rfl <| Lw.val (Ex.pickT rfl rfl) rfl <| Lw.val (Ex.move rfl) rfl <| Lw.pass (dj := 17) rfl rfl rfl rfl <| Lw.pass (dj := 17) rfl rfl rfl rfl <| Lw.val (Ex.pickT rfl rfl) rfl <| Lw.val (Ex.move rfl) rfl <| Lw.pass (dj := 21) rfl rfl rfl rfl <| Lw.pass (dj := 21) rfl rfl rfl rfl <| Lw.pass (dj := 21) rfl rfl rfl rfl <| Lw.pass (dj := 21) rfl rfl rfl rfl <| Lw.val (Ex.pickT rfl rfl) rfl <| Lw.nil <| Pw.thenN <| Cw.out <| Cw.condT rfl <| Cw.seq <| Cw.region <| Lw.val (Ex.assign (show _ = some (i32 (0#32)) from rfl)) rfl <| Lw.nil <| Pw.thenN <| Cw.out <| Cw.ret <| Pw.thenR <| Pw.ret1 rfl rfl ?_
  exact ⟨congrArg i32 (by rw [pic, if_pos (by omega)]), hB⟩
 intro g1
 have g1 := of_decide_eq_false g1
 refine Lw.take (dj := 11) rfl rfl <| Lw.val (Ex.move rfl) rfl <| Lw.take (dj := 11) rfl rfl <| Lw.val (Ex.fieldAddr (q := 0) Tryz.underlying133 rfl (sz_3 _) rfl) rfl <| Lw.take (dj := 11) rfl rfl <| Lw.val (Ex.ldB (ag_3 _) rfl (by assumption) rfl) rfl ?_
 refine Lw.take (dj := 11) rfl rfl <| Lw.val (Ex.geq rfl rfl) rfl <| Lw.val (Ex.pickF rfl rfl) rfl <| Lw.val (Ex.move rfl) rfl ?_
 refine Lw.part 17 rfl ?_ ?_
 ·intro g
  have g := of_decide_eq_true g
  refine Lw.pass (dj := 17) rfl rfl rfl rfl <| Lw.pass (dj := 17) rfl rfl rfl rfl <| Lw.val (Ex.pickT rfl rfl) rfl <| Lw.val (Ex.move rfl) rfl <| Lw.pass (dj := 21) rfl rfl rfl rfl <| Lw.pass (dj := 21) rfl rfl rfl rfl <| Lw.pass (dj := 21) rfl rfl rfl rfl <| Lw.pass (dj := 21) rfl rfl rfl rfl <| Lw.val (Ex.pickT rfl rfl) rfl <| Lw.nil <| Pw.thenN <| Cw.out <| Cw.condT rfl <| Cw.seq <| Cw.region <| Lw.val (Ex.assign (show _ = some (i32 (0#32)) from rfl)) rfl <| Lw.nil <| Pw.thenN <| Cw.out <| Cw.ret <| Pw.thenR <| Pw.ret1 rfl rfl ?_
  exact ⟨congrArg i32 (by rw [pic, if_pos (by omega)]), hB⟩
 intro g2
 have g2 := of_decide_eq_false g2
 refine Lw.take (dj := 17) rfl rfl <| Lw.val (Ex.move rfl) rfl <| Lw.take (dj := 17) rfl rfl <| Lw.val (Ex.lss rfl rfl) rfl <| Lw.val (Ex.pickF rfl rfl) rfl <| Lw.val (Ex.move rfl) rfl ?_
 refine Lw.part 21 rfl ?_ ?_
 ·intro g
  have g := of_decide_eq_true g
  refine Lw.pass (dj := 21) rfl rfl rfl rfl <| Lw.pass (dj := 21) rfl rfl rfl rfl <| Lw.pass (dj := 21) rfl rfl rfl rfl <| Lw.pass (dj := 21) rfl rfl rfl rfl <| Lw.val (Ex.pickT rfl rfl) rfl <| Lw.nil <| Pw.thenN <| Cw.out <| Cw.condT rfl <| Cw.seq <| Cw.region <| Lw.val (Ex.assign (show _ = some (i32 (0#32)) from rfl)) rfl <| Lw.nil <| Pw.thenN <| Cw.out <| Cw.ret <| Pw.thenR <| Pw.ret1 rfl rfl ?_
  exact ⟨congrArg i32 (by rw [pic, if_pos (by omega)]), hB⟩
 intro g3
 have g3 := of_decide_eq_false g3
 refine Lw.take (dj := 21) rfl rfl <| Lw.val (Ex.move rfl) rfl <| Lw.take (dj := 21) rfl rfl <| Lw.val (Ex.fieldAddr (q := 0) Tryz.underlying133 rfl (sz_3 _) rfl) rfl <| Lw.take (dj := 21) rfl rfl <| Lw.val (Ex.ldB (ag_3 _) rfl (by assumption) rfl) rfl ?_
 refine Lw.take (dj := 21) rfl rfl <| Lw.val (Ex.geq rfl rfl) rfl <| Lw.val (Ex.pickF rfl rfl) rfl <| Lw.nil <| Pw.thenN <| Cw.out <| Cw.cond rfl ?_ ?_
 ·intro g
  have g := of_decide_eq_true g
  refine Cw.seq <| Cw.region <| Lw.val (Ex.assign (show _ = some (i32 (0#32)) from rfl)) rfl <| Lw.nil <| Pw.thenN <| Cw.out <| Cw.ret <| Pw.thenR <| Pw.ret1 rfl rfl ?_
  exact ⟨congrArg i32 (by rw [pic, if_pos (by omega)]), hB⟩
 intro g4
 have g4 := of_decide_eq_false g4
 have e1 : 0 ≤ c * H ∧ c * H ≤ 4096 * 64 := ⟨Int.mul_nonneg hc.1 h1.1, Int.mul_le_mul hc.2 h1.2 h1.1 (by decide)⟩
 have e2 : 0 ≤ (c * H + y) * V := Int.mul_nonneg (by omega) h2.1
 have e3 : (c * H + y + 1) * V ≤ (c * H + H) * V := Int.mul_le_mul_of_nonneg_right (by omega) h2.1
 have e4 : (c + 1) * (H * V) = (c * H + H) * V := by rw [← Int.mul_assoc, Int.add_mul c 1 H, Int.one_mul]
 have e5 : (c * H + y + 1) * V = (c * H + y) * V + V := by rw [Int.add_mul (c * H + y) 1 V, Int.one_mul]
 have ll := h_y.le
 obtain ⟨k, hk⟩ : ∃ k : Nat, (c * H + y) * V + x = (k : Int) := ⟨_, (Int.toNat_of_nonneg (by omega)).symm⟩
 have hkl : k < a.l.length := by omega
 refine Cw.skip <| Pw.thenN <| Cw.out <| Cw.seq <| Cw.region <| Lw.val (Ex.fieldAddr (q := 0) Tryz.underlying133 rfl (sz_27 _) rfl) rfl <| Lw.val (Ex.ldB (ag_27 _) rfl (by assumption) rfl) rfl ?_
 refine Lw.val (Ex.move rfl) rfl <| Lw.val (Ex.fieldAddr (q := 0) Tryz.underlying133 rfl (sz_3 _) rfl) rfl <| Lw.val (Ex.ldB (ag_3 _) rfl (by assumption) rfl) rfl ?_
 refine Lw.val (Ex.mulI rfl rfl (by omega)) rfl <| Lw.val (Ex.move rfl) rfl <| Lw.val (Ex.addI rfl rfl (by omega)) rfl <| Lw.val (Ex.fieldAddr (q := 0) Tryz.underlying133 rfl (sz_3 _) rfl) rfl <| Lw.val (Ex.ldB (ag_3 _) rfl (by assumption) rfl) rfl ?_
 refine Lw.val (Ex.mulI rfl rfl (by omega)) rfl <| Lw.val (Ex.move rfl) rfl <| Lw.val (Ex.addI rfl rfl (by omega)) rfl <| Lw.val (Ex.idxT st_27 rfl rfl h_y k hk hkl) rfl <| Lw.val (Ex.ldT (ag_21 _) rfl (by assumption) (by omega)) rfl ?_
 refine Lw.val (Ex.assign rfl) rfl <| Lw.nil <| Pw.thenN <| Cw.out <| Cw.ret <| Pw.ret1 rfl rfl ?_
 exact ⟨congrArg i32 (by rw [pic, if_neg (by omega), hk]; rfl), hB⟩

theorem spots_c (u : Value) (s : List Int) (W : World) (h_u : SlT (Value.int .i64) W u s) :
  Fnc Tryz.prog 111 [u] W (fun r w' => ∃ A, r = .func (.func 127) #[] #[.pointer (some ⟨A, 0, none⟩)] ∧ Blk w' A 26 [u] ∧ A = W.heap.size ∧ Below W.heap.size W w') := by
 have hB := Below.refl W.heap.size W
 have hu1 := h_u.one
 refine Fnc.enter (n := 4) Tryz.func111 (by kernel_rfl) rfl rfl rfl <| Cw.seq <| Cw.region <| Lw.boxV (cs := [u]) rfl hu1 rfl ?_
 rintro A w eA b_A hn -
 replace hB := hB.bs hn
 clear hn
 refine Lw.val (Ex.assign rfl) rfl <| Lw.nil <| Pw.thenN <| Cw.out <| Cw.seq <| Cw.region <| Lw.val (Ex.mkFn (vs := []) (us := [.pointer (some ⟨A, 0, none⟩)]) rfl rfl) rfl <| Lw.val (Ex.assign rfl) rfl <| Lw.nil <| Pw.thenN <| Cw.out <| Cw.ret <| Pw.ret1 rfl rfl ?_
 exact ⟨A, rfl, b_A, eA, hB⟩

theorem spots_sq (A : Nat) (u : Value) (s : List Int) (w : World) (b_A : Blk w A 26 [u]) (h_u : SlT (Value.int .i64) w u s) (hok : Shapes.ok s = true) (hl : s.length = 3) :
  Sq Tryz.prog 127 [] [.pointer (some ⟨A, 0, none⟩)] (fun i : Nat => [spotV s i]) (fun b => b = A ∨ u.ownBlock = some b) none (List.range (Shapes.size s).toNat) w := by
 intro lp J W hW hJ hY h0
 show Fnc Tryz.prog 127 [.func (.yield lp) #[] #[], .pointer (some ⟨A, 0, none⟩)] W (fun _ A' => J (List.range (Shapes.size s).toNat) A')
 have b_A := b_A.bs hW
 have h_u := h_u.bs hW
 clear hW
 have sz := Shapes.size_le s
 have hS := (Shapes.ok_iff s).1 hok
 have s1 := good_at hS.2.1 (k := 1) (by omega)
 have s2 := good_at hS.2.1 (k := 2) (by omega)
 have q1 : 1 * 1 ≤ s.getD 1 default * s.getD 2 default := Int.mul_le_mul s1.1 s2.1 (by decide) (by omega)
 have q2 : s.getD 1 default * s.getD 2 default ≤ 64 * 64 := Int.mul_le_mul s1.2 s2.2 (by omega) (by decide)
 refine Fnc.enterG (n := 37) Tryz.func127 (by kernel_rfl) rfl rfl rfl <| Cg.seq <| Cg.region (by kernel_rfl) <| Lw.val (Ex.ldB (ag_26 _) rfl (by assumption) rfl) rfl ?_
 refine Lw.callF rfl rfl (size_c u s W h_u) ?_
 rintro _ w1 ⟨rfl, hn⟩
 have h0 := hJ _ _ _ h0 ⟨none, below_grown hn none, .inl rfl⟩
 have b_A := b_A.bs hn
 have h_u := h_u.bs hn
 refine Lw.know 5 (v' := .int .i64 (((Shapes.size s).toNat : Nat) : Int)) rfl (congrArg (Value.int .i64) (by omega)) <| Lw.val (Ex.move rfl) rfl ?_
 refine Lw.nil (Pg.low ?_)
 refine Pg.thenN (Cg.out ?_)
 refine Cg.block ?_
 refine Cg.loop (S := Nat) (fun i => [(0, .func (.yield lp) #[] #[]), (1, .pointer (some ⟨A, 0, none⟩)), (5, .int .i64 (((Shapes.size s).toNat : Nat) : Int)), (6, .int .i64 (i : Int))]) (fun i w' => i ≤ (Shapes.size s).toNat ∧ J (List.range i) w' ∧ Blk w' A 26 [u] ∧ SlT (Value.int .i64) w' u s) (fun i => (Shapes.size s).toNat - i) (0) ⟨rfl, rfl, rfl, rfl, trivial⟩ ?_ ?_
 ·exact ⟨Nat.zero_le _, h0, b_A, h_u⟩
 clear h0 b_A h_u hn
 rintro i w ⟨hi, h0, b_A, h_u⟩
 refine Cg.seq <| Cg.region (by kernel_rfl) <| Lw.val (Ex.lss rfl rfl) rfl ?_
 refine Lw.nil (Pg.low ?_)
 refine Pg.thenN (Cg.out ?_)
 refine Cg.seq ?_
 refine Cg.cond rfl ?_ ?_
 ·intro h
  have hi' : i < (Shapes.size s).toNat := by have := of_decide_eq_true h; omega
  have d1 := Int.ediv_nonneg (show 0 ≤ (i : Int) by omega) (show 0 ≤ s.getD 2 default by omega)
  refine Cg.skip ?_
  refine Pg.thenN (Cg.out ?_)
  refine Cg.seq <| Cg.block <| Cg.seq <| Cg.region (by kernel_rfl) <| Lw.val (Ex.move rfl) rfl <| Lw.val (Ex.assign rfl) rfl ?_
  refine Lw.nil (Pg.low ?_)
  refine Pg.thenN (Cg.out ?_)
  refine Cg.seq <| Cg.tailY 25 mixed (by kernel_rfl) (by kernel_rfl) <| Qw.val (fun w1 hq => Ex.move rfl) rfl <| Qw.val (fun w1 hq => Ex.move rfl) rfl <| Qw.val (fun w1 hq => Ex.ldB (ag_26 _) rfl (Blk.bs (by assumption) hq) rfl) rfl ?_
  refine Qw.val (fun w1 hq => Ex.idxT st_26 rfl rfl (Sl.bs (by assumption) hq) 1 rfl (by omega)) rfl ?_
  refine Qw.val (fun w1 hq => Ex.ldT (ag_3 _) rfl (Sl.bs (by assumption) hq) (by omega)) rfl ?_
  refine Qw.val (fun w1 hq => Ex.ldB (ag_26 _) rfl (Blk.bs (by assumption) hq) rfl) rfl ?_
  refine Qw.val (fun w1 hq => Ex.idxT st_26 rfl rfl (Sl.bs (by assumption) hq) 2 rfl (by omega)) rfl ?_
  refine Qw.val (fun w1 hq => Ex.ldT (ag_3 _) rfl (Sl.bs (by assumption) hq) (by omega)) rfl ?_
  refine Qw.val (fun w1 hq => Ex.mulI rfl rfl (by omega)) rfl <| Qw.val (fun w1 hq => Ex.quoI rfl rfl (by omega) (by omega)) rfl <| Qw.val (fun w1 hq => Ex.move rfl) rfl <| Qw.val (fun w1 hq => Ex.ldB (ag_26 _) rfl (Blk.bs (by assumption) hq) rfl) rfl ?_
  refine Qw.val (fun w1 hq => Ex.idxT st_26 rfl rfl (Sl.bs (by assumption) hq) 2 rfl (by omega)) rfl ?_
  refine Qw.val (fun w1 hq => Ex.ldT (ag_3 _) rfl (Sl.bs (by assumption) hq) (by omega)) rfl ?_
  refine Qw.val (fun w1 hq => Ex.quoI rfl rfl (by omega) (by omega)) rfl <| Qw.val (fun w1 hq => Ex.ldB (ag_26 _) rfl (Blk.bs (by assumption) hq) rfl) rfl ?_
  refine Qw.val (fun w1 hq => Ex.idxT st_26 rfl rfl (Sl.bs (by assumption) hq) 1 rfl (by omega)) rfl ?_
  refine Qw.val (fun w1 hq => Ex.ldT (ag_3 _) rfl (Sl.bs (by assumption) hq) (by omega)) rfl ?_
  refine Qw.val (fun w1 hq => Ex.remI rfl rfl (by omega) (by omega)) rfl <| Qw.val (fun w1 hq => Ex.move rfl) rfl <| Qw.val (fun w1 hq => Ex.ldB (ag_26 _) rfl (Blk.bs (by assumption) hq) rfl) rfl ?_
  refine Qw.val (fun w1 hq => Ex.idxT st_26 rfl rfl (Sl.bs (by assumption) hq) 2 rfl (by omega)) rfl ?_
  refine Qw.val (fun w1 hq => Ex.ldT (ag_3 _) rfl (Sl.bs (by assumption) hq) (by omega)) rfl ?_
  refine Qw.val (fun w1 hq => Ex.remI rfl rfl (by omega) (by omega)) rfl <| Qw.val (fun w1 hq => Ex.build (vs := [(0, .int .i64 (spc s i)), (1, .int .i64 (spy s i)), (2, .int .i64 (spx s i))]) (cs := [.int .i64 (spc s i), .int .i64 (spy s i), .int .i64 (spx s i)]) rfl (bt_spot _ _ _)) rfl ?_
  refine Qw.doneY (fun w2 hq => ?_)
  have h2 := hJ _ _ _ h0 ⟨none, below_grown hq none, .inl rfl⟩
  have b_A := b_A.bs hq
  have h_u := h_u.bs hq
  have hpre := pre_range hi'
  refine Lg.yield rfl rfl rfl (hY (List.range i) i w2 h2 hpre) ?_
  rintro _ w3 ⟨rfl, h3, hB⟩
  have b_A := b_A.keep (hB.2 A (.inl rfl) (blk_lt b_A))
  have h_u : SlT (Value.int .i64) w3 u s := Sl.stay h_u fun k e hne => hB.2 k (.inr e) (Sl.blk h_u hne k e)
  refine Lg.plain 1 (by kernel_rfl) <| Lw.val (Ex.not rfl) rfl ?_
  refine Lw.nil (Pg.low (Lg.out (Lg.nil ?_)))
  refine Pg.thenN (Cg.out ?_)
  refine Cg.condB rfl false (rfl) <| Cg.skip <| Pg.blkN ?_
  refine Pg.thenN (Cg.out ?_)
  refine Cg.region (by kernel_rfl) <| Lw.val (Ex.addI rfl rfl (by omega)) rfl <| Lw.val (Ex.move rfl) rfl ?_
  refine Lw.nil (Pg.low ?_)
  exact Pg.thenN (Pg.next (i + 1) ⟨rfl, rfl, rfl, rfl, trivial⟩ (⟨hi', by rw [List.range_succ]; exact h3, b_A, h_u⟩) (by omega))
 intro h
 have hi' : i = (Shapes.size s).toNat := by have := of_decide_eq_false h; omega
 subst hi'
 refine Cg.exit <| Pg.thenE <| Pg.thenE <| Pg.blkHit <| Pg.closeE <| Pw.end0 rfl ?_
 exact h0
end Go.Proofs.YtmipoeanpnnjoaaGreat

/-! Contract: windows that slide over a picture. -/
namespace Go.Proofs.YtmipoeanpnnjoaaGreat
open Go Go.Dd Go.RowKit
set_option maxRecDepth 100000

def wofE (t w : T4) (step pad : Int) : Int := if tok t.s t.l && tok w.s w.l then wshE t.s w.s step pad else 1
def wofN (w : T4) : Nat := (Shapes.size (w.s.drop 1)).toNat
def wofF (t w : T4) (step pad : Int) (i : Nat) : BitVec 32 := winS t.l w.l t.s (wshS t.s w.s step pad) (w.s.drop 1) (wofN w) step pad i (wofN w)
def wofL (t w : T4) (step pad : Int) : List (BitVec 32) := (List.range (Shapes.size (wshS t.s w.s step pad)).toNat).map (wofF t w step pad)
theorem itr_none {A A' : World} (h : Itr none A A') : Below A.heap.size A A' := by
 obtain ⟨r, g, hr⟩ := h
 have : r = none := by rcases hr with h | h <;> exact h
 subst this
 exact ⟨g.os, g.tape, g.output, g.size, fun k hk => g.block k hk (by simp)⟩
theorem blk_own_ne {w : World} {base A : Nat} {e T : TypeId} {sz n : Nat} {v : Value} {xs cs : List Value} (h : w.ownsRow base e sz v n xs) (k : Blk w A T cs) (hne : e ≠ T) : some A ≠ v.ownBlock := fun e2 => by
 rcases h.2 with ⟨rfl, _⟩ | ⟨g', cap, cur, rfl, _, hg, _⟩
 ·cases e2
 ·simp only [Value.ownBlock, Option.some.injEq] at e2
  subst e2
  unfold Blk at k
  rw [k] at hg
  have := Option.some.inj hg
  injection this with _ h2 _
  exact hne h2.symm
/-- An answer: a tensor of one's own, or none at all. -/
def AnsW (W w : World) (r : Value) (e : Int) (s : List Int) (l : List (BitVec 32)) : Prop :=
 ∃ x y, r = .tuple #[.agg #[x, y], .int .i64 e] ∧ (e ≠ 0 → x = .slice none 0 0 ∧ y = .slice none 0 0) ∧ (e = 0 → Made1 W w x y s l)
theorem ansW_no {W w : World} {e : Int} {s : List Int} {l : List (BitVec 32)} (h : e ≠ 0) : AnsW W w (.tuple #[.agg #[.slice none 0 0, .slice none 0 0], .int .i64 e]) e s l := ⟨_, _, rfl, fun _ => ⟨rfl, rfl⟩, fun h0 => absurd h0 h⟩
theorem AnsW.gets {W w : World} {r : Value} {e : Int} {s : List Int} {l : List (BitVec 32)} (h : AnsW W w r e s l) : Gets W w r e s l := by
 obtain ⟨x, y, rfl, q1, q2⟩ := h
 by_cases he : e = 0
 ·exact ⟨⟨x, y, s, l⟩, rfl, (q2 he).at, fun h => absurd he h, fun _ => ⟨rfl, rfl, q2 he⟩⟩
 ·obtain ⟨rfl, rfl⟩ := q1 he
  exact ⟨⟨_, _, [], []⟩, rfl, nilT w, fun _ => ⟨rfl, rfl⟩, fun h => absurd h he⟩
theorem blk_ne {w : World} {a b : Nat} {T U : TypeId} {cs ds : List Value} (h : Blk w a T cs) (k : Blk w b U ds) (hne : T ≠ U) : a ≠ b := fun e => by
 subst e
 unfold Blk at h k
 rw [h] at k
 have := Option.some.inj k
 injection this with _ h2 _
 exact hne h2
/-- What goes with a picture and windows that slide over it. -/
structure WinOK (t f : T4) (step pad : Int) (S : List Int) (N : Nat) : Prop where
 lt : t.s.length = 3
 lf : f.s.length = 4
 lS : S.length = 3
 st : 1 ≤ step ∧ step ≤ 8
 pd : 0 ≤ pad ∧ pad ≤ 8
 ok : Shapes.ok S = true
 okf : Shapes.ok (f.s.drop 1) = true
 c : t.s.getD 0 default = f.s.getD 1 default
 o : S.getD 0 default = f.s.getD 0 default
 gt : Shapes.good t.s
 gf : Shapes.good f.s
 gS : Shapes.good S
 n : (N : Int) = f.s.getD 1 default * (f.s.getD 2 default * f.s.getD 3 default)
 n1 : 1 ≤ N ∧ N ≤ 4096
 fl : (f.l.length : Int) = f.s.getD 0 default * (N : Int)
 tl : (t.l.length : Int) = t.s.getD 0 default * (t.s.getD 1 default * t.s.getD 2 default)
theorem list3 {s : List Int} (h : s.length = 3) : s = [s.getD 0 default, s.getD 1 default, s.getD 2 default] := by
 match s, h with
 | [a, b, c], _ => rfl
theorem list4 {s : List Int} (h : s.length = 4) : s = [s.getD 0 default, s.getD 1 default, s.getD 2 default, s.getD 3 default] := by
 match s, h with
 | [a, b, c, d], _ => rfl
theorem prod3 {s : List Int} (h : s.length = 3) : Shapes.prod s = s.getD 0 default * (s.getD 1 default * s.getD 2 default) := by
 rw [list3 h]; simp [Shapes.prod]
theorem win_ok {t f : T4} {step pad : Int} (ht : tok t.s t.l = true) (hf : tok f.s f.l = true) (e : wshE t.s f.s step pad = 0) : WinOK t f step pad (wshS t.s f.s step pad) (wofN f) := by
 obtain ⟨t1, t2⟩ := tok_ok ht
 obtain ⟨f1, f2⟩ := tok_ok hf
 have T := (Shapes.ok_iff t.s).1 t1
 have F := (Shapes.ok_iff f.s).1 f1
 have hA : wshA t.s f.s step pad = false := by cases h : wshA t.s f.s step pad <;> simp [wshE, h] at e ⊢
 have hBk : (wshB t.s f.s && Shapes.ok (wshS t.s f.s step pad)) = true := by
  rw [wshE, hA] at e
  cases h : (wshB t.s f.s && Shapes.ok (wshS t.s f.s step pad))
  ·rw [h] at e; cases e
  ·rfl
 simp only [Bool.and_eq_true] at hBk
 obtain ⟨hb, hk⟩ := hBk
 simp only [wshB, Bool.and_eq_true, decide_eq_true_eq] at hb
 obtain ⟨⟨lt, lf⟩, hc⟩ := hb
 simp only [wshA, Bool.or_eq_false_iff, decide_eq_false_iff_not] at hA
 obtain ⟨⟨⟨⟨-, a1⟩, a2⟩, a3⟩, a4⟩ := hA
 have g1 := good_at F.2.1 (k := 1) (by omega)
 have ef := list4 lf
 have gd : Shapes.good (f.s.drop 1) := Shapes.good_drop F.2.1 1
 have ld : (f.s.drop 1).length = 3 := by rw [List.length_drop]; omega
 have pd := prod3 ld
 have d0 : (f.s.drop 1).getD 0 default = f.s.getD 1 default := by simp
 have d1 : (f.s.drop 1).getD 1 default = f.s.getD 2 default := by simp
 have d2 : (f.s.drop 1).getD 2 default = f.s.getD 3 default := by simp
 rw [d0, d1, d2] at pd
 have pf : Shapes.prod f.s = f.s.getD 0 default * Shapes.prod (f.s.drop 1) := by
  have := Shapes.prod_drop (s := f.s) (k := 0) (by omega)
  simpa using this
 have p1 := Shapes.prod_pos gd
 have g0 := good_at F.2.1 (k := 0) (by omega)
 have p2 : Shapes.prod (f.s.drop 1) ≤ 4096 := by
  have h1 : 1 * Shapes.prod (f.s.drop 1) ≤ f.s.getD 0 default * Shapes.prod (f.s.drop 1) := Int.mul_le_mul_of_nonneg_right g0.1 (by omega)
  omega
 have okd : Shapes.ok (f.s.drop 1) = true := (Shapes.ok_iff _).2 ⟨by omega, gd, p2⟩
 have hN : (wofN f : Int) = Shapes.prod (f.s.drop 1) := by
  unfold wofN
  rw [Shapes.size_ok okd, Int.toNat_of_nonneg (by omega)]
 refine ⟨lt, lf, rfl, by omega, by omega, hk, okd, hc, rfl, T.2.1, F.2.1, ((Shapes.ok_iff _).1 hk).2.1, by rw [hN, pd], by omega, ?_, ?_⟩
 ·have := Shapes.size_ok f1
  rw [hN, ← pf]; have := Shapes.size_le f.s; omega
 ·have := Shapes.size_ok t1
  rw [← prod3 lt]; have := Shapes.size_le t.s; omega
set_option maxHeartbeats 2000000 in
theorem wof0_c (t f : T4) (step pad : Int) (W : World) (h_t : t.at W) (h_f : f.at W) :
  Fnc Tryz.prog 89 [t.v, f.v, .int .i64 step, .int .i64 pad] W (fun r w' => Below W.heap.size W w' ∧ AnsW W w' r (wofE t f step pad) (wshS t.s f.s step pad) (wofL t f step pad)) := by
 have hB := Below.refl W.heap.size W
 have h_t0 := h_t
 have h_f0 := h_f
 refine Fnc.enterG (n := 106) Tryz.func89 (by kernel_rfl) rfl rfl rfl <| Cg.seq <| Cg.region (by kernel_rfl) <| Lw.boxV (cs := [t.x, t.y]) rfl rfl rfl ?_
 rintro A_t w eA_t b_t hn -
 replace hB := hB.bs hn
 replace h_t := h_t.bs hn
 replace h_f := h_f.bs hn
 clear hn
 have z_t := blk_lt b_t
 refine Lw.boxV (cs := [f.x, f.y]) rfl rfl rfl ?_
 rintro A_f w eA_f b_f hn -
 replace hB := hB.bs hn
 replace h_t := h_t.bs hn
 replace h_f := h_f.bs hn
 replace b_t := b_t.bs hn
 clear hn
 refine Lw.boxV (cs := [.int .i64 step]) rfl rfl rfl ?_
 rintro A_s w eA_s b_s hn -
 replace hB := hB.bs hn
 replace h_t := h_t.bs hn
 replace h_f := h_f.bs hn
 replace b_t := b_t.bs hn
 replace b_f := b_f.bs hn
 clear hn
 refine Lw.boxV (cs := [.int .i64 pad]) rfl rfl rfl ?_
 rintro A_p w eA_p b_p hn -
 replace hB := hB.bs hn
 replace h_t := h_t.bs hn
 replace h_f := h_f.bs hn
 replace b_t := b_t.bs hn
 replace b_f := b_f.bs hn
 replace b_s := b_s.bs hn
 clear hn
 have z0 := below_size hB
 refine Lw.newA it_29 rfl ?_
 rintro A_r w eA_r b_r hn -
 replace hB := hB.bs hn
 replace h_t := h_t.bs hn
 replace h_f := h_f.bs hn
 replace b_t := b_t.bs hn
 replace b_f := b_f.bs hn
 replace b_s := b_s.bs hn
 replace b_p := b_p.bs hn
 clear hn
 refine Lw.val (Ex.assign rfl) rfl ?_
 refine Lw.nil (Pg.low ?_)
 refine Pg.thenN (Cg.out ?_)
 refine Cg.seq <| Cg.seq <| Cg.region (by kernel_rfl) <| Lw.val (Ex.ldA (ag_29 _) (sz_29 _) rfl rfl (by assumption)) rfl ?_
 have z_r := blk_lt b_r
 refine Lw.callF rfl rfl (tcheck_c t.x t.y t.s t.l _ h_t.1 h_t.2) ?_
 rintro _ w ⟨rfl, hn⟩
 replace hB := hB.bs hn
 replace h_t := h_t.bs hn
 replace h_f := h_f.bs hn
 replace b_t := b_t.bs hn
 replace b_f := b_f.bs hn
 replace b_s := b_s.bs hn
 replace b_p := b_p.bs hn
 replace b_r := b_r.bs hn
 clear hn
 refine Lw.val (Ex.not rfl) rfl <| Lw.val (Ex.move rfl) rfl ?_
 refine Lw.part 22 rfl ?_ ?_
 ·intro g
  refine Lw.pass (dj := 22) rfl rfl rfl rfl <| Lw.pass (dj := 22) rfl rfl rfl rfl <| Lw.pass (dj := 22) rfl rfl rfl rfl <| Lw.val (Ex.pickT rfl rfl) rfl ?_
  refine Lw.nil (Pg.low ?_)
  refine Pg.thenN (Cg.out ?_)
  refine Cg.condT rfl <| Cg.seq <| Cg.region (by kernel_rfl) <| Lw.val (Ex.build (vs := []) (cs := [.slice none 0 0, .slice none 0 0]) rfl (by kernel_rfl)) rfl <| Lw.unit (Xu.stA (cs := [.slice none 0 0, .slice none 0 0]) rfl rfl rfl rfl rfl b_r rfl) ?_
  rintro w3 ⟨b_r, hg, -⟩
  have hB := hB.grown hg (below_size hB) (by rintro _ ⟨⟩; omega)
  refine Lw.val (Ex.assign rfl) rfl ?_
  refine Lw.nil (Pg.low ?_)
  refine Pg.thenN (Cg.out ?_)
  refine Cg.ret <| Pg.thenR <| Pg.close0 <| Pw.retCT rfl rfl rfl (by assumption) (Tryz.underlying29) rfl rfl rfl ?_
  rw [show wofE t f step pad = 1 by simp_all [wofE]]
  exact ⟨hB, ansW_no (by decide)⟩
 intro g1
 have k_t : tok t.s t.l = true := by simpa using g1
 refine Lw.take (dj := 22) rfl rfl <| Lw.val (Ex.ldA (ag_29 _) (sz_29 _) rfl rfl (by assumption)) rfl ?_
 refine Lw.take (dj := 22) rfl rfl <| Lw.callF rfl rfl (tcheck_c f.x f.y f.s f.l _ h_f.1 h_f.2) ?_
 rintro _ w ⟨rfl, hn⟩
 replace hB := hB.bs hn
 replace h_t := h_t.bs hn
 replace h_f := h_f.bs hn
 replace b_t := b_t.bs hn
 replace b_f := b_f.bs hn
 replace b_s := b_s.bs hn
 replace b_p := b_p.bs hn
 replace b_r := b_r.bs hn
 clear hn
 refine Lw.take (dj := 22) rfl rfl <| Lw.val (Ex.not rfl) rfl <| Lw.val (Ex.pickF rfl rfl) rfl ?_
 refine Lw.nil (Pg.low ?_)
 refine Pg.thenN (Cg.out ?_)
 refine Cg.cond rfl ?_ ?_
 ·intro g
  refine Cg.seq <| Cg.region (by kernel_rfl) <| Lw.val (Ex.build (vs := []) (cs := [.slice none 0 0, .slice none 0 0]) rfl (by kernel_rfl)) rfl <| Lw.unit (Xu.stA (cs := [.slice none 0 0, .slice none 0 0]) rfl rfl rfl rfl rfl b_r rfl) ?_
  rintro w3 ⟨b_r, hg, -⟩
  have hB := hB.grown hg (below_size hB) (by rintro _ ⟨⟩; omega)
  refine Lw.val (Ex.assign rfl) rfl ?_
  refine Lw.nil (Pg.low ?_)
  refine Pg.thenN (Cg.out ?_)
  refine Cg.ret <| Pg.thenR <| Pg.close0 <| Pw.retCT rfl rfl rfl (by assumption) (Tryz.underlying29) rfl rfl rfl ?_
  rw [show wofE t f step pad = 1 by simp_all [wofE]]
  exact ⟨hB, ansW_no (by decide)⟩
 intro g2
 have k_f : tok f.s f.l = true := by simpa using g2
 have hE : wofE t f step pad = wshE t.s f.s step pad := by rw [wofE, k_t, k_f]; rfl
 clear g1 g2
 rw [hE]
 have h_t1 := h_t.1
 have h_f1 := h_f.1
 refine Cg.skip ?_
 refine Pg.thenN (Cg.out ?_)
 refine Cg.seq <| Cg.region (by kernel_rfl) <| Lw.val (Ex.fieldAddr (q := 0) Tryz.underlying29 rfl (sz_26 _) rfl) rfl <| Lw.val (Ex.ldB (ag_26 _) rfl (by assumption) rfl) rfl ?_
 refine Lw.val (Ex.fieldAddr (q := 0) Tryz.underlying29 rfl (sz_26 _) rfl) rfl <| Lw.val (Ex.ldB (ag_26 _) rfl (by assumption) rfl) rfl ?_
 refine Lw.val (Ex.ldB (ag_3 _) rfl (by assumption) rfl) rfl ?_
 refine Lw.val (Ex.ldB (ag_3 _) rfl (by assumption) rfl) rfl ?_
 have zr0 := blk_lt b_r
 have zrB := below_size hB
 refine Lw.callF rfl rfl (wshape_c t.s f.s step pad t.x f.x _ h_t.1 h_f.1) ?_
 rintro _ w1 ⟨hn, x, m, rfl, hx, hno, hyes⟩
 replace hB := hB.bs hn
 replace h_t := h_t.bs hn
 replace h_f := h_f.bs hn
 replace b_t := b_t.bs hn
 replace b_f := b_f.bs hn
 replace b_s := b_s.bs hn
 replace b_p := b_p.bs hn
 replace b_r := b_r.bs hn
 clear hn
 refine Lw.val (Ex.move rfl) rfl <| Lw.val (Ex.extract (i := 0) rfl rfl) rfl <| Lw.val (Ex.extract (i := 1) rfl rfl) rfl <| Lw.val (Ex.assign rfl) rfl <| Lw.val (Ex.assign rfl) rfl ?_
 refine Lw.nil (Pg.low ?_)
 refine Pg.thenN (Cg.out ?_)
 refine Cg.seq <| Cg.seq <| Cg.region (by kernel_rfl) <| Lw.val (Ex.move rfl) rfl <| Lw.val (Ex.neq rfl rfl) rfl ?_
 refine Lw.nil (Pg.low ?_)
 refine Pg.thenN (Cg.out ?_)
 refine Cg.cond rfl ?_ ?_
 ·intro g
  have g : wshE t.s f.s step pad ≠ 0 := by simpa using g
  refine Cg.seq <| Cg.region (by kernel_rfl) <| Lw.val (Ex.build (vs := []) (cs := [.slice none 0 0, .slice none 0 0]) rfl (by kernel_rfl)) rfl <| Lw.val (Ex.move rfl) rfl <| Lw.unit (Xu.stA (cs := [.slice none 0 0, .slice none 0 0]) rfl rfl rfl rfl rfl b_r rfl) ?_
  rintro w3 ⟨b_r, hg, -⟩
  have hB := hB.grown hg (below_size hB) (by rintro _ ⟨⟩; omega)
  refine Lw.val (Ex.assign rfl) rfl ?_
  refine Lw.nil (Pg.low ?_)
  refine Pg.thenN (Cg.out ?_)
  refine Cg.ret <| Pg.thenR <| Pg.close0 <| Pw.retCT rfl rfl rfl (by assumption) (Tryz.underlying29) rfl rfl rfl ?_
  exact ⟨hB, ansW_no g⟩
 intro g
 have e0 : wshE t.s f.s step pad = 0 := by simpa using g
 clear g
 rw [e0]
 have hm := hyes e0
 have ok := win_ok k_t k_f e0
 clear hno hyes e0 hE
 obtain ⟨S, hS⟩ : ∃ S, S = wshS t.s f.s step pad := ⟨_, rfl⟩
 obtain ⟨N, hN⟩ : ∃ N, N = wofN f := ⟨_, rfl⟩
 rw [hm, ← hS] at hx
 rw [← hS]
 rw [← hS, ← hN] at ok
 clear hm
 have szS := Shapes.size_le S
 obtain ⟨M, hM⟩ : ∃ M, M = (Shapes.size S).toNat := ⟨_, rfl⟩
 have l3 := ok.lt
 have l4 := ok.lf
 have l5 := ok.lS
 refine Cg.skip ?_
 refine Pg.thenN (Cg.out ?_)
 refine Cg.seq ?_
 have zW := below_size hB
 obtain ⟨B1, hB1⟩ : ∃ B1, B1 = w1.heap.size := ⟨_, rfl⟩
 have hxl := own_block hx
 have q_t : A_t < B1 := hB1 ▸ blk_lt b_t
 have q_f : A_f < B1 := hB1 ▸ blk_lt b_f
 have q_s : A_s < B1 := hB1 ▸ blk_lt b_s
 have q_p : A_p < B1 := hB1 ▸ blk_lt b_p
 have q_r : A_r < B1 := hB1 ▸ blk_lt b_r
 refine Cg.midS (St := Value × Nat × Nat) (fun z => [(4, .pointer (some ⟨A_t, 0, none⟩)), (5, .pointer (some ⟨A_f, 0, none⟩)), (6, .pointer (some ⟨A_s, 0, none⟩)), (7, .pointer (some ⟨A_p, 0, none⟩)), (8, .pointer (some ⟨A_r, 0, none⟩)), (10, x), (12, .pointer (some ⟨z.2.1, 0, none⟩)), (13, .pointer (some ⟨z.2.2, 0, none⟩))]) (fun z w' => Below w1.heap.size w1 w' ∧ w'.ownsRow B1 21 1 z.1 0 [] ∧ B1 ≤ z.2.1 ∧ Blk w' z.2.1 27 [z.1] ∧ B1 ≤ z.2.2 ∧ Blk w' z.2.2 131 [.func (.func 110) #[picV t] #[]]) ?_ ?_
 ·refine Cg.any mixed (by kernel_rfl) (fun w hcw _ => ?_)
  have b_t9 := b_t.bs hcw
  have h_t9 := h_t.bs hcw
  have hx9 := (own_slT hx).bs hcw
  have zc := hcw.size
  refine Aw.boxes ([.val, .val, .val, .val, .val, .val, .alloc 27 [.slice none 0 0], .alloc 131 [.nilFunc], .st 6 2, .st 7 5]) ([27, 131]) (winPh B1 x (M : Int) t (.func (.func 110) #[picV t] #[])) (by kernel_rfl) (by kernel_rfl) (fun i v w w' h g => winPh_bs h g) (fun i v w w' A T cs h hb _ hT g => winPh_by h hb hT g) ?_ ?_
  ·refine AllOps.cons (fun s w' hB0 hd => ⟨fun j g h => (by cases h), ?_⟩) ?_
   ·exact Ow.val (Ex.move rfl) ⟨Below.refl _ _, rfl⟩
   refine AllOps.cons (fun s w' hB0 hd => ⟨fun j g h => (by cases h), ?_⟩) ?_
   ·have e0 : s 0 = x := hd 0 (by decide) rfl
    refine Ow.call (Xc.mk (vs := [x]) (size_c x S w' (hx9.bs hB0)).1 (by show some [s 0] = _; rw [e0])) (size_c x S w' (hx9.bs hB0)) (fun v w2 ⟨e, hn⟩ => ⟨hn, ?_⟩)
    rw [e]; exact congrArg (Value.int .i64) (by omega)
   refine AllOps.cons (fun s w' hB0 hd => ⟨fun j g h => (by cases h), ?_⟩) ?_
   ·have e1 : s 1 = .int .i64 (M : Int) := hd 1 (by decide) rfl
    refine Ow.mk (Xw.make (l := 0) (c := M) st_27 it_21 rfl rfl (congrArg some e1) (Nat.zero_le _) (by omega) (by omega)) (fun v w2 ⟨ho, _, hn, _⟩ => ⟨hn, ?_⟩)
    exact own_mono (B' := B1) ho (by have := hB0.size; omega)
   refine AllOps.cons (fun s w' hB0 hd => ⟨fun j g h => (by cases h), ?_⟩) ?_
   ·exact Ow.val (Ex.ldA (k := 2) (ag_29 _) (sz_29 _) rfl rfl (b_t9.bs hB0)) ⟨Below.refl _ _, rfl⟩
   refine AllOps.cons (fun s w' hB0 hd => ⟨fun j g h => (by cases h), ?_⟩) ?_
   ·have e3 : s 3 = t.v := hd 3 (by decide) rfl
    exact Ow.call (Xc.mk (vs := [t.v]) (pof_c t w' (h_t9.bs hB0) (by omega)).1 (by show some [s 3] = _; rw [e3])) (pof_c t w' (h_t9.bs hB0) (by omega)) (fun v w2 ⟨e, hn⟩ => ⟨hn, e⟩)
   refine AllOps.cons (fun s w' hB0 hd => ⟨fun j g h => (by cases h), ?_⟩) ?_
   ·have e4 : s 4 = picV t := hd 4 (by decide) rfl
    exact Ow.val (Ex.mkFn (vs := [picV t]) (us := []) (by show some [s 4] = _; rw [e4]) rfl) ⟨Below.refl _ _, rfl⟩
   refine AllOps.cons (fun s w' hB0 hd => ⟨fun j g h => (by cases h), Ow.alloc it_27⟩) ?_
   refine AllOps.cons (fun s w' hB0 hd => ⟨fun j g h => (by cases h), Ow.alloc it_131⟩) ?_
   refine AllOps.cons (fun s w' hB0 hd => ⟨fun j g h => (by cases h), fun A hA _ hb hP => ?_⟩) ?_
   ·have ho : w'.ownsRow B1 21 1 (s 2) 0 [] := hP
    have h1 := (own_sl ho).one
    exact Ow.unit (Xu.stB (u := s 2) (sz_27 _) (congrArg some hA) rfl (own_sl ho).one' hb Nat.zero_lt_one) (fun w2 h => ⟨by rw [h1]; exact h.1, h.2.1⟩)
   refine AllOps.cons (fun s w' hB0 hd => ⟨fun j g h => (by cases h), fun A hA _ hb hP => ?_⟩) ?_
   ·have e5 : s 5 = .func (.func 110) #[picV t] #[] := hP
    exact Ow.unit (Xu.stB (u := s 5) (sz_131 _) (congrArg some hA) rfl (by rw [e5]; rfl) hb Nat.zero_lt_one) (fun w2 h => ⟨by rw [e5]; rw [e5] at h; exact h.1, h.2.1⟩)
   exact AllOps.nil
  intro s w' hB0 hall hbox _
  obtain ⟨A_o, hAo, l_o, b_o⟩ := box_at hbox 6 8 (by decide) rfl (by decide) rfl
  obtain ⟨A_g, hAg, l_g, b_g⟩ := box_at hbox 7 9 (by decide) rfl (by decide) rfl
  have ho : w'.ownsRow B1 21 1 (s 2) 0 [] := hall 2 (by decide) rfl
  have e5 : s 5 = .func (.func 110) #[picV t] #[] := hall 5 (by decide) rfl
  have h2 : (kdAt [.val, .val, .val, .val, .val, .val, .alloc 27 [.slice none 0 0], .alloc 131 [.nilFunc], .st 6 2, .st 7 5] 8).cells s = [s 2] := by show (s 2).cells.toList = _; rw [(own_sl ho).one]
  have h5 : (kdAt [.val, .val, .val, .val, .val, .val, .alloc 27 [.slice none 0 0], .alloc 131 [.nilFunc], .st 6 2, .st 7 5] 9).cells s = [.func (.func 110) #[picV t] #[]] := by show (s 5).cells.toList = _; rw [e5]; rfl
  rw [h2] at b_o
  rw [h5] at b_g
  have hcw := hcw.trans (hB0.mono hcw.size)
  refine Pg.low ?_

  exact Pg.midS ((s 2, A_o, A_g)) ⟨rfl, rfl, rfl, rfl, rfl, rfl, congrArg some hAo, congrArg some hAg, trivial⟩ (⟨hcw, ho, by show B1 ≤ A_o; omega, b_o, by show B1 ≤ A_g; omega, b_g⟩)
 rintro ⟨ov, A_o, A_g⟩ w ⟨hn, ho, l_o, b_o, l_g, b_g⟩
 dsimp only at ho l_o b_o l_g b_g ⊢
 refine Cg.out ?_
 replace hB := hB.bs hn
 replace h_t := h_t.bs hn
 replace h_f := h_f.bs hn
 replace b_t := b_t.bs hn
 replace b_f := b_f.bs hn
 replace b_s := b_s.bs hn
 replace b_p := b_p.bs hn
 replace b_r := b_r.bs hn
 replace hx := hx.bs hn
 clear hn
 have g0 := good_at ok.gS (k := 0) (by omega)
 have g1 := good_at ok.gS (k := 1) (by omega)
 have g2 := good_at ok.gS (k := 2) (by omega)
 have t0 := good_at ok.gt (k := 0) (by omega)
 have t1 := good_at ok.gt (k := 1) (by omega)
 have t2 := good_at ok.gt (k := 2) (by omega)
 have okn := ok.n1
 have okst := ok.st
 have okpd := ok.pd
 have fll : f.l.length ≤ 64 * 4096 := by
  have f0 := good_at ok.gf (k := 0) (by omega)
  have h1 : f.s.getD 0 default * (N : Int) ≤ 64 * 4096 := Int.mul_le_mul f0.2 (by omega) (by omega) (by decide)
  have h2 := ok.fl
  omega
 have quo : (f.l.length : Int) / S.getD 0 default = (N : Int) := by
  rw [ok.fl, ← ok.o]; exact Int.mul_ediv_cancel_left _ (by omega)
 refine Cg.seq ?_
 refine Cg.any mixed (by kernel_rfl) (fun w hd _ => ?_)
 replace hB := hB.bs hd
 replace h_t := h_t.bs hd
 replace h_f := h_f.bs hd
 replace b_t := b_t.bs hd
 replace b_f := b_f.bs hd
 replace b_s := b_s.bs hd
 replace b_p := b_p.bs hd
 replace b_r := b_r.bs hd
 replace hx := hx.bs hd
 replace ho := ho.bs hd
 replace b_o := b_o.bs hd
 replace b_g := b_g.bs hd
 clear hd
 have h_f2 := h_f.2
 have s_x := own_slT hx
 refine Aw.cls (fun w' => Below w.heap.size w w') (fun hC => ?_) (Below.refl _ _)
 refine AwC.take (i := 0) (NoP.lift (NoP.thn NoP.retG)) rfl (by kernel_rfl) (by kernel_rfl) (by kernel_rfl) (fun w1 hc => Ex.fieldAddr (q := 0) Tryz.underlying29 rfl (sz_27 _) rfl) rfl <| AwC.take (i := 1) (NoP.lift (NoP.thn NoP.retG)) rfl (by kernel_rfl) (by kernel_rfl) (by kernel_rfl) (fun w1 hc => Ex.ldB (ag_27 _) rfl (Blk.bs (by assumption) hc) rfl) rfl ?_
 refine AwC.take (i := 2) (NoP.lift (NoP.thn NoP.retG)) rfl (by kernel_rfl) (by kernel_rfl) (by kernel_rfl) (fun w1 hc => Ex.lenS st_27 rfl (Sl.bs (by assumption) hc)) rfl ?_
 refine AwC.take (i := 3) (NoP.lift (NoP.thn NoP.retG)) rfl (by kernel_rfl) (by kernel_rfl) (by kernel_rfl) (fun w1 hc => Ex.move rfl) rfl <| AwC.take (i := 4) (NoP.lift (NoP.thn NoP.retG)) rfl (by kernel_rfl) (by kernel_rfl) (by kernel_rfl) (fun w1 hc => Ex.idxT st_26 rfl rfl (Sl.bs (by assumption) hc) 0 rfl (by omega)) rfl ?_
 refine AwC.take (i := 5) (NoP.lift (NoP.thn NoP.retG)) rfl (by kernel_rfl) (by kernel_rfl) (by kernel_rfl) (fun w1 hc => Ex.ldT (ag_3 _) rfl (Sl.bs (by assumption) hc) (by omega)) rfl ?_
 refine AwC.take (i := 6) (NoP.lift (NoP.thn NoP.retG)) rfl (by kernel_rfl) (by kernel_rfl) (by kernel_rfl) (fun w1 hc => (Ex.quoI rfl rfl (by omega) (by omega)).as (congrArg (Value.int .i64) quo)) rfl <| AwC.only (by first | assumption | exact Below.refl _ _) (i := 7) (by kernel_rfl) rfl ?_
 refine Lw.newA it_3 rfl ?_
 rintro A_n w2 eA_n b_n hcw -
 refine AwC.back <| AwC.only (by first | assumption | exact Below.refl _ _) (i := 8) (by kernel_rfl) rfl ?_
 refine Lw.unit (Xu.stB (u := .int .i64 (N : Int)) (sz_3 _) rfl rfl rfl b_n Nat.zero_lt_one) ?_
 rintro w3 ⟨b_n2, hg, -⟩
 have hcw := hcw.grown hg hcw.size (by rintro _ ⟨⟩; omega)
 have b_n : Blk w3 A_n 3 [.int .i64 (N : Int)] := b_n2
 clear b_n2 hg
 have zn : B1 ≤ A_n := by have := hB; have := blk_lt b_o; omega
 refine AwC.back ?_
 refine AwC.done (by first | assumption | exact Below.refl _ _) (by kernel_rfl) (Pg.low ?_)
 refine Pg.thenN (Cg.out ?_)
 refine Cg.seq <| Cg.seq <| Cg.region (by kernel_rfl) <| Lw.val (Ex.move rfl) rfl ?_
 replace hB := hB.bs hcw
 replace h_t := h_t.bs hcw
 replace h_f := h_f.bs hcw
 replace b_t := b_t.bs hcw
 replace b_f := b_f.bs hcw
 replace b_s := b_s.bs hcw
 replace b_p := b_p.bs hcw
 replace b_r := b_r.bs hcw
 replace hx := hx.bs hcw
 replace ho := ho.bs hcw
 replace b_o := b_o.bs hcw
 replace b_g := b_g.bs hcw
 clear hcw h_f2 s_x
 refine Lw.callF rfl rfl (spots_c x S _ (own_slT hx)) ?_
 rintro _ w ⟨A_i, rfl, b_i, eA_i, hn⟩
 replace hB := hB.bs hn
 replace h_t := h_t.bs hn
 replace h_f := h_f.bs hn
 replace b_t := b_t.bs hn
 replace b_f := b_f.bs hn
 replace b_s := b_s.bs hn
 replace b_p := b_p.bs hn
 replace b_r := b_r.bs hn
 replace hx := hx.bs hn
 replace ho := ho.bs hn
 replace b_o := b_o.bs hn
 replace b_g := b_g.bs hn
 replace b_n := b_n.bs hn
 clear hn
 refine Lw.nil (Pg.low ?_)
 refine Pg.thenN (Cg.out ?_)
 refine Cg.block ?_
 rename World => w0
 have zB1 : B1 ≤ w0.heap.size := by have := blk_lt b_o; omega
 have zi := blk_lt b_i
 have zW0 := below_size hB
 have hxb := own_block hx
 refine Cg.range rfl (spots_sq A_i x S w0 b_i (own_slT hx) ok.ok ok.lS) (fun b hb => hb.elim (fun e => by rw [e]; exact zi) (fun e => (hxb b e).2)) (fun _ => rfl) (by kernel_rfl) (fun (pre : List (Nat)) w' => (∃ ov, Blk w' A_o 27 [ov] ∧ w'.ownsRow B1 21 1 ov pre.length ((pre.map (wofF t f step pad)).map i32)) ∧ Blk w' A_g 131 [.func (.func 110) #[picV t] #[]] ∧ Blk w' A_n 3 [.int .i64 (N : Int)] ∧ Blk w' A_i 26 [x] ∧ Below B1 w0 w') (by rintro _ ⟨⟩) ?_ ?_ ?_ ?_ ?_
 ·exact ⟨⟨ov, b_o, ho⟩, b_g, b_n, b_i, Below.refl _ _⟩
 ·rintro pre A A' ⟨⟨ov, h1, h2⟩, h3, h4, h6, h5⟩ hc
  exact ⟨⟨ov, h1.nc hc, own_nc h2 hc⟩, h3.nc hc, h4.nc hc, h6.nc hc, h5.nc hc zB1 zB1⟩
 ·rintro pre A A' ⟨⟨ov, h1, h2⟩, h3, h4, h6, h5⟩ hc
  have hc := itr_none hc
  exact ⟨⟨ov, h1.bs hc, own_bs h2 hc⟩, h3.bs hc, h4.bs hc, h6.bs hc, h5.trans (hc.mono (Nat.le_trans zB1 h5.size))⟩
 ·rintro lp pre i u hl ⟨⟨ov, b_o, ho⟩, b_g, b_n, b_i, hK⟩ hpre hrec
  obtain ⟨hi, hiM, -⟩ := range_pre hpre
  refine Cg.region (by kernel_rfl) <| Lw.boxed (cs := [.int .i64 (spc S i), .int .i64 (spy S i), .int .i64 (spx S i)]) it_138 rfl rfl rfl rfl (fun _ => rfl) (rfl) ?_
  rintro A_to u1 eA_to b_to hn1 zhn1
  refine Lw.nil (Pg.low ?_)
  refine Pg.asg ((KeepsFrom.refl _ _).bs hn1) (Kp.refl.bs hn1) ?_
  rintro w hn hz hrec
  have zu := blk_lt b_o
  have hK1 := hK.trans (hn1.mono (by omega))
  have hK := hK1.nc hn (by omega) zB1
  have ho := own_nc (own_bs ho hn1) hn
  have b_o := (b_o.bs hn1).nc hn
  have b_g := (b_g.bs hn1).nc hn
  have b_n := (b_n.bs hn1).nc hn
  have b_i := (b_i.bs hn1).nc hn
  have b_to := b_to.nc hn
  clear hK1 hn1 zu hn hz
  have b_s := b_s.bl hK (by omega)
  have b_p := b_p.bl hK (by omega)
  have b_t := b_t.bl hK (by omega)
  have b_f := b_f.bl hK (by omega)
  have hBw := hB.trans (hK.mono (by omega))
  have zK := hK.size
  have xi : i < M := by omega
  have ci : 0 ≤ spc S i ∧ spc S i < S.getD 0 default := spc_in ok.ok ok.lS (by omega)
  have yi : 0 ≤ spy S i ∧ spy S i < S.getD 1 default := ⟨Int.emod_nonneg _ (by omega), Int.emod_lt_of_pos _ (by omega)⟩
  have xi2 : 0 ≤ spx S i ∧ spx S i < S.getD 2 default := ⟨Int.emod_nonneg _ (by omega), Int.emod_lt_of_pos _ (by omega)⟩
  have cn : 0 ≤ spc S i * (N : Int) ∧ spc S i * (N : Int) ≤ 64 * 4096 := ⟨Int.mul_nonneg ci.1 (by omega), Int.mul_le_mul (by omega) (by omega) (by omega) (by decide)⟩
  obtain ⟨B2, hB2⟩ : ∃ B2, B2 = w.heap.size := ⟨_, rfl⟩
  have r_to : A_to < B2 := hB2 ▸ blk_lt b_to
  have r_o : A_o < B2 := hB2 ▸ blk_lt b_o
  have r_g : A_g < B2 := hB2 ▸ blk_lt b_g
  have r_n : A_n < B2 := hB2 ▸ blk_lt b_n
  have hob : ∀ b, ov.ownBlock = some b → B1 ≤ b ∧ b < B2 := fun b e => hB2 ▸ own_block ho b e
  have r_i : A_i < B2 := hB2 ▸ blk_lt b_i
  refine Cg.block <| Cg.seq ?_
  refine Cg.midS (St := Nat × Nat) (fun z => [(5, .pointer (some ⟨A_f, 0, none⟩)), (6, .pointer (some ⟨A_s, 0, none⟩)), (7, .pointer (some ⟨A_p, 0, none⟩)), (12, .pointer (some ⟨A_o, 0, none⟩)), (13, .pointer (some ⟨A_g, 0, none⟩)), (15, .pointer (some ⟨A_to, 0, none⟩)), (16, .pointer (some ⟨z.1, 0, none⟩)), (17, .pointer (some ⟨z.2, 0, none⟩))]) (fun z w' => Below w.heap.size w w' ∧ B2 ≤ z.1 ∧ Blk w' z.1 21 [i32 0#32] ∧ B2 ≤ z.2 ∧ Blk w' z.2 3 [.int .i64 (spc S i * (N : Int))]) ?_ ?_
  ·rename World => w4
   refine Cg.any mixed (by kernel_rfl) (fun w hcw _ => ?_)
   refine Aw.cls (fun w' => Below w4.heap.size w4 w') (fun hC => ?_) (hcw)
   refine AwC.take (i := 0) (NoP.lift NoP.midG) rfl (by kernel_rfl) (by kernel_rfl) (by kernel_rfl) (fun w1 hc => Ex.fieldAddr (q := 0) Tryz.underlying138 rfl (sz_3 _) rfl) rfl <| AwC.take (i := 1) (NoP.lift NoP.midG) rfl (by kernel_rfl) (by kernel_rfl) (by kernel_rfl) (fun w1 hc => Ex.ldB (ag_3 _) rfl (Blk.bs (by assumption) hc) rfl) rfl ?_
   refine AwC.take (i := 2) (NoP.lift NoP.midG) rfl (by kernel_rfl) (by kernel_rfl) (by kernel_rfl) (fun w1 hc => Ex.ldB (ag_3 _) rfl (Blk.bs (by assumption) hc) rfl) rfl ?_
   refine AwC.take (i := 3) (NoP.lift NoP.midG) rfl (by kernel_rfl) (by kernel_rfl) (by kernel_rfl) (fun w1 hc => Ex.mulI rfl rfl (by omega)) rfl ?_
   refine AwC.two (by assumption) (i := 4) (j := 5) (by kernel_rfl) rfl rfl ?_ ?_
   have zc := hcw.size
   refine Lw.newA it_21 rfl ?_
   rintro A_m w eA_m b_m hn -
   have l_m : B2 ≤ A_m := by omega
   clear zc
   replace hcw := hcw.bs hn
   clear hn
   refine AwC.back <| AwC.only (by assumption) (i := 5) (by kernel_rfl) rfl ?_
   have zc := hcw.size
   refine Lw.newA it_3 rfl ?_
   rintro A_k w eA_k b_k hn -
   have l_k : B2 ≤ A_k := by omega
   clear zc
   replace hcw := hcw.bs hn
   replace b_m := b_m.bs hn
   clear hn
   refine AwC.back <| AwC.only (by assumption) (i := 6) (by kernel_rfl) rfl ?_
   refine Lw.unit (Xu.stB (u := i32 0#32) (sz_21 _) rfl (show _ = some (i32 (0#32)) from rfl) rfl b_m Nat.zero_lt_one) ?_
   rintro w2 ⟨b_m2, hg, -⟩
   try replace b_k := b_k.by hg (fun e => blk_ne b_k b_m (by decide) (Option.some.inj e))
   have hcw := hcw.grown hg hcw.size (by rintro _ ⟨⟩; omega)
   have b_m : Blk w2 A_m 21 [i32 0#32] := b_m2
   clear b_m2 hg
   refine AwC.back <| AwC.only (by assumption) (i := 7) (by kernel_rfl) rfl ?_
   refine Lw.unit (Xu.stB (u := .int .i64 (spc S i * (N : Int))) (sz_3 _) rfl rfl rfl b_k Nat.zero_lt_one) ?_
   rintro w2 ⟨b_k2, hg, -⟩
   have b_m := b_m.by hg (fun e => blk_ne b_m b_k (by decide) (Option.some.inj e))
   have hcw := hcw.grown hg hcw.size (by rintro _ ⟨⟩; omega)
   have b_k : Blk w2 A_k 3 [.int .i64 (spc S i * (N : Int))] := b_k2
   clear b_k2 hg
   refine AwC.back ?_
   refine AwC.done (by assumption) (by kernel_rfl) (Pg.low ?_)
   exact Pg.midS ((A_m, A_k)) ⟨rfl, rfl, rfl, rfl, rfl, rfl, rfl, rfl, trivial⟩ (⟨hcw, l_m, b_m, l_k, b_k⟩)
   have zc := hcw.size
   refine Lw.newA it_3 rfl ?_
   rintro A_k w eA_k b_k hn -
   have l_k : B2 ≤ A_k := by omega
   clear zc
   replace hcw := hcw.bs hn
   clear hn
   refine AwC.back <| AwC.only (by assumption) (i := 4) (by kernel_rfl) rfl ?_
   have zc := hcw.size
   refine Lw.newA it_21 rfl ?_
   rintro A_m w eA_m b_m hn -
   have l_m : B2 ≤ A_m := by omega
   clear zc
   replace hcw := hcw.bs hn
   replace b_k := b_k.bs hn
   clear hn
   refine AwC.back <| AwC.only (by assumption) (i := 6) (by kernel_rfl) rfl ?_
   refine Lw.unit (Xu.stB (u := i32 0#32) (sz_21 _) rfl (show _ = some (i32 (0#32)) from rfl) rfl b_m Nat.zero_lt_one) ?_
   rintro w2 ⟨b_m2, hg, -⟩
   try replace b_k := b_k.by hg (fun e => blk_ne b_k b_m (by decide) (Option.some.inj e))
   have hcw := hcw.grown hg hcw.size (by rintro _ ⟨⟩; omega)
   have b_m : Blk w2 A_m 21 [i32 0#32] := b_m2
   clear b_m2 hg
   refine AwC.back <| AwC.only (by assumption) (i := 7) (by kernel_rfl) rfl ?_
   refine Lw.unit (Xu.stB (u := .int .i64 (spc S i * (N : Int))) (sz_3 _) rfl rfl rfl b_k Nat.zero_lt_one) ?_
   rintro w2 ⟨b_k2, hg, -⟩
   have b_m := b_m.by hg (fun e => blk_ne b_m b_k (by decide) (Option.some.inj e))
   have hcw := hcw.grown hg hcw.size (by rintro _ ⟨⟩; omega)
   have b_k : Blk w2 A_k 3 [.int .i64 (spc S i * (N : Int))] := b_k2
   clear b_k2 hg
   refine AwC.back ?_
   refine AwC.done (by assumption) (by kernel_rfl) (Pg.low ?_)
   exact Pg.midS ((A_m, A_k)) ⟨rfl, rfl, rfl, rfl, rfl, rfl, rfl, rfl, trivial⟩ (⟨hcw, l_m, b_m, l_k, b_k⟩)
  rintro ⟨A_m, A_k⟩ u2 ⟨hn2, l_m, b_m, l_k, b_k⟩
  dsimp only at l_m b_m l_k b_k ⊢
  refine Cg.out ?_
  replace ho := ho.bs hn2
  replace b_o := b_o.bs hn2
  replace b_g := b_g.bs hn2
  replace b_n := b_n.bs hn2
  replace b_i := b_i.bs hn2
  replace b_to := b_to.bs hn2
  replace b_s := b_s.bs hn2
  replace b_p := b_p.bs hn2
  replace b_t := b_t.bs hn2
  replace b_f := b_f.bs hn2
  replace hBw := hBw.bs hn2
  have h_fx := (h_f0.bs hBw).1
  have s_c := SlT.drop h_fx (i := 1) (by omega)
  have l_c : (f.s.drop 1).length = 3 := by rw [List.length_drop]; omega
  refine Cg.seq <| Cg.seq <| Cg.region (by kernel_rfl) <| Lw.val (Ex.fieldAddr (q := 0) Tryz.underlying29 rfl (sz_26 _) rfl) rfl <| Lw.val (Ex.ldB (ag_26 _) rfl (by assumption) rfl) rfl ?_
  refine Lw.val (Ex.cutL (i := 1) st_26 rfl rfl h_fx (by omega)) rfl <| Lw.callF rfl rfl (spots_c (cut f.x 1 1 f.s.length) (f.s.drop 1) _ s_c) ?_
  rintro _ u3 ⟨A_j, rfl, b_j, eA_j, hn3⟩
  have b_m2 := b_m
  have b_k2 := b_k
  have s_c := s_c.bs hn3
  replace ho := ho.bs hn3
  replace b_o := b_o.bs hn3
  replace b_g := b_g.bs hn3
  replace b_n := b_n.bs hn3
  replace b_i := b_i.bs hn3
  replace b_to := b_to.bs hn3
  replace b_s := b_s.bs hn3
  replace b_p := b_p.bs hn3
  replace b_t := b_t.bs hn3
  replace b_f := b_f.bs hn3
  replace hBw := hBw.bs hn3
  replace b_m := b_m.bs hn3
  replace b_k := b_k.bs hn3
  refine Lw.nil (Pg.low ?_)
  refine Pg.thenN (Cg.out ?_)
  refine Cg.block ?_
  have zj := blk_lt b_j
  have zB2 : B2 ≤ u3.heap.size := by have := hn2.size; have := hn3.size; omega
  have hrec3 : ∃ r, u3.heap[lp]? = some (.loop r) := by
   obtain ⟨r, hr⟩ := hrec
   have hlt := (Array.getElem?_eq_some_iff.1 hr).1
   have h1 := (hn2.block lp hlt).trans hr
   exact ⟨r, (hn3.block lp (Array.getElem?_eq_some_iff.1 h1).1).trans h1⟩
  have h_fx3 := (h_f0.bs hBw).1
  have fne : f.s.map (Value.int .i64) ≠ [] := fun e2 => by rw [List.map_eq_nil_iff] at e2; rw [e2] at l4; cases l4
  have z_mj : A_m < A_j ∧ A_k < A_j := ⟨eA_j ▸ blk_lt b_m2, eA_j ▸ blk_lt b_k2⟩
  have nj1 : ¬ (A_m = A_j ∨ (cut f.x 1 1 f.s.length).ownBlock = some A_m) := by
   rintro (h | h)
   ·omega
   ·have := Sl.blk h_f0.1 fne A_m (cut_own h); omega
  have nj2 : ¬ (A_k = A_j ∨ (cut f.x 1 1 f.s.length).ownBlock = some A_k) := by
   rintro (h | h)
   ·omega
   ·have := Sl.blk h_f0.1 fne A_k (cut_own h); omega
  refine Cg.rangeN (hrec3) rfl (spots_sq A_j (cut f.x 1 1 f.s.length) (f.s.drop 1) u3 b_j s_c ok.okf l_c) (fun b hb => hb.elim (fun e => by rw [e]; exact zj) (fun e => Sl.blk h_fx3 fne b (cut_own e))) (fun _ => rfl) (by kernel_rfl) (fun (pre2 : List (Nat)) w' => Blk w' A_m 21 [i32 (winS t.l f.l t.s S (f.s.drop 1) N step pad i pre2.length)] ∧ Blk w' A_k 3 [.int .i64 (spc S i * (N : Int) + (pre2.length : Int))] ∧ Below B2 u3 w' ∧ KeepsFrom w0.heap.size u3 w') (by rintro _ ⟨⟩) ?_ ?_ ?_ ?_ ?_
  ·exact ⟨b_m, by simpa using b_k, Below.refl _ _, KeepsFrom.refl _ _⟩
  ·rintro pre A A' ⟨h1, h2, h3, h4⟩ hc
   exact ⟨h1.nc hc, h2.nc hc, h3.nc hc zB2 zB2, h4.nc hc⟩
  ·rintro pre A A' ⟨h1, h2, h3, h4⟩ hc
   have hc := itr_none hc
   exact ⟨h1.bs hc, h2.bs hc, h3.trans (hc.mono (Nat.le_trans zB2 h3.size)), h4.bs hc⟩
  ·rintro lq pre2 j v hl2 ⟨b_m, b_k, hK2, hKf⟩ hpre2 hrec2
   obtain ⟨hj, hjN, -⟩ := range_pre hpre2
   rw [show (Shapes.size (f.s.drop 1)).toNat = N from hN.symm] at hjN
   refine Cg.region (by kernel_rfl) <| Lw.boxed (cs := [.int .i64 (spc (f.s.drop 1) j), .int .i64 (spy (f.s.drop 1) j), .int .i64 (spx (f.s.drop 1) j)]) it_138 rfl rfl rfl rfl (fun _ => rfl) (rfl) ?_
   rintro A_at u4 eA_at b_at hn4 zhn4
   refine Lw.nil (Pg.low ?_)
   refine Pg.asg ((KeepsFrom.refl _ _).bs hn4) (Kp.refl.bs hn4) ?_
   rintro w hn hz hrec
   have hK4 := (hK2.trans (hn4.mono (Nat.le_trans zB2 hK2.size))).nc hn (by omega) zB2
   have hKf4 := (hKf.bs hn4).nc (hn.mono hl2)
   have b_m := (b_m.bs hn4).nc hn
   have b_k := (b_k.bs hn4).nc hn
   have b_at := b_at.nc hn
   have b_to := b_to.bl hK4 (by omega)
   have b_s := b_s.bl hK4 (by omega)
   have b_p := b_p.bl hK4 (by omega)
   have b_g := b_g.bl hK4 (by omega)
   have b_f := b_f.bl hK4 (by omega)
   have hBw4 := hBw.trans (hK4.mono (by omega))
   have h_ty := (h_t0.bs hBw4).2
   have h_fy := (h_f0.bs hBw4).2
   clear hn4 hn hz
   have d1 : (f.s.drop 1).getD 0 default = f.s.getD 1 default := by simp
   have d2 : (f.s.drop 1).getD 1 default = f.s.getD 2 default := by simp
   have d3 : (f.s.drop 1).getD 2 default = f.s.getD 3 default := by simp
   have w1 := good_at ok.gf (k := 1) (by omega)
   have w2 := good_at ok.gf (k := 2) (by omega)
   have w3 := good_at ok.gf (k := 3) (by omega)
   have jc : 0 ≤ spc (f.s.drop 1) j ∧ spc (f.s.drop 1) j < f.s.getD 1 default := by rw [← d1]; exact spc_in ok.okf l_c (by have := Shapes.size_le (f.s.drop 1); unfold wofN at hN; omega)
   have jy : 0 ≤ spy (f.s.drop 1) j ∧ spy (f.s.drop 1) j < 64 := by
    have h1 := Int.emod_nonneg ((j : Int) / (f.s.drop 1).getD 2 default) (b := (f.s.drop 1).getD 1 default) (by omega)
    have h2 := Int.emod_lt_of_pos ((j : Int) / (f.s.drop 1).getD 2 default) (b := (f.s.drop 1).getD 1 default) (by omega)
    unfold spy; omega
   have jx : 0 ≤ spx (f.s.drop 1) j ∧ spx (f.s.drop 1) j < 64 := by
    have h1 := Int.emod_nonneg (j : Int) (b := (f.s.drop 1).getD 2 default) (by omega)
    have h2 := Int.emod_lt_of_pos (j : Int) (b := (f.s.drop 1).getD 2 default) (by omega)
    unfold spx; omega
   have my : 0 ≤ spy S i * step ∧ spy S i * step ≤ 64 * 8 := ⟨Int.mul_nonneg yi.1 (by omega), Int.mul_le_mul (by omega) okst.2 (by omega) (by decide)⟩
   have mx : 0 ≤ spx S i * step ∧ spx S i * step ≤ 64 * 8 := ⟨Int.mul_nonneg xi2.1 (by omega), Int.mul_le_mul (by omega) okst.2 (by omega) (by decide)⟩
   have tl : (spc (f.s.drop 1) j + 1) * (t.s.getD 1 default * t.s.getD 2 default) ≤ t.l.length := by
    rw [ok.tl, ok.c]
    exact Int.mul_le_mul_of_nonneg_right (by omega) (Int.mul_nonneg (by omega) (by omega))
   obtain ⟨k, hk⟩ : ∃ k : Nat, spc S i * (N : Int) + (pre2.length : Int) = (k : Int) := ⟨_, (Int.toNat_of_nonneg (by omega)).symm⟩
   have hkl : k < f.l.length := by
    have h1 : (spc S i + 1) * (N : Int) ≤ f.s.getD 0 default * (N : Int) := Int.mul_le_mul_of_nonneg_right (by have := ok.o; omega) (by omega)
    have h2 := ok.fl
    rw [Int.add_mul, Int.one_mul] at h1
    omega
   have ek : (spc S i).toNat * N + j = k := by
    have : ((spc S i).toNat : Int) = spc S i := Int.toNat_of_nonneg ci.1
    have h2 : (((spc S i).toNat * N + j : Nat) : Int) = (k : Int) := by push_cast; rw [this, hj]; exact hk
    exact_mod_cast h2
   rw [hk] at b_k
   have eS : winS t.l f.l t.s S (f.s.drop 1) N step pad i pre2.length + pic t.l (t.s.getD 1 default) (t.s.getD 2 default) (spc (f.s.drop 1) j) (spy S i * step - pad + spy (f.s.drop 1) j) (spx S i * step - pad + spx (f.s.drop 1) j) * f.l.getD k default = winS t.l f.l t.s S (f.s.drop 1) N step pad i (pre2.length + 1) := by
    rw [← ek, hj]; rfl
   refine Cg.block <| Cg.seq <| Cg.tail 30 mixed (by kernel_rfl) (by kernel_rfl) <| Qw.val (fun w1 hq => Ex.ldB (ag_21 _) rfl (Blk.bs (by assumption) hq) rfl) rfl ?_
   refine Qw.val (fun w1 hq => Ex.ldB (ag_131 _) rfl (Blk.bs (by assumption) hq) rfl) rfl ?_
   refine Qw.val (fun w1 hq => Ex.fieldAddr (q := 0) Tryz.underlying138 rfl (sz_3 _) rfl) rfl <| Qw.val (fun w1 hq => Ex.ldB (ag_3 _) rfl (Blk.bs (by assumption) hq) rfl) rfl ?_
   refine Qw.val (fun w1 hq => Ex.fieldAddr (q := 0) Tryz.underlying138 rfl (sz_3 _) rfl) rfl <| Qw.val (fun w1 hq => Ex.ldB (ag_3 _) rfl (Blk.bs (by assumption) hq) rfl) rfl ?_
   refine Qw.val (fun w1 hq => Ex.ldB (ag_3 _) rfl (Blk.bs (by assumption) hq) rfl) rfl ?_
   refine Qw.val (fun w1 hq => Ex.mulI rfl rfl (by omega)) rfl <| Qw.val (fun w1 hq => Ex.ldB (ag_3 _) rfl (Blk.bs (by assumption) hq) rfl) rfl ?_
   refine Qw.val (fun w1 hq => Ex.subI rfl rfl (by omega)) rfl <| Qw.val (fun w1 hq => Ex.fieldAddr (q := 0) Tryz.underlying138 rfl (sz_3 _) rfl) rfl <| Qw.val (fun w1 hq => Ex.ldB (ag_3 _) rfl (Blk.bs (by assumption) hq) rfl) rfl ?_
   refine Qw.val (fun w1 hq => Ex.addI rfl rfl (by omega)) rfl <| Qw.val (fun w1 hq => Ex.fieldAddr (q := 0) Tryz.underlying138 rfl (sz_3 _) rfl) rfl <| Qw.val (fun w1 hq => Ex.ldB (ag_3 _) rfl (Blk.bs (by assumption) hq) rfl) rfl ?_
   refine Qw.val (fun w1 hq => Ex.ldB (ag_3 _) rfl (Blk.bs (by assumption) hq) rfl) rfl ?_
   refine Qw.val (fun w1 hq => Ex.mulI rfl rfl (by omega)) rfl <| Qw.val (fun w1 hq => Ex.ldB (ag_3 _) rfl (Blk.bs (by assumption) hq) rfl) rfl ?_
   refine Qw.val (fun w1 hq => Ex.subI rfl rfl (by omega)) rfl <| Qw.val (fun w1 hq => Ex.fieldAddr (q := 0) Tryz.underlying138 rfl (sz_3 _) rfl) rfl <| Qw.val (fun w1 hq => Ex.ldB (ag_3 _) rfl (Blk.bs (by assumption) hq) rfl) rfl ?_
   refine Qw.val (fun w1 hq => Ex.addI rfl rfl (by omega)) rfl <| Qw.callV (p := [picV t]) (q := []) rfl rfl rfl (fun w1 hq => (wat_c t (spc (f.s.drop 1) j) (spy S i * step - pad + spy (f.s.drop 1) j) (spx S i * step - pad + spx (f.s.drop 1) j) w1 (Sl.bs h_ty hq) (by omega) (by omega) (by omega) (by omega) (by omega) tl).q hq) <| Qw.val (fun w1 hq => Ex.fieldAddr (q := 0) Tryz.underlying29 rfl (sz_27 _) rfl) rfl <| Qw.val (fun w1 hq => Ex.ldB (ag_27 _) rfl (Blk.bs (by assumption) hq) rfl) rfl ?_
   refine Qw.val (fun w1 hq => Ex.ldB (ag_3 _) rfl (Blk.bs (by assumption) hq) rfl) rfl ?_
   refine Qw.val (fun w1 hq => Ex.idxT st_27 rfl rfl (Sl.bs h_fy hq) k rfl hkl) rfl <| Qw.val (fun w1 hq => Ex.ldT (ag_21 _) rfl (Sl.bs (by assumption) hq) (by omega)) rfl ?_
   refine Qw.val (fun w1 hq => Ex.muli32 rfl rfl) rfl <| Qw.val (fun w1 hq => Ex.addi32 rfl rfl) rfl ?_
   refine Qw.done (fun w5 hq => ?_)
   replace b_m := b_m.bs hq
   replace b_k := b_k.bs hq
   have hK5 := hK4.trans (hq.mono (Nat.le_trans zB2 hK4.size))
   refine Lw.unit (Xu.stB (u := i32 (winS t.l f.l t.s S (f.s.drop 1) N step pad i (pre2.length + 1))) (sz_21 _) rfl (congrArg (fun z => some (i32 z)) eS) rfl b_m Nat.zero_lt_one) ?_
   rintro w6 ⟨b_m6, hg, -⟩
   have b_k := b_k.by hg (fun e => blk_ne b_k b_m (by decide) (Option.some.inj e))
   have hK6 := hK5.grown hg (Nat.le_trans zB2 hK5.size) (by rintro _ ⟨⟩; omega)
   refine Lw.nil (Pg.low ?_)
   refine Pg.thenN (Cg.out ?_)
   refine Cg.region (by kernel_rfl) <| Lw.val (Ex.ldB (ag_3 _) rfl (by assumption) rfl) rfl ?_
   refine Lw.val (Ex.addI rfl rfl (by omega)) rfl <| Lw.unit (Xu.stB (u := .int .i64 (spc S i * (N : Int) + ((pre2.length + 1 : Nat) : Int))) (sz_3 _) rfl (congrArg (fun z => some (Value.int .i64 z)) (by omega)) rfl b_k Nat.zero_lt_one) ?_
   rintro w7 ⟨b_k7, hg7, -⟩
   have b_m7 : Blk w6 A_m 21 _ := b_m6
   have b_m7 := b_m7.by hg7 (fun e => blk_ne b_m7 b_k (by decide) (Option.some.inj e))
   have hK7 := hK6.grown hg7 (Nat.le_trans zB2 hK6.size) (by rintro _ ⟨⟩; omega)
   have el : (pre2 ++ [j]).length = pre2.length + 1 := by simp
   refine Lw.nil (Pg.low ?_)
   refine Pg.blkN ?_
   exact Pg.rnd ((((KeepsFrom.refl _ _).bs hq).blk b_m hg).blk b_k hg7) (((Kp.refl.bs hq).grown hg (fun b e h => by cases e; exact nj1 h)).grown hg7 (fun b e h => by cases e; exact nj2 h)) (⟨by rw [el]; exact b_m7, by rw [el]; exact b_k7, hK7, ((hKf4.bs hq).blk b_m hg).blk b_k hg7⟩)
  rintro v ⟨b_m, b_k, hK2, hKf⟩
  have eN : (List.range (Shapes.size (f.s.drop 1)).toNat).length = N := by rw [List.length_range]; exact hN.symm
  rw [eN] at b_m
  rw [show winS t.l f.l t.s S (f.s.drop 1) N step pad i N = wofF t f step pad i by unfold wofF; rw [← hN, ← hS]] at b_m
  clear b_k
  have b_o := b_o.bl hK2 (by omega)
  have b_g := b_g.bl hK2 (by omega)
  have b_n := b_n.bl hK2 (by omega)
  have b_i := b_i.bl hK2 (by omega)
  have ho := own_heap ho (fun k e => hK2.block k (hob k e).2)
  have hN1 : Below B2 w v := ((hB2 ▸ hn2).trans (hn3.mono (by have := hn2.size; omega))).trans hK2
  have zv := hN1.size
  have lM : pre.length < 4096 := by omega
  refine Pg.blkN ?_
  refine Pg.thenN (Cg.out ?_)
  refine Cg.region (by kernel_rfl) <| Lw.val (Ex.ldB (ag_27 _) rfl (by assumption) rfl) rfl ?_
  refine Lw.val (Ex.ldB (ag_21 _) rfl (by assumption) rfl) rfl ?_
  refine Lw.valW (Xw.lit (vs := [wofF t f step pad i].map i32) st_27 it_21 rfl rfl rfl rfl rfl) rfl ?_
  rintro z w5 ⟨hz, -, hn5, -⟩
  have b_o := b_o.bs hn5
  have b_g := b_g.bs hn5
  have b_n := b_n.bs hn5
  have b_i := b_i.bs hn5
  have ho := own_bs ho hn5
  have z5 := hn5.size
  refine Lw.valW (Xw.append (base := B1) st_27 it_21 rfl (by decide) rfl rfl ho (own_sl hz) (one_map (fun _ => rfl) _) (by omega) (by omega) (by omega)) rfl ?_
  rintro ov2 w6 ⟨ho6, hb6, hg6⟩
  rw [← List.map_append, ← List.map_singleton (f := wofF t f step pad), ← List.map_append] at ho6
  have hne : ∀ {A T : Nat} {cs : List Value}, Blk w5 A T cs → 21 ≠ T → some A ≠ ov.ownBlock := fun h e => blk_own_ne ho h e
  have b_o6 := b_o.by hg6 (hne b_o (by decide))
  have b_g := b_g.by hg6 (hne b_g (by decide))
  have b_n := b_n.by hg6 (hne b_n (by decide))
  have b_i6 := b_i.by hg6 (hne b_i (by decide))
  have hK6 : Below B1 w0 w6 := ((hK.trans (hN1.mono (by omega))).trans (hn5.mono (by omega))).trans hb6
  refine Lw.unit (Xu.stB (u := ov2) (sz_27 _) rfl rfl (own_sl ho6).one' b_o6 Nat.zero_lt_one) ?_
  rintro w7 ⟨b_o7, hg7, -⟩
  have ho7 := own_apart ho6 b_o6 (by decide) hg7
  have b_g := b_g.by hg7 (fun e => blk_ne b_g b_o6 (by decide) (Option.some.inj e))
  have b_n := b_n.by hg7 (fun e => blk_ne b_n b_o6 (by decide) (Option.some.inj e))
  have b_i7 := b_i6.by hg7 (fun e => blk_ne b_i6 b_o6 (by decide) (Option.some.inj e))
  have hK7 := hK6.grown hg7 (Nat.le_trans zB1 hK6.size) (by rintro _ ⟨⟩; omega)
  have el : (pre ++ [i]).length = pre.length + 1 := by simp
  refine Lw.nil (Pg.low ?_)
  refine Pg.blkN ?_
  exact Pg.rnd ((((((((KeepsFrom.refl _ _).bs hn2).bs hn3).trans hKf).bs hn5).own ho hg6).blk b_o6 hg7)) (((((Kp.refl.below hN1 (fun b h => h.elim (fun h => by omega) (fun h => by have := hxl b h; omega))).bs hn5).grown hg6 (fun b e h => h.elim (fun h => hne b_i (by decide) (by rw [← h, e])) (fun h => by have := hxl b h; have := hob b e; omega))).grown hg7 (fun b e h => by cases e; exact h.elim (fun h => blk_ne b_i6 b_o6 (by decide) h.symm) (fun h => by have := hxl A_o h; omega)))) (⟨⟨ov2, b_o7, by rw [el]; exact ho7⟩, b_g, b_n, b_i7, hK7⟩)
 rintro d w hd ⟨⟨ov, b_o, ho⟩, b_g, b_n, b_i, hK⟩ hD
 have eM : (List.range (Shapes.size S).toNat).length = M := by rw [List.length_range]; exact hM.symm
 have hx := own_heap hx (fun k e => hK.block k (by have := hxl k e; omega))
 have b_r := b_r.bl hK (by omega)
 have hB := hB.trans (hK.mono (by omega))
 have zK := hK.size
 have eL : (List.range (Shapes.size S).toNat).map (wofF t f step pad) = wofL t f step pad := by unfold wofL; rw [← hS]
 rw [eL] at ho
 rw [List.length_range] at ho
 have lL : (wofL t f step pad).length = (Shapes.size S).toNat := by rw [← eL]; simp
 rw [← lL] at ho
 have hox := own_block ho
 refine Pg.blkN ?_
 refine Pg.thenN (Cg.out ?_)
 refine Cg.seq <| Cg.region (by kernel_rfl) <| Lw.val (Ex.move rfl) rfl <| Lw.val (Ex.ldB (ag_27 _) rfl (by assumption) rfl) rfl ?_
 refine Lw.val (Ex.build (vs := [(0, x), (1, ov)]) (cs := [x, ov]) rfl (bt_ten _ _ (own_slT hx).one (own_slT ho).one)) rfl <| Lw.unit (Xu.stA (cs := [x, ov]) rfl rfl rfl rfl (by simp [(own_slT hx).one', (own_slT ho).one']) b_r rfl) ?_
 rintro w4 ⟨b_r4, hg, hz4⟩
 have hD := (hg.block d (Array.getElem?_eq_some_iff.1 hD).1 (by intro e; cases e; omega)).trans hD
 have hB := hB.grown hg (by omega) (by rintro _ ⟨⟩; omega)
 have ho := own_heap ho (fun k e => hg.block k (own_block ho k e).2 (by intro e2; have := hox k e; cases e2; omega))
 have hx := own_heap hx (fun k e => hg.block k (own_block hx k e).2 (by intro e2; cases e2; have := own_block hx _ e; omega))
 have zB := below_size hB
 refine Lw.val (Ex.assign rfl) rfl ?_
 refine Lw.nil (Pg.low ?_)
 refine Pg.thenN (Cg.out ?_)
 refine Cg.ret ?_
 refine Pg.close (hD) (fun w hn _ => ?_)
 have b_r := b_r4.nc hn
 have ho := own_nc ho hn
 have hx := own_nc hx hn
 have hB := hB.nc hn (by omega) (Nat.le_refl _)
 refine Pw.retCT rfl rfl rfl (by assumption) (Tryz.underlying29) rfl rfl rfl ?_
 exact ⟨hB, x, ov, rfl, fun h => absurd rfl h, fun _ => ⟨.inl (own_mono hx (by omega)), own_mono ho (by omega), fun k e1 e2 => by have := hox k e1; have := hxl k e2; omega⟩⟩
theorem wof_c (t f : T4) (step pad : Int) (W : World) (h_t : t.at W) (h_f : f.at W) : Fnc Tryz.prog 89 [t.v, f.v, .int .i64 step, .int .i64 pad] W (fun r w' => Below W.heap.size W w' ∧ Gets W w' r (wofE t f step pad) (wshS t.s f.s step pad) (wofL t f step pad)) :=
 (wof0_c t f step pad W h_t h_f).mono fun _ _ ⟨h1, h2⟩ => ⟨h1, h2.gets⟩
end Go.Proofs.YtmipoeanpnnjoaaGreat

/-! Contract: the greatest of squares. -/
namespace Go.Proofs.YtmipoeanpnnjoaaGreat
open Go Go.Dd Go.RowKit
set_option maxRecDepth 100000

def wpoE (t : T4) (wide : Int) : Int := if tok t.s t.l then poolE t.s wide else 1
def wpoL (t : T4) (wide : Int) : List (BitVec 32) := pooL t.l t.s (pshS t.s wide) wide.toNat
structure PoolOK (t : T4) (wide : Int) : Prop where
 lt : t.s.length = 3
 w : 1 ≤ wide ∧ wide ≤ 64
 w1 : wide ≤ t.s.getD 1 default
 w2 : wide ≤ t.s.getD 2 default
 gt : Shapes.good t.s
 tl : (t.l.length : Int) = t.s.getD 0 default * (t.s.getD 1 default * t.s.getD 2 default)
 ok : Shapes.ok (pshS t.s wide) = true
 s1 : slid (t.s.getD 1 default) wide wide = t.s.getD 1 default / wide
 s2 : slid (t.s.getD 2 default) wide wide = t.s.getD 2 default / wide
theorem slid_same {r w : Int} (h1 : 1 ≤ w) (h2 : w ≤ r) : slid r w w = r / w ∧ 1 ≤ r / w ∧ r / w ≤ r ∧ r / w * w ≤ r := by
 have e : (r - w) / w = r / w - 1 := by
  have := Int.add_mul_ediv_right (r - w) 1 (show w ≠ 0 by omega)
  rw [Int.one_mul, Int.sub_add_cancel] at this
  omega
 have e2 : slid r w w = r / w := by unfold slid; rw [if_neg (by omega), e]; omega
 have e3 := Int.ediv_nonneg (show 0 ≤ r - w by omega) (show 0 ≤ w by omega)
 exact ⟨e2, by omega, Int.ediv_le_self _ (by omega), Int.ediv_mul_le _ (by omega)⟩
theorem pool_ok {t : T4} {wide : Int} (ht : tok t.s t.l = true) (e : poolE t.s wide = 0) : PoolOK t wide := by
 obtain ⟨t1, t2⟩ := tok_ok ht
 have T := (Shapes.ok_iff t.s).1 t1
 have hA : pshA t.s wide = false := by cases h : pshA t.s wide <;> simp [poolE, h] at e ⊢
 have hb : pshB t.s wide = true := by cases h : pshB t.s wide <;> simp [poolE, hA, h] at e ⊢
 simp only [pshB, Bool.and_eq_true, decide_eq_true_eq] at hb
 obtain ⟨⟨lt, b1⟩, b2⟩ := hb
 simp only [pshA, Bool.or_eq_false_iff, decide_eq_false_iff_not] at hA
 obtain ⟨⟨-, a1⟩, a2⟩ := hA
 have g0 := good_at T.2.1 (k := 0) (by omega)
 have g1 := good_at T.2.1 (k := 1) (by omega)
 have g2 := good_at T.2.1 (k := 2) (by omega)
 obtain ⟨c1, c2, c3, -⟩ := slid_same (r := t.s.getD 1 default) (w := wide) (by omega) b1
 obtain ⟨d1, d2, d3, -⟩ := slid_same (r := t.s.getD 2 default) (w := wide) (by omega) b2
 have p3 := prod3 lt
 have hl : (pshS t.s wide).length = 3 := rfl
 have ps : Shapes.prod (pshS t.s wide) = t.s.getD 0 default * (t.s.getD 1 default / wide * (t.s.getD 2 default / wide)) := by
  rw [prod3 hl]
  show t.s.getD 0 default * (slid (t.s.getD 1 default) wide wide * slid (t.s.getD 2 default) wide wide) = _
  rw [c1, d1]
 have q1 : t.s.getD 1 default / wide * (t.s.getD 2 default / wide) ≤ t.s.getD 1 default * t.s.getD 2 default := Int.mul_le_mul c3 d3 (by omega) (by omega)
 have q2 : t.s.getD 0 default * (t.s.getD 1 default / wide * (t.s.getD 2 default / wide)) ≤ t.s.getD 0 default * (t.s.getD 1 default * t.s.getD 2 default) := Int.mul_le_mul_of_nonneg_left q1 (by omega)
 refine ⟨lt, by omega, b1, b2, T.2.1, ?_, (Shapes.ok_iff _).2 ⟨by rw [hl]; omega, ?_, by rw [ps]; omega⟩, c1, d1⟩
 ·have := Shapes.size_ok t1
  rw [← p3]; have := Shapes.size_le t.s; omega
 ·intro y hy
  simp only [pshS, List.mem_cons, List.not_mem_nil, or_false] at hy
  rw [c1, d1] at hy
  rcases hy with rfl | rfl | rfl <;> omega
set_option maxHeartbeats 2000000 in
theorem wpo0_c (t : T4) (wide : Int) (W : World) (h_t : t.at W) :
  Fnc Tryz.prog 81 [t.v, .int .i64 wide] W (fun r w' => Below W.heap.size W w' ∧ AnsW W w' r (wpoE t wide) (pshS t.s wide) (wpoL t wide)) := by
 have hB := Below.refl W.heap.size W
 have h_t0 := h_t
 refine Fnc.enterG (n := 85) Tryz.func81 (by kernel_rfl) rfl rfl rfl <| Cg.seq <| Cg.region (by kernel_rfl) <| Lw.boxV (cs := [t.x, t.y]) rfl rfl rfl ?_
 rintro A_t w eA_t b_t hn -
 replace hB := hB.bs hn
 replace h_t := h_t.bs hn
 clear hn
 refine Lw.boxV (cs := [.int .i64 wide]) rfl rfl rfl ?_
 rintro A_s w eA_s b_s hn -
 replace hB := hB.bs hn
 replace h_t := h_t.bs hn
 replace b_t := b_t.bs hn
 clear hn
 have z0 := below_size hB
 refine Lw.newA it_29 rfl ?_
 rintro A_r w eA_r b_r hn -
 replace hB := hB.bs hn
 replace h_t := h_t.bs hn
 replace b_t := b_t.bs hn
 replace b_s := b_s.bs hn
 clear hn
 refine Lw.val (Ex.assign rfl) rfl ?_
 refine Lw.nil (Pg.low ?_)
 refine Pg.thenN (Cg.out ?_)
 refine Cg.seq <| Cg.seq <| Cg.region (by kernel_rfl) <| Lw.val (Ex.ldA (ag_29 _) (sz_29 _) rfl rfl (by assumption)) rfl ?_
 have z_r := blk_lt b_r
 refine Lw.callF rfl rfl (tcheck_c t.x t.y t.s t.l _ h_t.1 h_t.2) ?_
 rintro _ w ⟨rfl, hn⟩
 replace hB := hB.bs hn
 replace h_t := h_t.bs hn
 replace b_t := b_t.bs hn
 replace b_s := b_s.bs hn
 replace b_r := b_r.bs hn
 clear hn
 refine Lw.val (Ex.not rfl) rfl ?_
 refine Lw.nil (Pg.low ?_)
 refine Pg.thenN (Cg.out ?_)
 refine Cg.cond rfl ?_ ?_
 ·intro g
  refine Cg.seq <| Cg.region (by kernel_rfl) <| Lw.val (Ex.build (vs := []) (cs := [.slice none 0 0, .slice none 0 0]) rfl (by kernel_rfl)) rfl <| Lw.unit (Xu.stA (cs := [.slice none 0 0, .slice none 0 0]) rfl rfl rfl rfl rfl b_r rfl) ?_
  rintro w3 ⟨b_r, hg, -⟩
  have hB := hB.grown hg (below_size hB) (by rintro _ ⟨⟩; omega)
  refine Lw.val (Ex.assign rfl) rfl ?_
  refine Lw.nil (Pg.low ?_)
  refine Pg.thenN (Cg.out ?_)
  refine Cg.ret <| Pg.thenR <| Pg.close0 <| Pw.retCT rfl rfl rfl (by assumption) (Tryz.underlying29) rfl rfl rfl ?_
  rw [show wpoE t wide = 1 by simp_all [wpoE]]
  exact ⟨hB, ansW_no (by decide)⟩
 intro g1
 have k_t : tok t.s t.l = true := by simpa using g1
 have hE : wpoE t wide = poolE t.s wide := by rw [wpoE, k_t]; rfl
 clear g1
 rw [hE]
 have h_t1 := h_t.1
 have zr0 := blk_lt b_r
 have zrB := below_size hB
 refine Cg.skip ?_
 refine Pg.thenN (Cg.out ?_)
 refine Cg.seq <| Cg.region (by kernel_rfl) <| Lw.val (Ex.fieldAddr (q := 0) Tryz.underlying29 rfl (sz_26 _) rfl) rfl <| Lw.val (Ex.ldB (ag_26 _) rfl (by assumption) rfl) rfl ?_
 refine Lw.val (Ex.ldB (ag_3 _) rfl (by assumption) rfl) rfl ?_
 refine Lw.callF rfl rfl (wpshape_c t.s wide t.x _ h_t.1) ?_
 rintro _ w1 ⟨hn, x, m', rfl, hx, hno, hyes⟩
 replace hB := hB.bs hn
 replace h_t := h_t.bs hn
 replace b_t := b_t.bs hn
 replace b_s := b_s.bs hn
 replace b_r := b_r.bs hn
 clear hn
 refine Lw.val (Ex.move rfl) rfl <| Lw.val (Ex.extract (i := 0) rfl rfl) rfl <| Lw.val (Ex.extract (i := 1) rfl rfl) rfl <| Lw.val (Ex.assign rfl) rfl <| Lw.val (Ex.assign rfl) rfl ?_
 refine Lw.nil (Pg.low ?_)
 refine Pg.thenN (Cg.out ?_)
 refine Cg.seq <| Cg.seq <| Cg.region (by kernel_rfl) <| Lw.val (Ex.move rfl) rfl <| Lw.val (Ex.neq rfl rfl) rfl ?_
 refine Lw.nil (Pg.low ?_)
 refine Pg.thenN (Cg.out ?_)
 refine Cg.cond rfl ?_ ?_
 ·intro g
  have g : poolE t.s wide ≠ 0 := by simpa using g
  refine Cg.seq <| Cg.region (by kernel_rfl) <| Lw.val (Ex.build (vs := []) (cs := [.slice none 0 0, .slice none 0 0]) rfl (by kernel_rfl)) rfl <| Lw.val (Ex.move rfl) rfl <| Lw.unit (Xu.stA (cs := [.slice none 0 0, .slice none 0 0]) rfl rfl rfl rfl rfl b_r rfl) ?_
  rintro w3 ⟨b_r, hg, -⟩
  have hB := hB.grown hg (below_size hB) (by rintro _ ⟨⟩; omega)
  refine Lw.val (Ex.assign rfl) rfl ?_
  refine Lw.nil (Pg.low ?_)
  refine Pg.thenN (Cg.out ?_)
  refine Cg.ret <| Pg.thenR <| Pg.close0 <| Pw.retCT rfl rfl rfl (by assumption) (Tryz.underlying29) rfl rfl rfl ?_
  exact ⟨hB, ansW_no g⟩
 intro g
 have e0 : poolE t.s wide = 0 := by simpa using g
 clear g
 rw [e0]
 have hm := hyes e0
 have ok := pool_ok k_t e0
 clear hno hyes e0 hE
 obtain ⟨m, rfl⟩ : ∃ m : Nat, wide = (m : Int) := ⟨wide.toNat, by have := ok.w; omega⟩
 obtain ⟨S, hS⟩ : ∃ S, S = pshS t.s (m : Int) := ⟨_, rfl⟩
 have lS : S.length = 3 := by rw [hS]; rfl
 have S0 : S.getD 0 default = t.s.getD 0 default := by rw [hS]; rfl
 have okS : Shapes.ok S = true := by rw [hS]; exact ok.ok
 have gS := ((Shapes.ok_iff _).1 okS).2.1
 rw [hm, ← hS] at hx
 rw [← hS]
 clear hm
 have szS := Shapes.size_le S
 obtain ⟨M, hM⟩ : ∃ M, M = (Shapes.size S).toNat := ⟨_, rfl⟩
 have l3 := ok.lt
 have okw := ok.w
 refine Cg.skip ?_
 refine Pg.thenN (Cg.out ?_)
 refine Cg.seq ?_
 have zW := below_size hB
 obtain ⟨B1, hB1⟩ : ∃ B1, B1 = w1.heap.size := ⟨_, rfl⟩
 have hxl := own_block hx
 have q_t : A_t < B1 := hB1 ▸ blk_lt b_t
 have q_s : A_s < B1 := hB1 ▸ blk_lt b_s
 have q_r : A_r < B1 := hB1 ▸ blk_lt b_r
 refine Cg.midS (St := Value × Nat × Nat) (fun z => [(2, .pointer (some ⟨A_t, 0, none⟩)), (3, .pointer (some ⟨A_s, 0, none⟩)), (4, .pointer (some ⟨A_r, 0, none⟩)), (6, x), (8, .pointer (some ⟨z.2.1, 0, none⟩)), (9, .pointer (some ⟨z.2.2, 0, none⟩))]) (fun z w' => Below w1.heap.size w1 w' ∧ w'.ownsRow B1 21 1 z.1 0 [] ∧ B1 ≤ z.2.1 ∧ Blk w' z.2.1 27 [z.1] ∧ B1 ≤ z.2.2 ∧ Blk w' z.2.2 131 [.func (.func 110) #[picV t] #[]]) ?_ ?_
 ·refine Cg.any mixed (by kernel_rfl) (fun w hcw _ => ?_)
  have b_t9 := b_t.bs hcw
  have h_t9 := h_t.bs hcw
  have hx9 := (own_slT hx).bs hcw
  have zc := hcw.size
  refine Aw.boxes ([.val, .val, .val, .val, .val, .val, .alloc 27 [.slice none 0 0], .alloc 131 [.nilFunc], .st 6 2, .st 7 5]) ([27, 131]) (winPh B1 x (M : Int) t (.func (.func 110) #[picV t] #[])) (by kernel_rfl) (by kernel_rfl) (fun i v w w' h g => winPh_bs h g) (fun i v w w' A T cs h hb _ hT g => winPh_by h hb hT g) ?_ ?_
  ·refine AllOps.cons (fun s w' hB0 hd => ⟨fun j g h => (by cases h), ?_⟩) ?_
   ·exact Ow.val (Ex.move rfl) ⟨Below.refl _ _, rfl⟩
   refine AllOps.cons (fun s w' hB0 hd => ⟨fun j g h => (by cases h), ?_⟩) ?_
   ·have e0 : s 0 = x := hd 0 (by decide) rfl
    refine Ow.call (Xc.mk (vs := [x]) (size_c x S w' (hx9.bs hB0)).1 (by show some [s 0] = _; rw [e0])) (size_c x S w' (hx9.bs hB0)) (fun v w2 ⟨e, hn⟩ => ⟨hn, ?_⟩)
    rw [e]; exact congrArg (Value.int .i64) (by omega)
   refine AllOps.cons (fun s w' hB0 hd => ⟨fun j g h => (by cases h), ?_⟩) ?_
   ·have e1 : s 1 = .int .i64 (M : Int) := hd 1 (by decide) rfl
    refine Ow.mk (Xw.make (l := 0) (c := M) st_27 it_21 rfl rfl (congrArg some e1) (Nat.zero_le _) (by omega) (by omega)) (fun v w2 ⟨ho, _, hn, _⟩ => ⟨hn, ?_⟩)
    exact own_mono (B' := B1) ho (by have := hB0.size; omega)
   refine AllOps.cons (fun s w' hB0 hd => ⟨fun j g h => (by cases h), ?_⟩) ?_
   ·exact Ow.val (Ex.ldA (k := 2) (ag_29 _) (sz_29 _) rfl rfl (b_t9.bs hB0)) ⟨Below.refl _ _, rfl⟩
   refine AllOps.cons (fun s w' hB0 hd => ⟨fun j g h => (by cases h), ?_⟩) ?_
   ·have e3 : s 3 = t.v := hd 3 (by decide) rfl
    exact Ow.call (Xc.mk (vs := [t.v]) (pof_c t w' (h_t9.bs hB0) (by omega)).1 (by show some [s 3] = _; rw [e3])) (pof_c t w' (h_t9.bs hB0) (by omega)) (fun v w2 ⟨e, hn⟩ => ⟨hn, e⟩)
   refine AllOps.cons (fun s w' hB0 hd => ⟨fun j g h => (by cases h), ?_⟩) ?_
   ·have e4 : s 4 = picV t := hd 4 (by decide) rfl
    exact Ow.val (Ex.mkFn (vs := [picV t]) (us := []) (by show some [s 4] = _; rw [e4]) rfl) ⟨Below.refl _ _, rfl⟩
   refine AllOps.cons (fun s w' hB0 hd => ⟨fun j g h => (by cases h), Ow.alloc it_27⟩) ?_
   refine AllOps.cons (fun s w' hB0 hd => ⟨fun j g h => (by cases h), Ow.alloc it_131⟩) ?_
   refine AllOps.cons (fun s w' hB0 hd => ⟨fun j g h => (by cases h), fun A hA _ hb hP => ?_⟩) ?_
   ·have ho : w'.ownsRow B1 21 1 (s 2) 0 [] := hP
    have h1 := (own_sl ho).one
    exact Ow.unit (Xu.stB (u := s 2) (sz_27 _) (congrArg some hA) rfl (own_sl ho).one' hb Nat.zero_lt_one) (fun w2 h => ⟨by rw [h1]; exact h.1, h.2.1⟩)
   refine AllOps.cons (fun s w' hB0 hd => ⟨fun j g h => (by cases h), fun A hA _ hb hP => ?_⟩) ?_
   ·have e5 : s 5 = .func (.func 110) #[picV t] #[] := hP
    exact Ow.unit (Xu.stB (u := s 5) (sz_131 _) (congrArg some hA) rfl (by rw [e5]; rfl) hb Nat.zero_lt_one) (fun w2 h => ⟨by rw [e5]; rw [e5] at h; exact h.1, h.2.1⟩)
   exact AllOps.nil
  intro s w' hB0 hall hbox _
  obtain ⟨A_o, hAo, l_o, b_o⟩ := box_at hbox 6 8 (by decide) rfl (by decide) rfl
  obtain ⟨A_g, hAg, l_g, b_g⟩ := box_at hbox 7 9 (by decide) rfl (by decide) rfl
  have ho : w'.ownsRow B1 21 1 (s 2) 0 [] := hall 2 (by decide) rfl
  have e5 : s 5 = .func (.func 110) #[picV t] #[] := hall 5 (by decide) rfl
  have h2 : (kdAt [.val, .val, .val, .val, .val, .val, .alloc 27 [.slice none 0 0], .alloc 131 [.nilFunc], .st 6 2, .st 7 5] 8).cells s = [s 2] := by show (s 2).cells.toList = _; rw [(own_sl ho).one]
  have h5 : (kdAt [.val, .val, .val, .val, .val, .val, .alloc 27 [.slice none 0 0], .alloc 131 [.nilFunc], .st 6 2, .st 7 5] 9).cells s = [.func (.func 110) #[picV t] #[]] := by show (s 5).cells.toList = _; rw [e5]; rfl
  rw [h2] at b_o
  rw [h5] at b_g
  have hcw := hcw.trans (hB0.mono hcw.size)
  refine Pg.low ?_

  exact Pg.midS ((s 2, A_o, A_g)) ⟨rfl, rfl, rfl, rfl, congrArg some hAo, congrArg some hAg, trivial⟩ (⟨hcw, ho, by show B1 ≤ A_o; omega, b_o, by show B1 ≤ A_g; omega, b_g⟩)
 rintro ⟨ov, A_o, A_g⟩ w ⟨hn, ho, l_o, b_o, l_g, b_g⟩
 dsimp only at ho l_o b_o l_g b_g ⊢
 refine Cg.out ?_
 replace hB := hB.bs hn
 replace h_t := h_t.bs hn
 replace b_t := b_t.bs hn
 replace b_s := b_s.bs hn
 replace b_r := b_r.bs hn
 replace hx := hx.bs hn
 clear hn
 have g0 := good_at gS (k := 0) (by omega)
 have g1 := good_at gS (k := 1) (by omega)
 have g2 := good_at gS (k := 2) (by omega)
 have t0 := good_at ok.gt (k := 0) (by omega)
 have t1 := good_at ok.gt (k := 1) (by omega)
 have t2 := good_at ok.gt (k := 2) (by omega)
 have mm : 1 * 1 ≤ (m : Int) * (m : Int) := Int.mul_le_mul okw.1 okw.1 (by decide) (by omega)
 have mm2 : (m : Int) * (m : Int) ≤ 64 * 64 := Int.mul_le_mul okw.2 okw.2 (by omega) (by decide)
 refine Cg.seq <| Cg.seq <| Cg.region (by kernel_rfl) <| Lw.val (Ex.move rfl) rfl <| Lw.callF rfl rfl (spots_c x S _ (own_slT hx)) ?_
 rintro _ w ⟨A_i, rfl, b_i, eA_i, hn⟩
 replace hB := hB.bs hn
 replace h_t := h_t.bs hn
 replace b_t := b_t.bs hn
 replace b_s := b_s.bs hn
 replace b_r := b_r.bs hn
 replace hx := hx.bs hn
 replace ho := ho.bs hn
 replace b_o := b_o.bs hn
 replace b_g := b_g.bs hn
 clear hn
 refine Lw.nil (Pg.low ?_)
 refine Pg.thenN (Cg.out ?_)
 refine Cg.block ?_
 rename World => w0
 have zB1 : B1 ≤ w0.heap.size := by have := blk_lt b_o; omega
 have zi := blk_lt b_i
 have zW0 := below_size hB
 have hxb := own_block hx
 refine Cg.range rfl (spots_sq A_i x S w0 b_i (own_slT hx) okS lS) (fun b hb => hb.elim (fun e => by rw [e]; exact zi) (fun e => (hxb b e).2)) (fun _ => rfl) (by kernel_rfl) (fun (pre : List (Nat)) w' => (∃ ov, Blk w' A_o 27 [ov] ∧ w'.ownsRow B1 21 1 ov pre.length ((pre.map (pooV t.l t.s S m)).map i32)) ∧ Blk w' A_g 131 [.func (.func 110) #[picV t] #[]] ∧ Blk w' A_i 26 [x] ∧ Below B1 w0 w') (by rintro _ ⟨⟩) ?_ ?_ ?_ ?_ ?_
 ·exact ⟨⟨ov, b_o, ho⟩, b_g, b_i, Below.refl _ _⟩
 ·rintro pre A A' ⟨⟨ov, h1, h2⟩, h3, h6, h5⟩ hc
  exact ⟨⟨ov, h1.nc hc, own_nc h2 hc⟩, h3.nc hc, h6.nc hc, h5.nc hc zB1 zB1⟩
 ·rintro pre A A' ⟨⟨ov, h1, h2⟩, h3, h6, h5⟩ hc
  have hc := itr_none hc
  exact ⟨⟨ov, h1.bs hc, own_bs h2 hc⟩, h3.bs hc, h6.bs hc, h5.trans (hc.mono (Nat.le_trans zB1 h5.size))⟩
 ·rintro lp pre i u hl ⟨⟨ov, b_o, ho⟩, b_g, b_i, hK⟩ hpre hrec
  obtain ⟨hi, hiM, -⟩ := range_pre hpre
  refine Cg.region (by kernel_rfl) <| Lw.boxed (cs := [.int .i64 (spc S i), .int .i64 (spy S i), .int .i64 (spx S i)]) it_138 rfl rfl rfl rfl (fun _ => rfl) (rfl) ?_
  rintro A_to u1 eA_to b_to hn1 zhn1
  refine Lw.nil (Pg.low ?_)
  refine Pg.asg ((KeepsFrom.refl _ _).bs hn1) (Kp.refl.bs hn1) ?_
  rintro w hn hz hrec
  have zu := blk_lt b_o
  have hK1 := hK.trans (hn1.mono (by omega))
  have hK := hK1.nc hn (by omega) zB1
  have ho := own_nc (own_bs ho hn1) hn
  have b_o := (b_o.bs hn1).nc hn
  have b_g := (b_g.bs hn1).nc hn
  have b_i := (b_i.bs hn1).nc hn
  have b_to := b_to.nc hn
  clear hK1 hn1 zu hn hz
  have b_s := b_s.bl hK (by omega)
  have hBw := hB.trans (hK.mono (by omega))
  have zK := hK.size
  have ci : 0 ≤ spc S i ∧ spc S i < S.getD 0 default := spc_in okS lS (by omega)
  have yi : 0 ≤ spy S i ∧ spy S i < S.getD 1 default := ⟨Int.emod_nonneg _ (by omega), Int.emod_lt_of_pos _ (by omega)⟩
  have xi2 : 0 ≤ spx S i ∧ spx S i < S.getD 2 default := ⟨Int.emod_nonneg _ (by omega), Int.emod_lt_of_pos _ (by omega)⟩
  have my : 0 ≤ spy S i * (m : Int) ∧ spy S i * (m : Int) ≤ 64 * 64 := ⟨Int.mul_nonneg yi.1 (by omega), Int.mul_le_mul (by omega) okw.2 (by omega) (by decide)⟩
  have mx' : 0 ≤ spx S i * (m : Int) ∧ spx S i * (m : Int) ≤ 64 * 64 := ⟨Int.mul_nonneg xi2.1 (by omega), Int.mul_le_mul (by omega) okw.2 (by omega) (by decide)⟩
  have tl : (spc S i + 1) * (t.s.getD 1 default * t.s.getD 2 default) ≤ t.l.length := by
   rw [ok.tl]
   exact Int.mul_le_mul_of_nonneg_right (by omega) (Int.mul_nonneg (by omega) (by omega))
  have h_ty := (h_t0.bs hBw).2
  have hob : ∀ b, ov.ownBlock = some b → B1 ≤ b ∧ b < w.heap.size := fun b e => own_block ho b e
  refine Cg.block <| Cg.seq <| Cg.region (by kernel_rfl) <| Lw.val (Ex.ldB (ag_131 _) rfl (by assumption) rfl) rfl ?_
  refine Lw.val (Ex.fieldAddr (q := 0) Tryz.underlying138 rfl (sz_3 _) rfl) rfl <| Lw.val (Ex.ldB (ag_3 _) rfl (by assumption) rfl) rfl ?_
  refine Lw.val (Ex.fieldAddr (q := 0) Tryz.underlying138 rfl (sz_3 _) rfl) rfl <| Lw.val (Ex.ldB (ag_3 _) rfl (by assumption) rfl) rfl ?_
  refine Lw.val (Ex.ldB (ag_3 _) rfl (by assumption) rfl) rfl ?_
  refine Lw.val (Ex.mulI rfl rfl (by omega)) rfl <| Lw.val (Ex.fieldAddr (q := 0) Tryz.underlying138 rfl (sz_3 _) rfl) rfl <| Lw.val (Ex.ldB (ag_3 _) rfl (by assumption) rfl) rfl ?_
  refine Lw.val (Ex.ldB (ag_3 _) rfl (by assumption) rfl) rfl ?_
  refine Lw.val (Ex.mulI rfl rfl (by omega)) rfl <| Lw.callV (p := [picV t]) (q := []) rfl rfl rfl (wat_c t (spc S i) (spy S i * (m : Int)) (spx S i * (m : Int)) _ h_ty (by omega) (by omega) (by omega) (by omega) (by omega) tl) ?_
  rintro _ w ⟨rfl, hn⟩
  replace ho := ho.bs hn
  replace b_o := b_o.bs hn
  replace b_g := b_g.bs hn
  replace b_i := b_i.bs hn
  replace b_to := b_to.bs hn
  replace b_s := b_s.bs hn
  replace h_ty := h_ty.bs hn
  have hK6 := hK.trans (hn.mono (by omega))
  have hKf := (KeepsFrom.refl w0.heap.size _).bs hn
  have hN1 := hn
  clear hn
  rw [show pic t.l (t.s.getD 1 default) (t.s.getD 2 default) (spc S i) (spy S i * (m : Int)) (spx S i * (m : Int)) = mx (pooF t.l t.s S m i) (pooF t.l t.s S m i 0) 0 by simp [mx, pooF]]
  refine Lw.val (Ex.assign rfl) rfl ?_
  refine Lw.nil (Pg.low ?_)
  refine Pg.thenN (Cg.out ?_)
  refine Cg.seq <| Cg.seq <| Cg.region (by kernel_rfl) <| Lw.val (Ex.ldB (ag_3 _) rfl (by assumption) rfl) rfl ?_
  refine Lw.val (Ex.ldB (ag_3 _) rfl (by assumption) rfl) rfl ?_
  refine Lw.val (Ex.mulI rfl rfl (by omega)) rfl <| Lw.val (Ex.move rfl) rfl ?_
  refine Lw.nil (Pg.low ?_)
  refine Pg.thenN (Cg.out ?_)
  refine Cg.block ?_
  rename World => w8
  refine Cg.loop (S := Nat) (fun k => [(3, .pointer (some ⟨A_s, 0, none⟩)), (8, .pointer (some ⟨A_o, 0, none⟩)), (9, .pointer (some ⟨A_g, 0, none⟩)), (10, .pointer (some ⟨A_to, 0, none⟩)), (11, i32 (mx (pooF t.l t.s S m i) (pooF t.l t.s S m i 0) k)), (51, .int .i64 ((m : Int) * (m : Int))), (52, .int .i64 (k : Int))]) (fun k w' => k ≤ m * m ∧ Below w8.heap.size w8 w') (fun k => m * m - k) (0) ⟨rfl, rfl, rfl, rfl, rfl, rfl, rfl, trivial⟩ ?_ ?_
  ·exact ⟨Nat.zero_le _, Below.refl _ _⟩
  rintro k w ⟨hk, hn⟩
  have mmc : ((m * m : Nat) : Int) = (m : Int) * (m : Int) := Int.natCast_mul m m
  refine Cg.seq <| Cg.region (by kernel_rfl) <| Lw.val (Ex.lss rfl rfl) rfl ?_
  refine Lw.nil (Pg.low ?_)
  refine Pg.thenN (Cg.out ?_)
  refine Cg.seq ?_
  refine Cg.cond rfl ?_ ?_
  ·intro h
   have hk' : k < m * m := by have := of_decide_eq_true h; omega
   have km : (0 : Int) ≤ ((k / m : Nat) : Int) ∧ ((k / m : Nat) : Int) < m := ⟨Int.natCast_nonneg _, by have := Nat.div_lt_of_lt_mul hk'; exact_mod_cast this⟩
   have kr : (0 : Int) ≤ ((k % m : Nat) : Int) ∧ ((k % m : Nat) : Int) < m := ⟨Int.natCast_nonneg _, by have := Nat.mod_lt k (show 0 < m by omega); exact_mod_cast this⟩
   obtain ⟨kd, hkd⟩ : ∃ d : Nat, d = k / m := ⟨_, rfl⟩
   obtain ⟨ke, hke⟩ : ∃ d : Nat, d = k % m := ⟨_, rfl⟩
   rw [← hkd] at km
   rw [← hke] at kr
   have eF : pic t.l (t.s.getD 1 default) (t.s.getD 2 default) (spc S i) (spy S i * (m : Int) + (kd : Int)) (spx S i * (m : Int) + (ke : Int)) = pooF t.l t.s S m i k := by rw [hkd, hke]; rfl
   replace ho := ho.bs hn
   replace b_o := b_o.bs hn
   replace b_g := b_g.bs hn
   replace b_i := b_i.bs hn
   replace b_to := b_to.bs hn
   replace b_s := b_s.bs hn
   replace h_ty := h_ty.bs hn
   refine Cg.skip ?_
   refine Pg.thenN (Cg.out ?_)
   refine Cg.seq <| Cg.block <| Cg.seq <| Cg.region (by kernel_rfl) <| Lw.val (Ex.move rfl) rfl <| Lw.val (Ex.assign rfl) rfl ?_
   refine Lw.nil (Pg.low ?_)
   refine Pg.thenN (Cg.out ?_)
   refine Cg.quiet mixed (by kernel_rfl) (by kernel_rfl) <| Qw.val (fun w1 hq => Ex.move rfl) rfl <| Qw.val (fun w1 hq => Ex.ldB (ag_131 _) rfl (Blk.bs (by assumption) hq) rfl) rfl ?_
   refine Qw.val (fun w1 hq => Ex.fieldAddr (q := 0) Tryz.underlying138 rfl (sz_3 _) rfl) rfl <| Qw.val (fun w1 hq => Ex.ldB (ag_3 _) rfl (Blk.bs (by assumption) hq) rfl) rfl ?_
   refine Qw.val (fun w1 hq => Ex.fieldAddr (q := 0) Tryz.underlying138 rfl (sz_3 _) rfl) rfl <| Qw.val (fun w1 hq => Ex.ldB (ag_3 _) rfl (Blk.bs (by assumption) hq) rfl) rfl ?_
   refine Qw.val (fun w1 hq => Ex.ldB (ag_3 _) rfl (Blk.bs (by assumption) hq) rfl) rfl ?_
   refine Qw.val (fun w1 hq => Ex.mulI rfl rfl (by omega)) rfl <| Qw.val (fun w1 hq => Ex.move rfl) rfl <| Qw.val (fun w1 hq => Ex.ldB (ag_3 _) rfl (Blk.bs (by assumption) hq) rfl) rfl ?_
   refine Qw.val (fun w1 hq => (Ex.quoI rfl rfl (by omega) (by omega)).as (congrArg (Value.int .i64) (show (k : Int) / (m : Int) = (kd : Int) by rw [hkd]; rfl))) rfl <| Qw.val (fun w1 hq => Ex.addI rfl rfl (by omega)) rfl <| Qw.val (fun w1 hq => Ex.fieldAddr (q := 0) Tryz.underlying138 rfl (sz_3 _) rfl) rfl <| Qw.val (fun w1 hq => Ex.ldB (ag_3 _) rfl (Blk.bs (by assumption) hq) rfl) rfl ?_
   refine Qw.val (fun w1 hq => Ex.ldB (ag_3 _) rfl (Blk.bs (by assumption) hq) rfl) rfl ?_
   refine Qw.val (fun w1 hq => Ex.mulI rfl rfl (by omega)) rfl <| Qw.val (fun w1 hq => Ex.move rfl) rfl <| Qw.val (fun w1 hq => Ex.ldB (ag_3 _) rfl (Blk.bs (by assumption) hq) rfl) rfl ?_
   refine Qw.val (fun w1 hq => (Ex.remI rfl rfl (by omega) (by omega)).as (congrArg (Value.int .i64) (show (k : Int) % (m : Int) = (ke : Int) by rw [hke]; rfl))) rfl <| Qw.val (fun w1 hq => Ex.addI rfl rfl (by omega)) rfl <| Qw.callV (p := [picV t]) (q := []) rfl rfl rfl (fun w1 hq => (wat_c t (spc S i) (spy S i * (m : Int) + (kd : Int)) (spx S i * (m : Int) + (ke : Int)) w1 (Sl.bs h_ty hq) (by omega) (by omega) (by omega) (by omega) (by omega) tl).q hq) <| Qw.val (fun w1 hq => (Ex.max2 rfl rfl).as (congrArg (Value.int .i32) (smax_int _ _).symm)) rfl <| Qw.val (fun w1 hq => Ex.assign rfl) rfl ?_
   refine Qw.nil (fun w9 hq => (Pg.low ?_))
   refine Pg.blkN ?_
   refine Pg.thenN (Cg.out ?_)
   refine Cg.region (by kernel_rfl) <| Lw.val (Ex.addI rfl rfl (by omega)) rfl <| Lw.val (Ex.move rfl) rfl ?_
   refine Lw.nil (Pg.low ?_)
   exact Pg.thenN (Pg.next (k + 1) ⟨rfl, rfl, rfl, rfl, congrArg (fun z => some (i32 (smax _ z))) eF, rfl, rfl, trivial⟩ (⟨hk', bt hn hq⟩) (by omega))
  intro h
  have hk' : k = m * m := by have := of_decide_eq_false h; omega
  subst hk'
  replace ho := ho.bs hn
  replace b_o := b_o.bs hn
  replace b_g := b_g.bs hn
  replace b_i := b_i.bs hn
  replace b_to := b_to.bs hn
  replace b_s := b_s.bs hn
  replace h_ty := h_ty.bs hn
  have hKf := hKf.bs hn
  have zu := hN1.size
  have zn := hn.size
  have hK7 := hK6.trans (hn.mono (by omega))
  have lM : pre.length < 4096 := by omega
  refine Cg.exit <| Pg.thenE <| Pg.thenE <| Pg.blkHit ?_
  refine Pg.thenN (Cg.out ?_)
  refine Cg.region (by kernel_rfl) <| Lw.val (Ex.ldB (ag_27 _) rfl (by assumption) rfl) rfl ?_
  refine Lw.val (Ex.move rfl) rfl <| Lw.valW (Xw.lit (vs := [pooV t.l t.s S m i].map i32) st_27 it_21 rfl rfl rfl rfl rfl) rfl ?_
  rintro z w5 ⟨hz, -, hn5, -⟩
  have b_o := b_o.bs hn5
  have b_g := b_g.bs hn5
  have b_i := b_i.bs hn5
  have ho := own_bs ho hn5
  have z5 := hn5.size
  refine Lw.valW (Xw.append (base := B1) st_27 it_21 rfl (by decide) rfl rfl ho (own_sl hz) (one_map (fun _ => rfl) _) (by omega) (by omega) (by omega)) rfl ?_
  rintro ov2 w6 ⟨ho6, hb6, hg6⟩
  rw [← List.map_append, ← List.map_singleton (f := pooV t.l t.s S m), ← List.map_append] at ho6
  have hne : ∀ {A T : Nat} {cs : List Value}, Blk w5 A T cs → 21 ≠ T → some A ≠ ov.ownBlock := fun h e => blk_own_ne ho h e
  have b_o6 := b_o.by hg6 (hne b_o (by decide))
  have b_g := b_g.by hg6 (hne b_g (by decide))
  have b_i6 := b_i.by hg6 (hne b_i (by decide))
  have hK6 : Below B1 w0 w6 := (hK7.trans (hn5.mono (by omega))).trans hb6
  refine Lw.unit (Xu.stB (u := ov2) (sz_27 _) rfl rfl (own_sl ho6).one' b_o6 Nat.zero_lt_one) ?_
  rintro w7 ⟨b_o7, hg7, -⟩
  have ho7 := own_apart ho6 b_o6 (by decide) hg7
  have b_g := b_g.by hg7 (fun e => blk_ne b_g b_o6 (by decide) (Option.some.inj e))
  have b_i7 := b_i6.by hg7 (fun e => blk_ne b_i6 b_o6 (by decide) (Option.some.inj e))
  have hK7 := hK6.grown hg7 (Nat.le_trans zB1 hK6.size) (by rintro _ ⟨⟩; omega)
  have el : (pre ++ [i]).length = pre.length + 1 := by simp
  refine Lw.nil (Pg.low ?_)
  refine Pg.blkN ?_
  exact Pg.rnd (((hKf.bs hn5).own ho hg6).blk b_o6 hg7) (((((Kp.refl.bs hN1).bs hn).bs hn5).grown hg6 (fun b e h => h.elim (fun h => hne b_i (by decide) (by rw [← h, e])) (fun h => by have := hxl b h; have := hob b e; omega))).grown hg7 (fun b e h => by cases e; exact h.elim (fun h => blk_ne b_i6 b_o6 (by decide) h.symm) (fun h => by have := hxl A_o h; omega))) (⟨⟨ov2, b_o7, by rw [el]; exact ho7⟩, b_g, b_i7, hK7⟩)
 rintro d w hd ⟨⟨ov, b_o, ho⟩, b_g, b_i, hK⟩ hD
 have eM : (List.range (Shapes.size S).toNat).length = M := by rw [List.length_range]; exact hM.symm
 have hx := own_heap hx (fun k e => hK.block k (by have := hxl k e; omega))
 have b_r := b_r.bl hK (by omega)
 have hB := hB.trans (hK.mono (by omega))
 have zK := hK.size
 have eL : (List.range (Shapes.size S).toNat).map (pooV t.l t.s S m) = wpoL t (m : Int) := by unfold wpoL pooL; rw [← hS, Int.toNat_natCast]
 rw [eL] at ho
 rw [List.length_range] at ho
 have lL : (wpoL t (m : Int)).length = (Shapes.size S).toNat := by rw [← eL]; simp
 rw [← lL] at ho
 have hox := own_block ho
 refine Pg.blkN ?_
 refine Pg.thenN (Cg.out ?_)
 refine Cg.seq <| Cg.region (by kernel_rfl) <| Lw.val (Ex.move rfl) rfl <| Lw.val (Ex.ldB (ag_27 _) rfl (by assumption) rfl) rfl ?_
 refine Lw.val (Ex.build (vs := [(0, x), (1, ov)]) (cs := [x, ov]) rfl (bt_ten _ _ (own_slT hx).one (own_slT ho).one)) rfl <| Lw.unit (Xu.stA (cs := [x, ov]) rfl rfl rfl rfl (by simp [(own_slT hx).one', (own_slT ho).one']) b_r rfl) ?_
 rintro w4 ⟨b_r4, hg, hz4⟩
 have hD := (hg.block d (Array.getElem?_eq_some_iff.1 hD).1 (by intro e; cases e; omega)).trans hD
 have hB := hB.grown hg (by omega) (by rintro _ ⟨⟩; omega)
 have ho := own_heap ho (fun k e => hg.block k (own_block ho k e).2 (by intro e2; have := hox k e; cases e2; omega))
 have hx := own_heap hx (fun k e => hg.block k (own_block hx k e).2 (by intro e2; cases e2; have := own_block hx _ e; omega))
 have zB := below_size hB
 refine Lw.val (Ex.assign rfl) rfl ?_
 refine Lw.nil (Pg.low ?_)
 refine Pg.thenN (Cg.out ?_)
 refine Cg.ret ?_
 refine Pg.close (hD) (fun w hn _ => ?_)
 have b_r := b_r4.nc hn
 have ho := own_nc ho hn
 have hx := own_nc hx hn
 have hB := hB.nc hn (by omega) (Nat.le_refl _)
 refine Pw.retCT rfl rfl rfl (by assumption) (Tryz.underlying29) rfl rfl rfl ?_
 exact ⟨hB, x, ov, rfl, fun h => absurd rfl h, fun _ => ⟨.inl (own_mono hx (by omega)), own_mono ho (by omega), fun k e1 e2 => by have := hox k e1; have := hxl k e2; omega⟩⟩
theorem wpo_c (t : T4) (wide : Int) (W : World) (h_t : t.at W) : Fnc Tryz.prog 81 [t.v, .int .i64 wide] W (fun r w' => Below W.heap.size W w' ∧ Gets W w' r (wpoE t wide) (pshS t.s wide) (wpoL t wide)) :=
 (wpo0_c t wide W h_t).mono fun _ _ ⟨h1, h2⟩ => ⟨h1, h2.gets⟩
end Go.Proofs.YtmipoeanpnnjoaaGreat
