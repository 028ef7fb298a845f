/- Contracts: number by number. -/
import Derived.Test.YtkhndfaampkbnaaTensorsCode
namespace Go.Proofs.Ytkhndfaampkbnaa
open Go Go.Dd Go.RowKit

/-- What comes of them: the number of the error, or the numbers. -/
def ofE (ts : List T4) (s0 : List Int) : Int := if ts.all (·.ok) then (if ts.all (fun t => decide (t.s = s0)) then 0 else 10) else 1
def ofL {α : Type} (enc : BitVec 32 → α) (g : List α → BitVec 32) (ts : List T4) (n : Nat) : List (BitVec 32) := (List.range n).map fun i => g (ts.map fun t => enc (t.l.getD i default))

theorem of32_c (ts : List T4) (v : Value) (t0 : T4) (f : FuncId) (q : List Value) (g : List (BitVec 32) → BitVec 32) (W : World) (h0 : ts[0]? = some t0) (hk : ts.length ≤ 1000) (hv : Sl W 2 v ts.length (cellsOf ts)) (hts : ∀ t ∈ ts, t.at W)
    (hdo : ∀ (w : World) (u : Value) (xs : List (BitVec 32)), Below W.heap.size W w → SlT i32 w u xs → xs.length = ts.length → Fnc Try.prog f (u :: q) w (fun r w' => r = i32 (g xs) ∧ Below w.heap.size w w')) :
    Fnc Try.prog 42 [.agg #[.func (.func f) #[] q.toArray], v] W (fun r w' => Below W.heap.size W w' ∧ ∃ x y, r = .tuple #[.agg #[x, y], .int .i64 (ofE ts t0.s)] ∧ (ofE ts t0.s ≠ 0 → x = .slice none 0 0 ∧ y = .slice none 0 0) ∧ (ofE ts t0.s = 0 → Made1 W w' x y t0.s (ofL id g ts (Shapes.size t0.s).toNat))) := by
  have hpos : 0 < ts.length := by
    cases ts with
    | nil => cases h0
    | cons => simp
  have hvs : ∃ ad c k, v = .slice (some ad) c k := by
    obtain ⟨_, ao, cap, rfl, h1, h2, h3, h4⟩ := hv
    cases ao with
    | none => have := h3 rfl; omega
    | some ad => exact ⟨ad, _, _, rfl⟩
  refine Fnc.enter (n := 84) Try.func42 (by kernel_rfl) rfl rfl rfl ?_
  refine Cw.seq ?_
  refine Cw.region ?_
  refine Lw.valW (Xw.box (cs := [.func (.func f) #[] q.toArray]) rfl rfl) rfl ?_
  rintro _ w1 ⟨rfl, hb2, hB1, hs1⟩
  refine Lw.valW (Xw.new it_25) rfl ?_
  rintro _ w2 ⟨rfl, hb4, hw2, hs2⟩
  have hB2 := bt hB1 hw2
  have hb2 := hb2.bs hw2
  refine Lw.val (Ex.assign rfl) rfl ?_
  refine Lw.nil ?_
  refine Pw.thenN (Cw.out ?_)
  refine Cw.seq ?_
  refine Cw.seq ?_
  refine Cw.region ?_
  refine Lw.val (Ex.move rfl) rfl ?_
  refine Lw.val (Ex.lenS (sz := 2) st_35 rfl (hv.bs hB2)) rfl ?_
  refine Lw.val (Ex.move rfl) rfl ?_
  refine Lw.nil ?_
  refine Pw.thenN (Cw.out ?_)
  refine Cw.block ?_
  refine Cw.loop (S := Nat) (fun i => [(1, v), (2, .pointer (some ⟨W.heap.size, 0, none⟩)), (4, .pointer (some ⟨w1.heap.size, 0, none⟩)), (5, .int .i64 0), (16, v), (17, .int .i64 (ts.length : Int)), (18, .int .i64 (i : Int))]) (fun i w' => i ≤ ts.length ∧ (∀ t ∈ ts.take i, t.ok = true) ∧ Below w2.heap.size w2 w') (fun i => ts.length - i) (0) ⟨rfl, rfl, rfl, rfl, rfl, rfl, rfl, trivial⟩ ?_ ?_
  · exact ⟨by omega, by simp, Below.refl _ _⟩
  rintro i w3 ⟨hi, hall, hw3⟩
  have hB3 := bt hB2 hw3
  refine Cw.seq ?_
  refine Cw.region ?_
  refine Lw.val (Ex.lss rfl rfl) rfl ?_
  refine Lw.nil ?_
  refine Pw.thenN (Cw.out ?_)
  refine Cw.seq ?_
  refine Cw.cond rfl ?_ ?_
  · intro h
    have hi' : i < ts.length := by simp at h; omega
    obtain ⟨c1, c2⟩ := cells_at hi'
    have hv3 := hv.bs hB3
    refine Cw.skip ?_
    refine Pw.thenN (Cw.out ?_)
    refine Cw.seq ?_
    refine Cw.block ?_
    refine Cw.seq ?_
    refine Cw.region ?_
    refine Lw.val (Ex.idx st_35 rfl rfl hv3 i rfl hi') rfl ?_
    refine Lw.val (Ex.ldE (cs := [ts[i].x, ts[i].y]) (ag_25 _) (sz_25 _) rfl hv3 rfl (by decide) (fun j hj => by rcases (show j = 0 ∨ j = 1 by omega) with rfl | rfl; exact ⟨_, rfl, c1⟩; exact ⟨_, rfl, c2⟩)) rfl ?_
    refine Lw.valW (Xw.new it_25) rfl ?_
    rintro _ w4 ⟨rfl, hb7, hw4, hs4⟩
    refine Lw.unit (Xu.stA (cs := [ts[i].x, ts[i].y]) rfl rfl rfl rfl (by have := (hts _ (List.getElem_mem hi')); simp [this.1.one', this.2.one']) hb7 rfl) ?_
    rintro w5 ⟨hb7, hg5, hs5⟩
    have hw5 : Below w3.heap.size w3 w5 := hw4.grown hg5 (below_size hw4) (by rintro _ ⟨⟩; exact Nat.le_refl _)
    have hB5 := bt hB3 hw5
    have hat := (hts _ (List.getElem_mem hi')).bs hB5
    refine Lw.nil ?_
    refine Pw.thenN (Cw.out ?_)
    refine Cw.seq ?_
    refine Cw.region ?_
    refine Lw.val (Ex.ldA (ag_25 _) (sz_25 _) rfl rfl (by assumption)) rfl ?_
    refine Lw.callF rfl rfl (tcheck_c ts[i].x ts[i].y ts[i].s ts[i].l w5 hat.1 hat.2) ?_
    rintro _ w6 ⟨rfl, hw6⟩
    have hw6' := bt hw3 (bt hw5 hw6)
    refine Lw.val (Ex.not rfl) rfl ?_
    refine Lw.nil ?_
    refine Pw.thenN (Cw.out ?_)
    refine Cw.cond rfl ?_ ?_
    · intro h
      have hno : ts[i].ok = false := by simpa [T4.ok] using h
      have hb4' := hb4.bs hw6'
      refine Cw.seq ?_
      refine Cw.region ?_
      refine Lw.val (Ex.build (vs := []) (cs := [.slice none 0 0, .slice none 0 0]) rfl (by kernel_rfl)) rfl ?_
      refine Lw.unit (Xu.stA (cs := [.slice none 0 0, .slice none 0 0]) rfl rfl rfl rfl rfl hb4' rfl) ?_
      rintro w7 ⟨hb7', hg7, -⟩
      have hB6 := bt hB2 hw6'
      have hB7 : Below W.heap.size W w7 := hB6.grown hg7 (below_size hB6) (by rintro _ ⟨⟩; omega)
      have he : ofE ts t0.s = 1 := by
        unfold ofE
        rw [if_neg]
        intro ha
        rw [List.all_eq_true.1 ha _ (List.getElem_mem hi')] at hno
        cases hno
      refine Lw.val (Ex.assign rfl) rfl ?_
      refine Lw.nil ?_
      refine Pw.thenN (Cw.out ?_)
      refine Cw.ret ?_
      refine Pw.blkR ?_
      refine Pw.thenR ?_
      refine Pw.thenR ?_
      refine Pw.blkR ?_
      refine Pw.thenR ?_
      refine Pw.retCT rfl rfl rfl (by assumption) (Try.underlying25) rfl rfl rfl ?_
      exact ⟨hB7, _, _, by rw [he], fun _ => ⟨rfl, rfl⟩, fun h => by rw [he] at h; cases h⟩
    · intro h
      have hyes : ts[i].ok = true := by simpa [T4.ok] using h
      have hall' : ∀ t ∈ ts.take (i + 1), t.ok = true := fun t ht => by
        rw [List.take_succ_eq_append_getElem hi'] at ht
        rcases List.mem_append.1 ht with h | h
        · exact hall t h
        · rw [List.mem_singleton.1 h]; exact hyes
      refine Cw.skip ?_
      refine Pw.blkN ?_
      refine Pw.thenN (Cw.out ?_)
      refine Cw.region ?_
      refine Lw.val (Ex.addI rfl rfl (by omega)) rfl ?_
      refine Lw.val (Ex.move rfl) rfl ?_
      refine Lw.nil ?_
      exact Pw.thenN (Pw.next (i + 1) ⟨rfl, rfl, rfl, rfl, rfl, rfl, rfl, trivial⟩ (⟨hi', hall', hw6'⟩) (by omega))
  intro h
  have hi' : i = ts.length := by simp at h; omega
  subst hi'
  rw [List.take_length] at hall
  obtain ⟨c1, c2⟩ := cells_at hpos
  have h00 : ts[0] = t0 := by rw [List.getElem?_eq_getElem hpos] at h0; exact Option.some.inj h0
  rw [h00] at c1 c2
  have hm0 : t0 ∈ ts := h00 ▸ List.getElem_mem hpos
  have hv3 := hv.bs hB3
  have ht0 := (hts t0 hm0).bs hB3
  have hok0 : Shapes.ok t0.s = true := by
    have := hall t0 hm0
    simp only [T4.ok, tok, Bool.and_eq_true] at this
    exact this.1
  have hsz := Shapes.size_le t0.s
  refine Cw.exit ?_
  refine Pw.thenE ?_
  refine Pw.thenE ?_
  refine Pw.blkHit ?_
  refine Pw.thenN (Cw.out ?_)
  refine Cw.seq ?_
  refine Cw.region ?_
  refine Lw.val (Ex.move rfl) rfl ?_
  refine Lw.val (Ex.idx st_35 rfl rfl hv3 0 rfl hpos) rfl ?_
  refine Lw.val (Ex.fieldAddrE Try.underlying25 rfl (sz_22 _) rfl hvs) rfl ?_
  refine Lw.val (Ex.ld (ag_22 _) rfl hv3 c1) rfl ?_
  refine Lw.callF rfl rfl (new_c t0.x t0.s w3 ht0.1) ?_
  rintro r w4 ⟨hw4, hcase⟩
  obtain ⟨x, y, rfl, hm⟩ : ∃ x y, r = .tuple #[.agg #[x, y], .int .i64 0] ∧ Made1 w3 w4 x y t0.s (List.replicate (Shapes.size t0.s).toNat 0#32) := by
    rcases hcase with ⟨_, h⟩ | ⟨h, _⟩
    · exact h
    · rw [hok0] at h; cases h
  have hB4 := bt hB3 hw4
  refine Lw.val (Ex.move rfl) rfl ?_
  refine Lw.val (Ex.extract (i := 0) rfl rfl) rfl ?_
  refine Lw.val (Ex.extract (i := 1) rfl rfl) rfl ?_
  refine Lw.valW (Xw.new it_25) rfl ?_
  rintro _ w5 ⟨rfl, hb8, hw5, hs5⟩
  have hm5 := hm.bs hw5
  refine Lw.unit (Xu.stA (cs := [x, y]) rfl rfl rfl rfl (by simp [hm.sh.one', (own_sl hm.own).one']) hb8 rfl) ?_
  rintro w6 ⟨hb8, hg6, hs6⟩
  have hw6 : Below w4.heap.size w4 w6 := hw5.grown hg6 (below_size hw5) (by rintro _ ⟨⟩; exact Nat.le_refl _)
  have hm6 := hm.bs hw6
  have hB6 := bt hB4 hw6
  have hw26 : Below w2.heap.size w2 w6 := bt hw3 (bt hw4 hw6)
  clear hm5 hw5 hg6
  refine Lw.val (Ex.assign rfl) rfl ?_
  refine Lw.nil ?_
  refine Pw.thenN (Cw.out ?_)
  refine Cw.seq ?_
  refine Cw.seq ?_
  refine Cw.region ?_
  refine Lw.val (Ex.move rfl) rfl ?_
  refine Lw.val (Ex.lenS (sz := 2) st_35 rfl (hv.bs hB6)) rfl ?_
  refine Lw.val (Ex.move rfl) rfl ?_
  refine Lw.nil ?_
  refine Pw.thenN (Cw.out ?_)
  refine Cw.block ?_
  refine Cw.loop (S := Nat) (fun i => [(1, v), (2, .pointer (some ⟨W.heap.size, 0, none⟩)), (4, .pointer (some ⟨w1.heap.size, 0, none⟩)), (5, .int .i64 0), (8, .pointer (some ⟨w4.heap.size, 0, none⟩)), (35, v), (36, .int .i64 (ts.length : Int)), (37, .int .i64 (i : Int))]) (fun i w' => i ≤ ts.length ∧ (∀ t ∈ ts.take i, t.s = t0.s) ∧ Below w6.heap.size w6 w') (fun i => ts.length - i) (0) ⟨rfl, rfl, rfl, rfl, rfl, rfl, rfl, rfl, trivial⟩ ?_ ?_
  · exact ⟨by omega, by simp, Below.refl _ _⟩
  rintro i w7 ⟨hi, hsame, hw7⟩
  have hB7 := bt hB6 hw7
  refine Cw.seq ?_
  refine Cw.region ?_
  refine Lw.val (Ex.lss rfl rfl) rfl ?_
  refine Lw.nil ?_
  refine Pw.thenN (Cw.out ?_)
  refine Cw.seq ?_
  refine Cw.cond rfl ?_ ?_
  · intro h
    have hi' : i < ts.length := by simp at h; omega
    obtain ⟨c1, c2⟩ := cells_at hi'
    have hv7 := hv.bs hB7
    refine Cw.skip ?_
    refine Pw.thenN (Cw.out ?_)
    refine Cw.seq ?_
    refine Cw.block ?_
    refine Cw.seq ?_
    refine Cw.region ?_
    refine Lw.val (Ex.idx st_35 rfl rfl hv7 i rfl hi') rfl ?_
    refine Lw.val (Ex.ldE (cs := [ts[i].x, ts[i].y]) (ag_25 _) (sz_25 _) rfl hv7 rfl (by decide) (fun j hj => by rcases (show j = 0 ∨ j = 1 by omega) with rfl | rfl; exact ⟨_, rfl, c1⟩; exact ⟨_, rfl, c2⟩)) rfl ?_
    refine Lw.valW (Xw.new it_25) rfl ?_
    rintro _ w8 ⟨rfl, hb11, hw8, hs8⟩
    refine Lw.unit (Xu.stA (cs := [ts[i].x, ts[i].y]) rfl rfl rfl rfl (by have := (hts _ (List.getElem_mem hi')); simp [this.1.one', this.2.one']) hb11 rfl) ?_
    rintro w9 ⟨hb11, hg9, hs9⟩
    have hw9 : Below w7.heap.size w7 w9 := hw8.grown hg9 (below_size hw8) (by rintro _ ⟨⟩; exact Nat.le_refl _)
    have hB9 := bt hB7 hw9
    have hw69 := bt hw7 hw9
    have hat := (hts _ (List.getElem_mem hi')).bs hB9
    have hb8' := hb8.bs hw69
    have hm9 := hm6.bs hw69
    refine Lw.nil ?_
    refine Pw.thenN (Cw.out ?_)
    refine Cw.seq ?_
    refine Cw.region ?_
    refine Lw.val (Ex.fieldAddr (q := 0) Try.underlying25 rfl (sz_22 _) rfl) rfl ?_
    refine Lw.val (Ex.ldB (ag_22 _) rfl (by assumption) rfl) rfl ?_
    refine Lw.val (Ex.fieldAddr (q := 0) Try.underlying25 rfl (sz_22 _) rfl) rfl ?_
    refine Lw.val (Ex.ldB (ag_22 _) rfl (by assumption) rfl) rfl ?_
    refine Lw.callF rfl rfl (equalInts_c ts[i].x x ts[i].s t0.s w9 hat.1 hm9.sh) ?_
    rintro _ w10 ⟨rfl, hw10⟩
    have hw6a := bt hw69 hw10
    refine Lw.val (Ex.not rfl) rfl ?_
    refine Lw.nil ?_
    refine Pw.thenN (Cw.out ?_)
    refine Cw.cond rfl ?_ ?_
    · intro h
      have hno : ¬ ts[i].s = t0.s := by simpa using h
      have hb4' := (hb4.bs hw26).bs hw6a
      have hB10 := bt hB6 hw6a
      refine Cw.seq ?_
      refine Cw.region ?_
      refine Lw.val (Ex.build (vs := []) (cs := [.slice none 0 0, .slice none 0 0]) rfl (by kernel_rfl)) rfl ?_
      refine Lw.unit (Xu.stA (cs := [.slice none 0 0, .slice none 0 0]) rfl rfl rfl rfl rfl hb4' rfl) ?_
      rintro w11 ⟨hb4', hg11, -⟩
      have hB11 : Below W.heap.size W w11 := hB10.grown hg11 (below_size hB10) (by rintro _ ⟨⟩; omega)
      have he : ofE ts t0.s = 10 := by
        unfold ofE
        rw [if_pos (List.all_eq_true.2 hall), if_neg]
        intro ha
        exact hno (of_decide_eq_true (List.all_eq_true.1 ha _ (List.getElem_mem hi')))
      refine Lw.val (Ex.assign rfl) rfl ?_
      refine Lw.nil ?_
      refine Pw.thenN (Cw.out ?_)
      refine Cw.ret ?_
      refine Pw.blkR ?_
      refine Pw.thenR ?_
      refine Pw.thenR ?_
      refine Pw.blkR ?_
      refine Pw.thenR ?_
      refine Pw.retCT rfl rfl rfl (by assumption) (Try.underlying25) rfl rfl rfl ?_
      exact ⟨hB11, _, _, by rw [he], fun _ => ⟨rfl, rfl⟩, fun h => by rw [he] at h; cases h⟩
    · intro h
      have hyes : ts[i].s = t0.s := by simpa using h
      have hsame' : ∀ t ∈ ts.take (i + 1), t.s = t0.s := fun t ht => by
        rw [List.take_succ_eq_append_getElem hi'] at ht
        rcases List.mem_append.1 ht with h | h
        · exact hsame t h
        · rw [List.mem_singleton.1 h]; exact hyes
      refine Cw.skip ?_
      refine Pw.blkN ?_
      refine Pw.thenN (Cw.out ?_)
      refine Cw.region ?_
      refine Lw.val (Ex.addI rfl rfl (by omega)) rfl ?_
      refine Lw.val (Ex.move rfl) rfl ?_
      refine Lw.nil ?_
      exact Pw.thenN (Pw.next (i + 1) ⟨rfl, rfl, rfl, rfl, rfl, rfl, rfl, rfl, trivial⟩ (⟨hi', hsame', hw6a⟩) (by omega))
  intro h
  have hi' : i = ts.length := by simp at h; omega
  subst hi'
  rw [List.take_length] at hsame
  have he : ofE ts t0.s = 0 := by
    unfold ofE
    rw [if_pos (List.all_eq_true.2 hall), if_pos (List.all_eq_true.2 fun t ht => decide_eq_true (hsame t ht))]
  obtain ⟨N, hN⟩ : ∃ N, N = (Shapes.size t0.s).toNat := ⟨_, rfl⟩
  obtain ⟨K, hK⟩ : ∃ K, K = ts.length := ⟨_, rfl⟩
  have hlen : ∀ t ∈ ts, t.l.length = N := fun t ht => by
    have := hall t ht
    simp only [T4.ok, tok, Bool.and_eq_true, decide_eq_true_eq] at this
    rw [hsame t ht] at this
    omega
  have z3 := hB3.size
  have z23 := hw3.size
  have z34 := hw4.size
  have z67 := (bt hw6 hw7).size
  rw [← hN] at hm6 hm
  have hmA := hm6.bs hw7
  have hyb : ∀ b, y.ownBlock = some b → w3.heap.size ≤ b ∧ b < w4.heap.size := own_block hm.own
  have facts : ∀ w', w7.grownBy w' y.ownBlock → Below W.heap.size W w' ∧ Blk w' W.heap.size 66 [.func (.func f) #[] q.toArray] ∧ Blk w' w1.heap.size 25 [.slice none 0 0, .slice none 0 0] ∧ Blk w' w4.heap.size 25 [x, y] ∧ KRow w' w3.heap.size 3 1 x t0.s.length (t0.s.map (Value.int .i64)) := fun w' hg =>
    ⟨hB7.grown hg (below_size hB7) (fun b hb => by have := (hyb b hb).1; omega),
     ((hb2.bs hw26).bs hw7).by hg (fun h => by have := (hyb _ h.symm).1; omega),
     ((hb4.bs hw26).bs hw7).by hg (fun h => by have := (hyb _ h.symm).1; omega),
     (hb8.bs hw7).by hg (fun h => by have := (hyb _ h.symm).2; omega),
     hmA.row.by' hg (by
      cases hx : x.ownBlock with
      | none => exact .inl rfl
      | some b => exact .inr fun h => hmA.apart b h.symm hx)⟩
  have hownA : w7.ownsRow w3.heap.size 21 1 y N ((ofL id g ts 0 ++ List.replicate (N - 0) 0#32).map i32) := by
    have := hmA.own
    rw [List.length_replicate] at this
    exact this
  rw [← hK]
  refine Cw.exit ?_
  refine Pw.thenE ?_
  refine Pw.thenE ?_
  refine Pw.blkHit ?_
  refine Pw.thenN (Cw.out ?_)
  refine Cw.seq ?_
  refine Cw.region ?_
  refine Lw.val (Ex.move rfl) rfl ?_
  refine Lw.val (Ex.lenS (sz := 2) st_35 rfl (hv.bs hB7)) rfl ?_
  refine Lw.valW (Xw.make st_23 it_21 rfl rfl rfl (Nat.le_refl _) (by omega) (by omega)) rfl ?_
  rintro sv w8 ⟨ho8, hsv, hw8, hs8⟩
  have hg8 : w7.grownBy w8 y.ownBlock := below_grown hw8 _
  obtain ⟨f1, f2, f4, f8, fx⟩ := facts w8 hg8
  have hy8 := own_bs hownA hw8
  have hyT := own_slT hy8
  refine Lw.val (Ex.assign rfl) rfl ?_
  refine Lw.nil ?_
  refine Pw.thenN (Cw.out ?_)
  refine Cw.seq ?_
  refine Cw.seq ?_
  refine Cw.region ?_
  refine Lw.val (Ex.fieldAddr (q := 0) Try.underlying25 rfl (sz_23 _) rfl) rfl ?_
  refine Lw.val (Ex.ldB (ag_23 _) rfl (by assumption) rfl) rfl ?_
  refine Lw.val (Ex.lenS st_23 rfl (by assumption)) rfl ?_
  refine Lw.val (Ex.move rfl) rfl ?_
  refine Lw.nil ?_
  refine Pw.thenN (Cw.out ?_)
  refine Cw.block ?_
  have hlen0 : (ofL id g ts 0 ++ List.replicate (N - 0) 0#32).length = N := by simp [ofL]
  refine Cw.know 54 (v' := .int .i64 (N : Int)) rfl (congrArg (Value.int .i64) (by rw [hlen0])) ?_
  have hrep : ∃ rest : List (BitVec 32), rest.length = K ∧ w8.ownsRow w7.heap.size 21 1 sv K (rest.map i32) := by
    refine ⟨List.replicate K 0#32, by simp, ?_⟩
    have e : (List.replicate K [Value.int .i32 0]).flatten = (List.replicate K 0#32).map i32 := by
      clear ho8 hsv hk
      generalize K = K
      induction K with
      | zero => rfl
      | succ n ih => simp [List.replicate_succ, i32]
    rw [← e]; rw [← hK] at ho8; exact ho8
  have hsvb : sv.ownBlock = some w7.heap.size := by rw [hsv]; rfl
  refine Cw.loop (S := Nat) (fun i => [(1, v), (2, .pointer (some ⟨W.heap.size, 0, none⟩)), (4, .pointer (some ⟨w1.heap.size, 0, none⟩)), (5, .int .i64 0), (8, .pointer (some ⟨w4.heap.size, 0, none⟩)), (12, sv), (54, .int .i64 (N : Int)), (55, .int .i64 (i : Int))]) (fun i w' => i ≤ N ∧ w7.grownBy w' y.ownBlock ∧ w'.ownsRow w3.heap.size 21 1 y N ((ofL id g ts i ++ List.replicate (N - i) 0#32).map i32) ∧ (∃ rest : List (BitVec 32), rest.length = K ∧ w'.ownsRow w7.heap.size 21 1 sv K (rest.map i32))) (fun i => N - i) (0) ⟨rfl, rfl, rfl, rfl, rfl, rfl, rfl, rfl, trivial⟩ ?_ ?_
  · exact ⟨by omega, hg8, hy8, hrep⟩
  clear ho8 hy8 hyT hrep f1 f2 f4 f8 fx hw8
  rintro i w9 ⟨hi, hg9, hy9, rest9, hr9, hs9⟩
  obtain ⟨f1, f2, f4, f8, fx⟩ := facts w9 hg9
  refine Cw.seq ?_
  refine Cw.region ?_
  refine Lw.val (Ex.lss rfl rfl) rfl ?_
  refine Lw.nil ?_
  refine Pw.thenN (Cw.out ?_)
  refine Cw.seq ?_
  refine Cw.cond rfl ?_ ?_
  · intro h
    have hi' : i < N := by simp at h; omega
    refine Cw.skip ?_
    refine Pw.thenN (Cw.out ?_)
    refine Cw.seq ?_
    refine Cw.block ?_
    refine Cw.seq ?_
    refine Cw.region ?_
    refine Lw.val (Ex.move rfl) rfl ?_
    refine Lw.val (Ex.assign rfl) rfl ?_
    refine Lw.nil ?_
    refine Pw.thenN (Cw.out ?_)
    refine Cw.seq ?_
    refine Cw.seq ?_
    refine Cw.region ?_
    refine Lw.val (Ex.move rfl) rfl ?_
    refine Lw.val (Ex.lenS (sz := 2) st_35 rfl (hv.bs f1)) rfl ?_
    refine Lw.val (Ex.move rfl) rfl ?_
    refine Lw.nil ?_
    refine Pw.thenN (Cw.out ?_)
    refine Cw.block ?_
    refine Cw.know 59 (v' := .int .i64 (K : Int)) rfl (by rw [hK]) ?_
    refine Cw.loop (S := Nat) (fun k => [(1, v), (2, .pointer (some ⟨W.heap.size, 0, none⟩)), (4, .pointer (some ⟨w1.heap.size, 0, none⟩)), (5, .int .i64 0), (8, .pointer (some ⟨w4.heap.size, 0, none⟩)), (12, sv), (13, .int .i64 (i : Int)), (54, .int .i64 (N : Int)), (55, .int .i64 (i : Int)), (58, v), (59, .int .i64 (K : Int)), (60, .int .i64 (k : Int))]) (fun k w' => k ≤ K ∧ w7.grownBy w' y.ownBlock ∧ w'.ownsRow w3.heap.size 21 1 y N ((ofL id g ts i ++ List.replicate (N - i) 0#32).map i32) ∧ (∃ rest : List (BitVec 32), rest.length = K ∧ rest.take k = (ts.take k).map (fun t => t.l.getD i default) ∧ w'.ownsRow w7.heap.size 21 1 sv K (rest.map i32))) (fun k => K - k) (0) ⟨rfl, rfl, rfl, rfl, rfl, rfl, rfl, rfl, rfl, rfl, rfl, rfl, trivial⟩ ?_ ?_
    · exact ⟨by omega, hg9, hy9, rest9, hr9, by simp, hs9⟩
    clear hr9 hs9 hy9 hg9 f1 f2 f4 f8 fx
    rintro k w10 ⟨hkK, hg10, hy10, rest10, hr10, ht10, hs10⟩
    obtain ⟨f1, f2, f4, f8, fx⟩ := facts w10 hg10
    refine Cw.seq ?_
    refine Cw.region ?_
    refine Lw.val (Ex.lss rfl rfl) rfl ?_
    refine Lw.nil ?_
    refine Pw.thenN (Cw.out ?_)
    refine Cw.seq ?_
    refine Cw.cond rfl ?_ ?_
    · intro h
      have hk' : k < K := by simp at h; omega
      have hk'' : k < ts.length := by omega
      obtain ⟨c1, c2⟩ := cells_at hk''
      have hv10 := hv.bs f1
      refine Cw.skip ?_
      refine Pw.thenN (Cw.out ?_)
      refine Cw.seq ?_
      refine Cw.block ?_
      refine Cw.seq ?_
      refine Cw.region ?_
      refine Lw.val (Ex.move rfl) rfl ?_
      refine Lw.val (Ex.idx st_35 rfl rfl hv10 k rfl hk'') rfl ?_
      refine Lw.val (Ex.ldE (cs := [ts[k].x, ts[k].y]) (ag_25 _) (sz_25 _) rfl hv10 rfl (by decide) (fun j hj => by rcases (show j = 0 ∨ j = 1 by omega) with rfl | rfl; exact ⟨_, rfl, c1⟩; exact ⟨_, rfl, c2⟩)) rfl ?_
      refine Lw.valW (Xw.new it_25) rfl ?_
      rintro _ w11 ⟨rfl, hb15, hw11, hs11⟩
      refine Lw.val (Ex.assign rfl) rfl ?_
      refine Lw.unit (Xu.stA (cs := [ts[k].x, ts[k].y]) rfl rfl rfl rfl (by have := (hts _ (List.getElem_mem hk'')); simp [this.1.one', this.2.one']) hb15 rfl) ?_
      rintro w12 ⟨hb15, hg12, hs12⟩
      have hw12 : Below w10.heap.size w10 w12 := hw11.grown hg12 (below_size hw11) (by rintro _ ⟨⟩; exact Nat.le_refl _)
      have hB12 := bt f1 hw12
      have hat := (hts _ (List.getElem_mem hk'')).bs hB12
      have haty := hat.2
      have hsT := own_slT (own_bs hs10 hw12)
      have hly : ts[k].l.length = N := hlen _ (List.getElem_mem hk'')
      refine Lw.nil ?_
      refine Pw.thenN (Cw.out ?_)
      refine Cw.region ?_
      refine Lw.val (Ex.move rfl) rfl ?_
      refine Lw.val (Ex.move rfl) rfl ?_
      refine Lw.val (Ex.fieldAddr (q := 0) Try.underlying25 rfl (sz_23 _) rfl) rfl ?_
      refine Lw.val (Ex.ldB (ag_23 _) rfl (by assumption) rfl) rfl ?_
      refine Lw.val (Ex.move rfl) rfl ?_
      refine Lw.val (Ex.idxT st_23 rfl rfl (by assumption) _ rfl (by omega)) rfl ?_
      refine Lw.val (Ex.ldT (ag_21 _) rfl (by assumption) (by omega)) rfl ?_
      refine Lw.val (Ex.idxT st_23 rfl rfl (by assumption) _ rfl (by omega)) rfl ?_
      refine Lw.unit (Xu.stO (sz_21 _) rfl rfl rfl (own_bs hs10 hw12) (by rw [List.length_map]; omega)) ?_
      rintro w13 ⟨hs13, hg13, -⟩
      have hg12' : w7.grownBy w12 y.ownBlock := grown_more hg10 (below_grown hw12 none) (by rintro _ ⟨⟩)
      have hg13' : w7.grownBy w13 y.ownBlock := grown_more hg12' hg13 (by rintro b hb; rw [hsvb] at hb; cases hb; exact Nat.le_refl _)
      have hy13 := (own_bs hy10 hw12).kept hg13 (.inr fun h => by rw [hsvb] at h; have := (hyb _ h).2; omega)
      have hset : (rest10.set k (ts[k].l.getD i default)).take (k + 1) = (ts.take (k + 1)).map (fun t => t.l.getD i default) := by
        rw [List.take_succ_eq_append_getElem hk'', List.map_append, ← ht10, List.take_set, List.take_succ_eq_append_getElem (by omega), List.set_append_right _ _ (by simp; omega)]
        simp [Nat.min_eq_left (show k ≤ rest10.length by omega)]
      rw [← List.map_set] at hs13
      refine Lw.nil ?_
      refine Pw.blkN ?_
      refine Pw.thenN (Cw.out ?_)
      refine Cw.region ?_
      refine Lw.val (Ex.addI rfl rfl (by omega)) rfl ?_
      refine Lw.val (Ex.move rfl) rfl ?_
      refine Lw.nil ?_
      exact Pw.thenN (Pw.next (k + 1) ⟨rfl, rfl, rfl, rfl, rfl, rfl, rfl, rfl, rfl, rfl, rfl, rfl, trivial⟩ (⟨hk', hg13', hy13, _, by simpa using hr10, hset, hs13⟩) (by omega))
    · intro h
      have hk' : k = ts.length := by simp at h; omega
      rw [List.take_of_length_le (by omega), List.take_of_length_le (by omega)] at ht10
      have hsT := own_slT hs10
      have hyT := own_slT hy10
      have hyl : (ofL id g ts i ++ List.replicate (N - i) 0#32).length = N := by simp [ofL]; omega
      refine Cw.exit ?_
      refine Pw.thenE ?_
      refine Pw.thenE ?_
      refine Pw.blkHit ?_
      refine Pw.thenN (Cw.out ?_)
      refine Cw.tail 8 mixed (by kernel_rfl) ?_
      refine Qw.val (fun w1 hq => Ex.fieldAddr (q := 0) Try.underlying25 rfl (sz_23 _) rfl) rfl ?_
      refine Qw.val (fun w1 hq => Ex.ldB (ag_23 _) rfl (Blk.bs (by assumption) hq) rfl) rfl ?_
      refine Qw.val (fun w1 hq => Ex.move rfl) rfl ?_
      refine Qw.val (fun w1 hq => Ex.fieldAddr (q := 0) Try.underlying66 rfl (sz_64 _) rfl) rfl ?_
      refine Qw.val (fun w1 hq => Ex.ldB (ag_64 _) rfl (Blk.bs (by assumption) hq) rfl) rfl ?_
      refine Qw.val (fun w1 hq => Ex.move rfl) rfl ?_
      refine Qw.callV (p := []) rfl rfl rfl (fun w1 hq => (hdo w1 sv rest10 (bt f1 hq) (hsT.bs hq) (by omega)).q hq) ?_
      refine Qw.val (fun w1 hq => Ex.idxT st_23 rfl rfl (Sl.bs (by assumption) hq) _ rfl (by omega)) rfl ?_
      refine Qw.done (fun w11 hq => ?_)
      refine Lw.unit (Xu.stO (sz_21 _) rfl rfl rfl (own_bs hy10 hq) (by rw [List.length_map]; omega)) ?_
      rintro w12 ⟨hy12, hg12, -⟩
      have hg12' : w7.grownBy w12 y.ownBlock := grown_trans (grown_more hg10 (below_grown hq none) (by rintro _ ⟨⟩)) hg12
      have hs12 := (own_bs hs10 hq).kept hg12 (.inr fun h => by rw [hsvb] at h; have := (hyb _ h.symm).2; omega)
      have hset : (ofL id g ts i ++ List.replicate (N - i) 0#32).set i (g rest10) = ofL id g ts (i + 1) ++ List.replicate (N - (i + 1)) 0#32 := by
        have hl : (ofL id g ts i).length = i := by simp [ofL]
        rw [List.set_append_right _ _ (by omega), hl, Nat.sub_self, show N - i = (N - (i + 1)) + 1 by omega, List.replicate_succ, List.set_cons_zero]
        rw [ht10]
        simp [ofL, List.range_succ]
      rw [← List.map_set, hset] at hy12
      refine Lw.nil ?_
      refine Pw.blkN ?_
      refine Pw.thenN (Cw.out ?_)
      refine Cw.region ?_
      refine Lw.val (Ex.addI rfl rfl (by omega)) rfl ?_
      refine Lw.val (Ex.move rfl) rfl ?_
      refine Lw.nil ?_
      exact Pw.thenN (Pw.next (i + 1) ⟨rfl, rfl, rfl, rfl, rfl, rfl, rfl, rfl, trivial⟩ (⟨hi', hg12', hy12, rest10, hr10, hs12⟩) (by omega))
  · intro h
    have hi' : i = N := by simp at h; omega
    subst hi'
    refine Cw.exit ?_
    refine Pw.thenE ?_
    refine Pw.thenE ?_
    refine Pw.blkHit ?_
    refine Pw.thenN (Cw.out ?_)
    refine Cw.seq ?_
    refine Cw.region ?_
    refine Lw.val (Ex.ldA (ag_25 _) (sz_25 _) rfl rfl (by assumption)) rfl ?_
    refine Lw.unit (Xu.stA (cs := [x, y]) rfl rfl rfl rfl (by simp [fx.sl.one', (own_sl hy9).one']) f4 rfl) ?_
    rintro w10 ⟨hb4', hg10, -⟩
    have hB10 : Below W.heap.size W w10 := f1.grown hg10 (below_size f1) (by rintro _ ⟨⟩; omega)
    refine Lw.val (Ex.assign rfl) rfl ?_
    refine Lw.nil ?_
    refine Pw.thenN (Cw.out ?_)
    refine Cw.ret ?_
    refine Pw.retCT rfl rfl rfl (by assumption) (Try.underlying25) rfl rfl rfl ?_
    refine ⟨hB10, x, y, by rw [he], fun h => absurd he h, fun _ => ⟨(fx.by' hg10 ?_).mono z3, ?_, hmA.apart⟩⟩
    · cases hx : x.ownBlock with
      | none => exact .inl rfl
      | some b =>
        refine .inr fun h => ?_
        have := hmA.fresh b hx
        cases h
        omega
    · have hy10 := own_mono (hy9.kept hg10 (.inr fun h => by have := (hyb _ h).1; omega)) z3
      rw [Nat.sub_self, List.replicate_zero, List.append_nil] at hy10
      rw [← hN]
      have : (ofL id g ts i).length = i := by simp [ofL]
      rw [this]
      exact hy10

/-- What comes of a deed: a tensor of one's own, or none. -/
def Ans (W w : World) (r : Value) (e : Int) (s : List Int) (l : List (BitVec 32)) : Prop :=
  ∃ x y, r = .tuple #[.agg #[x, y], .int .i64 e] ∧ (e ≠ 0 → x = .slice none 0 0 ∧ y = .slice none 0 0) ∧ (e = 0 → Made1 W w x y s l)
theorem ans_one {W w : World} {x y : Value} {e : Int} {s : List Int} {l : List (BitVec 32)} (h1 : e ≠ 0 → x = .slice none 0 0 ∧ y = .slice none 0 0) (h2 : e = 0 → Made1 W w x y s l) : [x, y].all (·.oneCell') = true := by
  by_cases he : e = 0
  · have := h2 he
    simp [this.sh.one', (own_sl this.own).one']
  · obtain ⟨rfl, rfl⟩ := h1 he; rfl
theorem Made1.out {W W1 w w' : World} {x y : Value} {s : List Int} {l : List (BitVec 32)} {b : Nat} (h : Made1 W1 w x y s l) (hg : w.grownBy w' (some b)) (hb : b < W1.heap.size) (hW : W.heap.size ≤ W1.heap.size) : Made1 W w' x y s l :=
  ⟨(h.row.by' hg (by
    cases hx : x.ownBlock with
    | none => exact .inl rfl
    | some c => exact .inr fun e => by have := h.fresh c hx; cases e; omega)).mono hW,
   own_mono (h.own.kept hg (by
    cases hy : y.ownBlock with
    | none => exact .inl rfl
    | some c => exact .inr fun e => by have := (own_block h.own c hy).1; cases e; omega)) hW,
   h.apart⟩

def addG (l : List (BitVec 32)) : BitVec 32 := l.getD 0 default + l.getD 1 default
def mulG (l : List (BitVec 32)) : BitVec 32 := l.getD 0 default * l.getD 1 default

theorem add1_c (u : Value) (xs : List (BitVec 32)) (w : World) (hu : SlT i32 w u xs) (hl : xs.length = 2) : Fnc Try.prog 41 [u] w (fun r w' => r = i32 (addG xs) ∧ Below w.heap.size w w') := by
  refine Fnc.enter (n := 10) Try.func41 (by kernel_rfl) rfl rfl rfl ?_
  refine Cw.seq ?_
  refine Cw.region ?_
  refine Lw.val (Ex.assign (show _ = some (i32 (0#32)) from rfl)) rfl ?_
  refine Lw.nil ?_
  refine Pw.thenN (Cw.out ?_)
  refine Cw.seq ?_
  refine Cw.quiet mixed (by kernel_rfl) ?_
  refine Qw.val (fun w1 hq => Ex.move rfl) rfl ?_
  refine Qw.val (fun w1 hq => Ex.idxS st_23 rfl rfl hu.shp 0 rfl (by omega)) rfl ?_
  refine Qw.val (fun w1 hq => Ex.ldT (ag_21 _) rfl (Sl.bs (by assumption) hq) (by omega)) rfl ?_
  refine Qw.val (fun w1 hq => Ex.move rfl) rfl ?_
  refine Qw.val (fun w1 hq => Ex.idxS st_23 rfl rfl hu.shp 1 rfl (by omega)) rfl ?_
  refine Qw.val (fun w1 hq => Ex.ldT (ag_21 _) rfl (Sl.bs (by assumption) hq) (by omega)) rfl ?_
  refine Qw.val (fun w1 hq => Ex.addi32 rfl rfl) rfl ?_
  refine Qw.val (fun w1 hq => Ex.assign rfl) rfl ?_
  refine Qw.nil (fun w1 hq => ?_)
  refine Pw.thenN (Cw.out ?_)
  refine Cw.ret ?_
  refine Pw.ret1 rfl rfl ?_
  exact ⟨rfl, hq⟩

theorem add_c (a b : T4) (W : World) (ha : a.at W) (hb : b.at W) :
    Fnc Try.prog 16 [a.v, b.v] W (fun r w' => Below W.heap.size W w' ∧ Ans W w' r (ofE [a, b] a.s) a.s (ofL id addG [a, b] (Shapes.size a.s).toNat)) := by
  refine Fnc.enter (n := 13) Try.func16 (by kernel_rfl) rfl rfl rfl ?_
  refine Cw.seq ?_
  refine Cw.region ?_
  refine Lw.valW (Xw.box (cs := [a.x, a.y]) rfl rfl) rfl ?_
  rintro _ w1 ⟨rfl, h1, hB1, s1⟩
  refine Lw.valW (Xw.box (cs := [b.x, b.y]) rfl rfl) rfl ?_
  rintro _ w2 ⟨rfl, h2, hw2, s2⟩
  have hB2 := bt hB1 hw2
  have h1 := h1.bs hw2
  refine Lw.valW (Xw.new it_25) rfl ?_
  rintro _ w3 ⟨rfl, h3, hw3, s3⟩
  have hB3 := bt hB2 hw3
  have h1 := h1.bs hw3
  have h2 := h2.bs hw3
  refine Lw.val (Ex.assign rfl) rfl ?_
  refine Lw.nil ?_
  refine Pw.thenN (Cw.out ?_)
  refine Cw.seq ?_
  refine Cw.region ?_
  refine Lw.val (Ex.build (vs := [(0, .func (.func 41) #[] #[])]) (cs := [.func (.func 41) #[] #[]]) rfl rfl) rfl ?_
  refine Lw.val (Ex.ldA (ag_25 _) (sz_25 _) rfl rfl (by assumption)) rfl ?_
  refine Lw.val (Ex.ldA (ag_25 _) (sz_25 _) rfl rfl (by assumption)) rfl ?_
  refine Lw.valW (Xw.litA (vs := [(0, a.v), (1, b.v)]) (cs := cellsOf [a, b]) st_35 it_25 rfl (by decide) (by decide) (by decide) (by kernel_rfl) rfl) rfl ?_
  rintro v w4 ⟨ho4, -, hw4, s4⟩
  have hB4 := bt hB3 hw4
  refine Lw.callF rfl rfl (of32_c [a, b] v a 41 [] addG w4 rfl (by simp) (own_sl ho4) (fun t ht => by simp at ht; rcases ht with rfl | rfl; exact ha.bs hB4; exact hb.bs hB4) (fun w u xs _ hu hl => add1_c u xs w hu hl)) ?_
  rintro _ w5 ⟨hw5, x, y, rfl, q1, q2⟩
  have hB5 := bt hB4 hw5
  have h5 := (h3.bs hw4).bs hw5
  refine Lw.val (Ex.extract (i := 0) rfl rfl) rfl ?_
  refine Lw.val (Ex.extract (i := 1) rfl rfl) rfl ?_
  refine Lw.unit (Xu.stA (cs := [x, y]) rfl rfl rfl rfl (ans_one q1 q2) h5 rfl) ?_
  rintro w6 ⟨h6, hg6, -⟩
  have z2 := hB2.size
  have hB6 : Below W.heap.size W w6 := hB5.grown hg6 (below_size hB5) (by rintro _ ⟨⟩; exact z2)
  refine Lw.val (Ex.assign rfl) rfl ?_
  refine Lw.nil ?_
  refine Pw.thenN (Cw.out ?_)
  refine Cw.ret ?_
  refine Pw.retCT rfl rfl rfl (by assumption) (Try.underlying25) rfl rfl rfl ?_
  exact ⟨hB6, x, y, rfl, q1, fun h => (q2 h).out hg6 (by omega) (by omega)⟩

end Go.Proofs.Ytkhndfaampkbnaa
