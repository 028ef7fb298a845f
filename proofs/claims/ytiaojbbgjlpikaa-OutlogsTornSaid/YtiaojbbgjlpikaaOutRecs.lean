/- Contract: all records of a log; calls that a log that isn't there refuses. -/
import Derived.Test.YtiaojbbgjlpikaaOutMore
namespace Go.Proofs.Ytiaojbbgjlpikaa
open Go Go.Dd Go.RowKit
set_option maxRecDepth 100000

theorem openNil_c (w : World) : Fnc Try.prog 11 [.pointer none] w (fun r w' => r = .tuple #[.pointer none, .int .i64 2] ∧ w' = w) := by
  refine Fnc.enter (n := 95) Try.func11 (by kernel_rfl) rfl rfl rfl ?_
  refine Cw.seq ?_
  refine Cw.region ?_
  refine Lw.val (Ex.assign rfl) rfl ?_
  refine Lw.val (Ex.assign rfl) rfl ?_
  refine Lw.nil ?_
  refine Pw.thenN (Cw.out ?_)
  refine Cw.seq ?_
  refine Cw.seq ?_
  refine Cw.region ?_
  refine Lw.val (Ex.move rfl) rfl ?_
  refine Lw.callF rfl rfl (dlenn_c w) ?_
  rintro _ w ⟨rfl, rfl⟩
  refine Lw.val (Ex.assign rfl) rfl ?_
  refine Lw.nil ?_
  refine Pw.thenN (Cw.out ?_)
  refine Cw.block ?_
  refine Cw.seq ?_
  refine Cw.region ?_
  refine Lw.val (Ex.move rfl) rfl ?_
  refine Lw.val (Ex.eql rfl rfl) rfl ?_
  refine Lw.val (Ex.assign rfl) rfl ?_
  refine Lw.nil ?_
  refine Pw.thenN (Cw.out ?_)
  refine Cw.condB rfl true (rfl) ?_
  refine Cw.seq ?_
  refine Cw.region ?_
  refine Lw.val (Ex.assign rfl) rfl ?_
  refine Lw.val (Ex.assign rfl) rfl ?_
  refine Lw.nil ?_
  refine Pw.thenN (Cw.out ?_)
  refine Cw.ret ?_
  refine Pw.blkR ?_
  refine Pw.thenR ?_
  refine Pw.ret2 rfl rfl rfl ?_
  exact ⟨rfl, rfl⟩
theorem addNil_c (ix : BitVec 32) (x y : Value) (w : World) : Fnc Try.prog 13 [.pointer none, .agg [u32 ix, x, y].toArray] w (fun r w' => r = .int .i64 2 ∧ Below w.heap.size w w') := by
  have hB := Below.refl w.heap.size w
  refine Fnc.enterG (n := 109) Try.func13 (by kernel_rfl) rfl rfl rfl ?_
  refine Cg.seq ?_
  refine Cg.region (by kernel_rfl) ?_
  refine Lw.valW (Xw.box (cs := [.pointer none]) rfl rfl) rfl ?_
  rintro _ w1 ⟨rfl, b1, hn1, hz1⟩
  refine Lw.valW (Xw.box (cs := [u32 ix, x, y]) rfl rfl) rfl ?_
  rintro _ w2 ⟨rfl, b2, hn2, hz2⟩
  have b1 := b1.bs hn2
  refine Lw.val (Ex.assign rfl) rfl ?_
  refine Lw.nil (Pg.low ?_)
  refine Pg.thenN (Cg.out ?_)
  refine Cg.seq ?_
  refine Cg.seq ?_
  refine Cg.region (by kernel_rfl) ?_
  refine Lw.val (Ex.ldB (ag_29 _) rfl (by assumption) rfl) rfl ?_
  refine Lw.callF rfl rfl (theren_c w2) ?_
  rintro _ w ⟨rfl, rfl⟩
  refine Lw.val (Ex.not rfl) rfl ?_
  refine Lw.nil (Pg.low ?_)
  refine Pg.thenN (Cg.out ?_)
  refine Cg.condB rfl true (rfl) ?_
  refine Cg.seq ?_
  refine Cg.region (by kernel_rfl) ?_
  refine Lw.val (Ex.assign rfl) rfl ?_
  refine Lw.nil (Pg.low ?_)
  refine Pg.thenN (Cg.out ?_)
  refine Cg.ret ?_
  refine Pg.thenR ?_
  refine Pg.close0 ?_
  refine Pw.ret1 rfl rfl ?_
  exact ⟨rfl, hn1.trans (hn2.mono hn1.size)⟩

/-- A record in memory: its number, its tensor. -/
abbrev R4 := BitVec 32 × T4
def recC (p : R4) : List Value := [u32 p.1, p.2.x, p.2.y]
def recV (p : R4) : BitVec 32 × List Int × List (BitVec 32) := (p.1, p.2.s, p.2.l)
theorem recC_len (p : R4) : (recC p).length = 3 := rfl
/-- Off a block. -/
def offV (w : World) (p : R4) (v : Value) : Prop := (∀ k, p.2.x.ownBlock = some k → k < w.heap.size ∧ v.ownBlock ≠ some k) ∧ (∀ k, p.2.y.ownBlock = some k → k < w.heap.size ∧ v.ownBlock ≠ some k)
theorem offV.mono {w w' : World} {p : R4} {v : Value} (h : offV w p v) (hz : w.heap.size ≤ w'.heap.size) : offV w' p v := ⟨fun k e => ⟨Nat.lt_of_lt_of_le (h.1 k e).1 hz, (h.1 k e).2⟩, fun k e => ⟨Nat.lt_of_lt_of_le (h.2 k e).1 hz, (h.2 k e).2⟩⟩
theorem clipR_c (u : Value) (n : Nat) (xs : List Value) (w : World) (hu : Sl w 3 u n xs) : Fnc Try.prog 44 [u] w (fun r w' => r = clip u ∧ Below w.heap.size w w') := by
  refine Fnc.enter (n := 9) Try.func44 (by kernel_rfl) rfl rfl rfl ?_
  refine Cw.seq ?_
  refine Cw.region ?_
  refine Lw.val (Ex.assign rfl) rfl ?_
  refine Lw.nil ?_
  refine Pw.thenN (Cw.out ?_)
  refine Cw.seq ?_
  refine Cw.region ?_
  refine Lw.val (Ex.move rfl) rfl ?_
  refine Lw.val (Ex.move rfl) rfl ?_
  refine Lw.val (Ex.lenS st_66 rfl (by assumption)) rfl ?_
  refine Lw.val (Ex.move rfl) rfl ?_
  refine Lw.val (Ex.lenS st_66 rfl (by assumption)) rfl ?_
  refine Lw.val (Ex.clip st_66 rfl rfl rfl hu.shp) rfl ?_
  refine Lw.val (Ex.assign rfl) rfl ?_
  refine Lw.nil ?_
  refine Pw.thenN (Cw.out ?_)
  refine Cw.ret ?_
  refine Pw.ret1 rfl rfl ?_
  exact ⟨rfl, Below.refl _ _⟩
theorem records_c (L A : Nat) (S : Nat → Prop) (D : Dsk) (es : List Nat) (rs : List (BitVec 32 × List Int × List (BitVec 32))) (w : World) (h : LogAt w S L A D es) (hl : rs.length = es.length) (hm : es.length ≤ 100000) (hb : ∀ k, k ≤ es.length → endN es k ≤ 100000)
    (hr : ∀ k, k < es.length → ∃ nx, RdOk D.seen (endN es k) (rs.getD k default).1 (rs.getD k default).2.1 (rs.getD k default).2.2 nx) :
    Fnc Try.prog 23 [.pointer (some ⟨L, 0, none⟩)] w (fun r w' => Below w.heap.size w w' ∧ ∃ v ps, r = .tuple #[v, .int .i64 0] ∧ Sl w' 3 v ps.length (flw recC ps) ∧ (∀ p ∈ ps, p.2.at w') ∧ ps.map recV = rs) := by
  have h0 := h
  obtain ⟨u, T, h⟩ := h
  refine Fnc.enter (n := 41) Try.func23 (by kernel_rfl) rfl rfl rfl ?_
  refine Cw.seq ?_
  refine Cw.region ?_
  refine Lw.val (Ex.assign rfl) rfl ?_
  refine Lw.val (Ex.assign rfl) rfl ?_
  refine Lw.nil ?_
  refine Pw.thenN (Cw.out ?_)
  refine Cw.seq ?_
  refine Cw.seq ?_
  refine Cw.region ?_
  refine Lw.val (Ex.move rfl) rfl ?_
  refine Lw.callF rfl rfl (there_c L A S D es w h0) ?_
  rintro _ w ⟨rfl, rfl⟩
  have b_L := h.box
  have s_u : SlT encN w u es := own_sl h.oe
  refine Lw.val (Ex.not rfl) rfl ?_
  refine Lw.nil ?_
  refine Pw.thenN (Cw.out ?_)
  refine Cw.condB rfl false (rfl) ?_
  refine Cw.skip ?_
  refine Pw.thenN (Cw.out ?_)
  refine Cw.seq ?_
  refine Cw.seq ?_
  refine Cw.region ?_
  refine Lw.val (Ex.move rfl) rfl ?_
  refine Lw.val (Ex.nilCheck rfl) rfl ?_
  refine Lw.val (Ex.fieldAddr (q := 0) Try.underlying72 rfl (sz_33 _) rfl) rfl ?_
  refine Lw.val (Ex.ldB (ag_33 _) rfl (by assumption) rfl) rfl ?_
  refine Lw.val (Ex.lenS st_33 rfl (by assumption)) rfl ?_
  refine Lw.val (Ex.move rfl) rfl ?_
  refine Lw.nil ?_
  refine Pw.thenN (Cw.out ?_)
  refine Cw.block ?_
  refine Cw.loop (S := (Nat × Value × List R4)) (fun z => [(0, .pointer (some ⟨L, 0, none⟩)), (2, z.2.1), (15, .int .i64 (es.length : Int)), (16, .int .i64 (z.1 : Int))]) (fun z w' => z.1 ≤ es.length ∧ z.2.2.map recV = rs.take z.1 ∧ w'.ownsRow w.heap.size recT 3 z.2.1 z.2.2.length (flw recC z.2.2) ∧ (∀ p ∈ z.2.2, p.2.at w' ∧ offV w' p z.2.1) ∧ Below w.heap.size w w') (fun z => es.length - z.1) ((0, .slice none 0 0, [])) ⟨rfl, rfl, rfl, rfl, trivial⟩ ?_ ?_
  · exact ⟨Nat.zero_le _, rfl, ⟨rfl, .inl ⟨rfl, rfl⟩⟩, (fun p hp => by cases hp), Below.refl _ _⟩
  clear b_L s_u
  rintro ⟨i, v, ps⟩ w1 ⟨hi, hps, o_v, hat, hB⟩
  dsimp only at hi hps o_v hat hB ⊢
  have lp : ps.length = i := by
    have := congrArg List.length hps
    rw [List.length_map, List.length_take] at this; omega
  have hV := h.bs hB
  have b_L := hV.box
  have vb := own_block o_v
  refine Cw.seq ?_
  refine Cw.region ?_
  refine Lw.val (Ex.lss rfl rfl) rfl ?_
  refine Lw.nil ?_
  refine Pw.thenN (Cw.out ?_)
  refine Cw.seq ?_
  refine Cw.cond rfl ?_ ?_
  · intro g
    have hi' : i < es.length := by have := of_decide_eq_true g; omega
    obtain ⟨nx, hok⟩ := hr i hi'
    obtain ⟨q, hq⟩ : ∃ q, q = rs.getD i default := ⟨_, rfl⟩
    rw [← hq] at hok
    refine Cw.skip ?_
    refine Pw.thenN (Cw.out ?_)
    refine Cw.seq ?_
    refine Cw.block ?_
    refine Cw.seq ?_
    refine Cw.region ?_
    refine Lw.val (Ex.move rfl) rfl ?_
    refine Lw.val (Ex.assign rfl) rfl ?_
    refine Lw.nil ?_
    refine Pw.thenN (Cw.out ?_)
    refine Cw.seq ?_
    refine Cw.midS (St := (Nat × Value × Value)) (fun s => [(0, .pointer (some ⟨L, 0, none⟩)), (2, v), (5, .pointer (some ⟨s.1, 0, none⟩)), (7, .int .i64 0), (15, .int .i64 (es.length : Int)), (16, .int .i64 (i : Int))]) (fun s w' => Below w1.heap.size w1 w' ∧ (T4.mk s.2.1 s.2.2 q.2.1 q.2.2).at w' ∧ ([s.2.1, s.2.2].all (·.oneCell') = true) ∧ Blk w' s.1 recT [u32 q.1, s.2.1, s.2.2] ∧ (∀ k, s.2.1.ownBlock = some k → w1.heap.size ≤ k ∧ k < w'.heap.size) ∧ (∀ k, s.2.2.ownBlock = some k → w1.heap.size ≤ k ∧ k < w'.heap.size)) ?_ ?_
    · refine Cw.any mixed (fun w2 hd _ => ?_)
      refine Aw.cls (fun w' => Below w1.heap.size w1 w') (fun hC => ?_) (hd)
      refine AwC.take (i := 0) NoP.midS rfl (by kernel_rfl) (by kernel_rfl) (by kernel_rfl) (fun w1 hc => Ex.move rfl) rfl ?_
      refine AwC.take (i := 1) NoP.midS rfl (by kernel_rfl) (by kernel_rfl) (by kernel_rfl) (fun w1 hc => Ex.nilCheck rfl) rfl ?_
      refine AwC.take (i := 2) NoP.midS rfl (by kernel_rfl) (by kernel_rfl) (by kernel_rfl) (fun w1 hc => Ex.fieldAddr (q := 0) Try.underlying72 rfl (sz_25 _) rfl) rfl ?_
      refine AwC.take (i := 3) NoP.midS rfl (by kernel_rfl) (by kernel_rfl) (by kernel_rfl) (fun w1 hc => Ex.ldB (ag_25 _) rfl (Blk.bs (by assumption) hc) rfl) rfl ?_
      refine AwC.take (i := 4) NoP.midS rfl (by kernel_rfl) (by kernel_rfl) (by kernel_rfl) (fun w1 hc => Ex.move rfl) rfl ?_
      refine AwC.take (i := 5) NoP.midS rfl (by kernel_rfl) (by kernel_rfl) (by kernel_rfl) (fun w1 hc => Ex.move rfl) rfl ?_
      refine AwC.two (by assumption) (i := 6) (j := 12) (by kernel_rfl) rfl rfl ?_ ?_
      · refine Lw.callF rfl rfl (end_c L A i S D es w2 (h0.bs (hB.trans (hd.mono (below_size hB)))) hi) ?_
        rintro _ w2 ⟨rfl, rfl⟩
        refine AwC.back ?_
        refine AwC.two (by assumption) (i := 7) (j := 12) (by kernel_rfl) rfl rfl ?_ ?_
        · refine Lw.callF rfl rfl (record_c A S D (endN es i) w2 (h0.disk.bs (hB.trans (hd.mono (below_size hB)))) (hb i hi)) ?_
          rintro r w3 ⟨hn_w3, hR⟩
          obtain ⟨x, y, rfl, hM⟩ := recR_ok hok hR
          have xb : ∀ k, x.ownBlock = some k → w2.heap.size ≤ k ∧ k < w3.heap.size := fun k e => hM.row.lt k e
          have yb : ∀ k, y.ownBlock = some k → w2.heap.size ≤ k ∧ k < w3.heap.size := fun k e => own_block hM.own k e
          have hM := made_low hM hd.size
          have hd3 : Below w1.heap.size w1 w3 := hd.trans (hn_w3.mono hd.size)
          refine AwC.back ?_
          refine AwC.take (i := 8) NoP.midS rfl (by kernel_rfl) (by kernel_rfl) (by kernel_rfl) (fun w1 hc => Ex.move rfl) rfl ?_
          refine AwC.take (i := 9) NoP.midS rfl (by kernel_rfl) (by kernel_rfl) (by kernel_rfl) (fun w1 hc => Ex.extract (i := 0) rfl rfl) rfl ?_
          refine AwC.take (i := 10) NoP.midS rfl (by kernel_rfl) (by kernel_rfl) (by kernel_rfl) (fun w1 hc => Ex.extract (i := 1) rfl rfl) rfl ?_
          refine AwC.take (i := 11) NoP.midS rfl (by kernel_rfl) (by kernel_rfl) (by kernel_rfl) (fun w1 hc => Ex.extract (i := 2) rfl rfl) rfl ?_
          refine AwC.only (by assumption) (i := 12) (by kernel_rfl) rfl ?_
          refine Lw.valW (Xw.new it_39) rfl ?_
          rintro _ w4 ⟨rfl, b_r, hn_w4, -⟩
          have hd4 : Below w1.heap.size w1 w4 := hd3.trans (hn_w4.mono hd3.size)
          refine AwC.back ?_
          refine AwC.only (by assumption) (i := 13) (by kernel_rfl) rfl ?_
          have hM4 := hM.bs hn_w4
          have b_r4 := b_r
          have z1r : w1.heap.size ≤ w3.heap.size := hd3.size
          have xb4 : ∀ k, x.ownBlock = some k → k < w4.heap.size := fun k e => by have := xb k e; have := hn_w4.size; omega
          have yb4 : ∀ k, y.ownBlock = some k → k < w4.heap.size := fun k e => by have := yb k e; have := hn_w4.size; omega
          have xne : ∀ k, x.ownBlock = some k → k ≠ w3.heap.size := fun k e => by have := xb k e; omega
          have yne : ∀ k, y.ownBlock = some k → k ≠ w3.heap.size := fun k e => by have := yb k e; omega
          have xl : ∀ k, x.ownBlock = some k → w1.heap.size ≤ k := fun k e => (hM4.row.lt k e).1
          have yl : ∀ k, y.ownBlock = some k → w1.heap.size ≤ k := fun k e => (own_block hM4.own k e).1
          refine Lw.unit (Xu.stA (cs := [u32 q.1, x, y]) rfl rfl rfl rfl (by rw [List.all_cons, hM4.one]; rfl) b_r4 rfl) ?_
          rintro w5 ⟨b_r5, hg5, hz5⟩
          have hd5 : Below w1.heap.size w1 w5 := hd4.grown hg5 hd4.size (by rintro _ ⟨⟩; exact z1r)
          have a_q : (T4.mk x y q.2.1 q.2.2).at w5 := ⟨hM4.sh.keep (fun k hk e => hg5.block k hk (fun e2 => xne k e (Option.some.inj e2))), (own_slT hM4.own).keep (fun k hk e => hg5.block k hk (fun e2 => yne k e (Option.some.inj e2)))⟩
          refine AwC.back ?_
          refine AwC.take (i := 14) NoP.midS rfl (by kernel_rfl) (by kernel_rfl) (by kernel_rfl) (fun w1 hc => Ex.assign rfl) rfl ?_
          refine AwC.take (i := 15) NoP.midS rfl (by kernel_rfl) (by kernel_rfl) (by kernel_rfl) (fun w1 hc => Ex.assign rfl) rfl ?_
          refine AwC.done (by assumption) (by kernel_rfl) ?_
          exact Pw.midS ((w3.heap.size, x, y)) ⟨rfl, rfl, rfl, rfl, rfl, rfl, trivial⟩ (⟨hd5, a_q, hM4.one, b_r5, fun k e => ⟨xl k e, by have := xb4 k e; omega⟩, fun k e => ⟨yl k e, by have := yb4 k e; omega⟩⟩)
        · refine Lw.valW (Xw.new it_39) rfl ?_
          rintro _ w3 ⟨rfl, b_r, hn_w3, -⟩
          have hd3 : Below w1.heap.size w1 w3 := hd.trans (hn_w3.mono hd.size)
          refine AwC.back ?_
          refine AwC.only (by assumption) (i := 7) (by kernel_rfl) rfl ?_
          refine Lw.callF rfl rfl (record_c A S D (endN es i) w3 (h0.disk.bs (hB.trans (hd3.mono (below_size hB)))) (hb i hi)) ?_
          rintro r w4 ⟨hn_w4, hR⟩
          obtain ⟨x, y, rfl, hM⟩ := recR_ok hok hR
          have xb : ∀ k, x.ownBlock = some k → w3.heap.size ≤ k ∧ k < w4.heap.size := fun k e => hM.row.lt k e
          have yb : ∀ k, y.ownBlock = some k → w3.heap.size ≤ k ∧ k < w4.heap.size := fun k e => own_block hM.own k e
          have hM := made_low hM hd3.size
          have hd4 : Below w1.heap.size w1 w4 := hd3.trans (hn_w4.mono hd3.size)
          refine AwC.back ?_
          refine AwC.take (i := 8) NoP.midS rfl (by kernel_rfl) (by kernel_rfl) (by kernel_rfl) (fun w1 hc => Ex.move rfl) rfl ?_
          refine AwC.take (i := 9) NoP.midS rfl (by kernel_rfl) (by kernel_rfl) (by kernel_rfl) (fun w1 hc => Ex.extract (i := 0) rfl rfl) rfl ?_
          refine AwC.take (i := 10) NoP.midS rfl (by kernel_rfl) (by kernel_rfl) (by kernel_rfl) (fun w1 hc => Ex.extract (i := 1) rfl rfl) rfl ?_
          refine AwC.take (i := 11) NoP.midS rfl (by kernel_rfl) (by kernel_rfl) (by kernel_rfl) (fun w1 hc => Ex.extract (i := 2) rfl rfl) rfl ?_
          refine AwC.only (by assumption) (i := 13) (by kernel_rfl) rfl ?_
          have hM4 := hM
          have b_r4 := b_r.bs hn_w4
          have z1r : w1.heap.size ≤ w2.heap.size := hd.size
          have xb4 : ∀ k, x.ownBlock = some k → k < w4.heap.size := fun k e => (xb k e).2
          have yb4 : ∀ k, y.ownBlock = some k → k < w4.heap.size := fun k e => (yb k e).2
          have xne : ∀ k, x.ownBlock = some k → k ≠ w2.heap.size := fun k e => by have := xb k e; have := blk_lt b_r; omega
          have yne : ∀ k, y.ownBlock = some k → k ≠ w2.heap.size := fun k e => by have := yb k e; have := blk_lt b_r; omega
          have xl : ∀ k, x.ownBlock = some k → w1.heap.size ≤ k := fun k e => (hM4.row.lt k e).1
          have yl : ∀ k, y.ownBlock = some k → w1.heap.size ≤ k := fun k e => (own_block hM4.own k e).1
          refine Lw.unit (Xu.stA (cs := [u32 q.1, x, y]) rfl rfl rfl rfl (by rw [List.all_cons, hM4.one]; rfl) b_r4 rfl) ?_
          rintro w5 ⟨b_r5, hg5, hz5⟩
          have hd5 : Below w1.heap.size w1 w5 := hd4.grown hg5 hd4.size (by rintro _ ⟨⟩; exact z1r)
          have a_q : (T4.mk x y q.2.1 q.2.2).at w5 := ⟨hM4.sh.keep (fun k hk e => hg5.block k hk (fun e2 => xne k e (Option.some.inj e2))), (own_slT hM4.own).keep (fun k hk e => hg5.block k hk (fun e2 => yne k e (Option.some.inj e2)))⟩
          refine AwC.back ?_
          refine AwC.take (i := 14) NoP.midS rfl (by kernel_rfl) (by kernel_rfl) (by kernel_rfl) (fun w1 hc => Ex.assign rfl) rfl ?_
          refine AwC.take (i := 15) NoP.midS rfl (by kernel_rfl) (by kernel_rfl) (by kernel_rfl) (fun w1 hc => Ex.assign rfl) rfl ?_
          refine AwC.done (by assumption) (by kernel_rfl) ?_
          exact Pw.midS ((w2.heap.size, x, y)) ⟨rfl, rfl, rfl, rfl, rfl, rfl, trivial⟩ (⟨hd5, a_q, hM4.one, b_r5, fun k e => ⟨xl k e, by have := xb4 k e; omega⟩, fun k e => ⟨yl k e, by have := yb4 k e; omega⟩⟩)
      · refine Lw.valW (Xw.new it_39) rfl ?_
        rintro _ w3 ⟨rfl, b_r, hn_w3, -⟩
        have hd3 : Below w1.heap.size w1 w3 := hd.trans (hn_w3.mono hd.size)
        refine AwC.back ?_
        refine AwC.only (by assumption) (i := 6) (by kernel_rfl) rfl ?_
        refine Lw.callF rfl rfl (end_c L A i S D es w3 (h0.bs (hB.trans (hd3.mono (below_size hB)))) hi) ?_
        rintro _ w3 ⟨rfl, rfl⟩
        refine AwC.back ?_
        refine AwC.only (by assumption) (i := 7) (by kernel_rfl) rfl ?_
        refine Lw.callF rfl rfl (record_c A S D (endN es i) w3 (h0.disk.bs (hB.trans (hd3.mono (below_size hB)))) (hb i hi)) ?_
        rintro r w4 ⟨hn_w4, hR⟩
        obtain ⟨x, y, rfl, hM⟩ := recR_ok hok hR
        have xb : ∀ k, x.ownBlock = some k → w3.heap.size ≤ k ∧ k < w4.heap.size := fun k e => hM.row.lt k e
        have yb : ∀ k, y.ownBlock = some k → w3.heap.size ≤ k ∧ k < w4.heap.size := fun k e => own_block hM.own k e
        have hM := made_low hM hd3.size
        have hd4 : Below w1.heap.size w1 w4 := hd3.trans (hn_w4.mono hd3.size)
        refine AwC.back ?_
        refine AwC.take (i := 8) NoP.midS rfl (by kernel_rfl) (by kernel_rfl) (by kernel_rfl) (fun w1 hc => Ex.move rfl) rfl ?_
        refine AwC.take (i := 9) NoP.midS rfl (by kernel_rfl) (by kernel_rfl) (by kernel_rfl) (fun w1 hc => Ex.extract (i := 0) rfl rfl) rfl ?_
        refine AwC.take (i := 10) NoP.midS rfl (by kernel_rfl) (by kernel_rfl) (by kernel_rfl) (fun w1 hc => Ex.extract (i := 1) rfl rfl) rfl ?_
        refine AwC.take (i := 11) NoP.midS rfl (by kernel_rfl) (by kernel_rfl) (by kernel_rfl) (fun w1 hc => Ex.extract (i := 2) rfl rfl) rfl ?_
        refine AwC.only (by assumption) (i := 13) (by kernel_rfl) rfl ?_
        have hM4 := hM
        have b_r4 := b_r.bs hn_w4
        have z1r : w1.heap.size ≤ w2.heap.size := hd.size
        have xb4 : ∀ k, x.ownBlock = some k → k < w4.heap.size := fun k e => (xb k e).2
        have yb4 : ∀ k, y.ownBlock = some k → k < w4.heap.size := fun k e => (yb k e).2
        have xne : ∀ k, x.ownBlock = some k → k ≠ w2.heap.size := fun k e => by have := xb k e; have := blk_lt b_r; omega
        have yne : ∀ k, y.ownBlock = some k → k ≠ w2.heap.size := fun k e => by have := yb k e; have := blk_lt b_r; omega
        have xl : ∀ k, x.ownBlock = some k → w1.heap.size ≤ k := fun k e => (hM4.row.lt k e).1
        have yl : ∀ k, y.ownBlock = some k → w1.heap.size ≤ k := fun k e => (own_block hM4.own k e).1
        refine Lw.unit (Xu.stA (cs := [u32 q.1, x, y]) rfl rfl rfl rfl (by rw [List.all_cons, hM4.one]; rfl) b_r4 rfl) ?_
        rintro w5 ⟨b_r5, hg5, hz5⟩
        have hd5 : Below w1.heap.size w1 w5 := hd4.grown hg5 hd4.size (by rintro _ ⟨⟩; exact z1r)
        have a_q : (T4.mk x y q.2.1 q.2.2).at w5 := ⟨hM4.sh.keep (fun k hk e => hg5.block k hk (fun e2 => xne k e (Option.some.inj e2))), (own_slT hM4.own).keep (fun k hk e => hg5.block k hk (fun e2 => yne k e (Option.some.inj e2)))⟩
        refine AwC.back ?_
        refine AwC.take (i := 14) NoP.midS rfl (by kernel_rfl) (by kernel_rfl) (by kernel_rfl) (fun w1 hc => Ex.assign rfl) rfl ?_
        refine AwC.take (i := 15) NoP.midS rfl (by kernel_rfl) (by kernel_rfl) (by kernel_rfl) (fun w1 hc => Ex.assign rfl) rfl ?_
        refine AwC.done (by assumption) (by kernel_rfl) ?_
        exact Pw.midS ((w2.heap.size, x, y)) ⟨rfl, rfl, rfl, rfl, rfl, rfl, trivial⟩ (⟨hd5, a_q, hM4.one, b_r5, fun k e => ⟨xl k e, by have := xb4 k e; omega⟩, fun k e => ⟨yl k e, by have := yb4 k e; omega⟩⟩)
    rintro ⟨A_r, x, y⟩ w4 ⟨hd4, a_q, one2, b_r, xb, yb⟩
    dsimp only at a_q one2 b_r xb yb ⊢
    have z0 := below_size hB
    have z3 := hd4.size
    have o_v := own_bs o_v hd4
    have hat4 : ∀ p ∈ ps, p.2.at w4 ∧ offV w4 p v := fun p hp => ⟨(hat p hp).1.bs hd4, (hat p hp).2.mono hd4.size⟩
    have hB4 := hB.trans (hd4.mono z0)
    refine Cw.seq ?_
    refine Cw.seq ?_
    refine Cw.region ?_
    refine Lw.val (Ex.move rfl) rfl ?_
    refine Lw.val (Ex.neq rfl rfl) rfl ?_
    refine Lw.nil ?_
    refine Pw.thenN (Cw.out ?_)
    refine Cw.condB rfl false (rfl) ?_
    refine Cw.skip ?_
    refine Pw.thenN (Cw.out ?_)
    refine Cw.region ?_
    refine Lw.val (Ex.move rfl) rfl ?_
    refine Lw.val (Ex.ldA (ag_39 _) (sz_39 _) rfl rfl (by assumption)) rfl ?_
    refine Lw.valW (Xw.litA1 st_66 it_39 rfl rfl (by decide) (by decide)) rfl ?_
    rintro m w5 ⟨o_m, -, hn5, -⟩
    have o_v := own_bs o_v hn5
    have a_q := a_q.bs hn5
    have z5 := hn5.size
    refine Lw.valW (Xw.append3 (base := w.heap.size) st_66 it_39 rfl (by decide) rfl rfl o_v (own_sl o_m) (by rw [List.all_cons, one2]; rfl) (by omega) (by omega) (by omega)) rfl ?_
    rintro v' w6 ⟨o_v', hg6, hcase⟩
    have ev : flw recC ps ++ [u32 q.1, x, y] = flw recC (ps ++ [(q.1, T4.mk x y q.2.1 q.2.2)]) := by rw [flw_app, flw_one]; rfl
    rw [ev] at o_v'
    have hv' : ∀ k, v'.ownBlock = some k → v.ownBlock = some k ∨ w5.heap.size ≤ k := fun k e => by
      rcases hcase with h | ⟨h, _⟩
      · rw [h] at e; exact .inl e
      · exact .inr (h k e)
    have b6 : ∀ {sz n : Nat} {c : Value} {xs : List Value}, Sl w5 sz c n xs → (∀ k, c.ownBlock = some k → v.ownBlock ≠ some k) → Sl w6 sz c n xs := fun hs hne => hs.keep (fun k hk e => hg6.block k hk (fun e2 => hne k e e2.symm))
    have z4 := hd4.size
    have z6 := hg6.size
    have nv : ∀ k, k < w5.heap.size → v.ownBlock ≠ some k → v'.ownBlock ≠ some k := fun k h1 h2 e => (hv' k e).elim h2 (fun e2 => by omega)
    have hatF : ∀ p ∈ ps ++ [(q.1, T4.mk x y q.2.1 q.2.2)], p.2.at w6 ∧ offV w6 p v' := fun p hp => by
      rcases List.mem_append.1 hp with hp | hp
      · have h1 := (hat4 p hp).1.bs hn5
        have h2 := (hat4 p hp).2.mono hn5.size
        exact ⟨⟨b6 h1.1 (fun k e => (h2.1 k e).2), b6 h1.2 (fun k e => (h2.2 k e).2)⟩, fun k e => ⟨by have := (h2.1 k e).1; omega, nv k (h2.1 k e).1 (h2.1 k e).2⟩, fun k e => ⟨by have := (h2.2 k e).1; omega, nv k (h2.2 k e).1 (h2.2 k e).2⟩⟩
      · rw [List.mem_singleton.1 hp]
        have h1 : ∀ k, x.ownBlock = some k → k < w5.heap.size ∧ v.ownBlock ≠ some k := fun k e => ⟨by have := xb k e; omega, fun e2 => by have := xb k e; have := vb k e2; omega⟩
        have h2 : ∀ k, y.ownBlock = some k → k < w5.heap.size ∧ v.ownBlock ≠ some k := fun k e => ⟨by have := yb k e; omega, fun e2 => by have := yb k e; have := vb k e2; omega⟩
        exact ⟨⟨b6 a_q.1 (fun k e => (h1 k e).2), b6 a_q.2 (fun k e => (h2 k e).2)⟩, fun k e => ⟨by have := (h1 k e).1; omega, nv k (h1 k e).1 (h1 k e).2⟩, fun k e => ⟨by have := (h2 k e).1; omega, nv k (h2 k e).1 (h2 k e).2⟩⟩
    have hB6 : Below w.heap.size w w6 := (hB4.trans (hn5.mono (by omega))).grown hg6 (by omega) (fun k e => (vb k e).1)
    have epS : (ps ++ [(q.1, T4.mk x y q.2.1 q.2.2)]).map recV = rs.take (i + 1) := by
      rw [List.map_append, hps, List.take_succ_eq_append_getElem (by omega)]
      congr 1
      have : rs[i]'(by omega) = q := by rw [hq, List.getD_eq_getElem?_getD, List.getElem?_eq_getElem (by omega)]; rfl
      rw [this]; rfl
    refine Lw.val (Ex.assign rfl) rfl ?_
    refine Lw.nil ?_
    refine Pw.blkN ?_
    refine Pw.thenN (Cw.out ?_)
    refine Cw.region ?_
    refine Lw.val (Ex.addI rfl rfl (by omega)) rfl ?_
    refine Lw.val (Ex.move rfl) rfl ?_
    refine Lw.nil ?_
    exact Pw.thenN (Pw.next ((i + 1, v', ps ++ [(q.1, T4.mk x y q.2.1 q.2.2)])) ⟨rfl, rfl, rfl, rfl, trivial⟩ (⟨hi', epS, by rw [List.length_append]; exact o_v', hatF, hB6⟩) (by simp only; omega))
  intro g
  have hi' : i = es.length := by have := of_decide_eq_false g; omega
  subst hi'
  rw [← hl, List.take_length] at hps
  have s_v := own_sl o_v
  refine Cw.exit ?_
  refine Pw.thenE ?_
  refine Pw.thenE ?_
  refine Pw.blkHit ?_
  refine Pw.thenN (Cw.out ?_)
  refine Cw.seq ?_
  refine Cw.region ?_
  refine Lw.val (Ex.move rfl) rfl ?_
  refine Lw.callF rfl rfl (clipR_c v ps.length _ w1 s_v) ?_
  rintro _ w2 ⟨rfl, hn⟩
  refine Lw.val (Ex.assign rfl) rfl ?_
  refine Lw.val (Ex.assign rfl) rfl ?_
  refine Lw.nil ?_
  refine Pw.thenN (Cw.out ?_)
  refine Cw.ret ?_
  refine Pw.ret2 rfl rfl rfl ?_
  exact ⟨hB.trans (hn.mono (below_size hB)), _, ps, rfl, s_v.clip.bs hn, fun p hp => (hat p hp).1.bs hn, hps⟩
end Go.Proofs.Ytiaojbbgjlpikaa
