/- Contract: a byte of a disk turns. -/
import Derived.Test.YtiaojbbgjlpikaaDiskMore
namespace Go.Proofs.Ytiaojbbgjlpikaa
open Go Go.Dd Go.RowKit
set_option maxRecDepth 100000

/-- A byte turned. -/
def rotB (b : By) (k : Nat) (x : BitVec 8) : By := b.set k (b.getD k default ^^^ x)
theorem rotB_len {b : By} {k : Nat} {x : BitVec 8} : (rotB b k x).length = b.length := by simp [rotB]
theorem sec_byte {l : List By} {n k : Nat} (h : ∀ b ∈ l, b.length = 64) (hn : n < l.length) (hk : k < 64) : (flw secC l)[n * 65 + 0 + k * 1]? = some (b8 ((l[n]).getD k default)) := by
  have hb := h _ (List.getElem_mem hn)
  rw [Nat.add_zero, Nat.mul_one, flw_get (secs_len h) hn (by omega)]
  unfold secC
  rw [List.getElem?_append_left (by simp [hb, hk])]
  simp [List.getD_eq_getElem?_getD, hb, hk]
theorem sec_rot {l : List By} {n k : Nat} {x : BitVec 8} (h : ∀ b ∈ l, b.length = 64) (hn : n < l.length) (hk : k < 64) : spl (flw secC l) (n * 65 + 0 + k * 1) [b8 ((l[n]).getD k default ^^^ x)] = flw secC (l.set n (rotB l[n] k x)) := by
  have hb := h _ (List.getElem_mem hn)
  rw [Nat.add_zero, Nat.mul_one]
  refine flw_spl (secs_len h) hn (by simp; omega) ?_
  rw [spl_one (by rw [secC_len hb]; omega)]
  unfold secC rotB
  rw [List.set_append_left _ _ (by simp [hb, hk]), List.map_set]
theorem to_c (A : Nat) (S : Nat → Prop) (D : Dsk) (n : Int) (w : World) (h : DiskAt w S A D) (hw : D.waits = []) :
    Fnc Try.prog 43 [.pointer (some ⟨A, 0, none⟩), .int .i64 n] w (fun r w' => r = .slice none 0 0 ∧ w' = w) := by
  obtain ⟨vs, ve, vw, h⟩ := h
  have b_A := h.box
  have s_w := own_sl h.ow
  rw [hw] at s_w
  refine Fnc.enter (n := 36) Try.func43 (by kernel_rfl) rfl rfl rfl ?_
  refine Cw.seq ?_
  refine Cw.region ?_
  refine Lw.val (Ex.assign rfl) rfl ?_
  refine Lw.nil ?_
  refine Pw.thenN (Cw.out ?_)
  refine Cw.seq ?_
  refine Cw.seq ?_
  refine Cw.region ?_
  refine Lw.val (Ex.move rfl) rfl ?_
  refine Lw.val (Ex.nilCheck rfl) rfl ?_
  refine Lw.val (Ex.fieldAddr (q := 0) Try.underlying95 rfl (sz_93 _) rfl) rfl ?_
  refine Lw.val (Ex.ldB (ag_93 _) rfl (by assumption) rfl) rfl ?_
  refine Lw.val (Ex.lenS st_93 rfl (by assumption)) rfl ?_
  refine Lw.val (Ex.move rfl) rfl ?_
  refine Lw.nil ?_
  refine Pw.thenN (Cw.out ?_)
  refine Cw.block ?_
  refine Cw.loop (S := Nat) (fun i => [(4, .slice none 0 0), (10, .int .i64 0), (11, .int .i64 (i : Int))]) (fun i w' => w' = w) (fun i => i) (0) ⟨rfl, rfl, rfl, trivial⟩ ?_ ?_
  · exact rfl
  rintro i w1 rfl
  refine Cw.seq ?_
  refine Cw.region ?_
  refine Lw.val (Ex.lss rfl rfl) rfl ?_
  refine Lw.nil ?_
  refine Pw.thenN (Cw.out ?_)
  refine Cw.seq ?_
  refine Cw.condB rfl false ((by rw [decide_eq_false]; omega)) ?_
  refine Cw.exit ?_
  refine Pw.thenE ?_
  refine Pw.thenE ?_
  refine Pw.blkHit ?_
  refine Pw.thenN (Cw.out ?_)
  refine Cw.seq ?_
  refine Cw.region ?_
  refine Lw.val (Ex.move rfl) rfl ?_
  refine Lw.val (Ex.assign rfl) rfl ?_
  refine Lw.nil ?_
  refine Pw.thenN (Cw.out ?_)
  refine Cw.ret ?_
  refine Pw.ret1 rfl rfl ?_
  exact ⟨rfl, rfl⟩
theorem rot_c (A : Nat) (S : Nat → Prop) (D : Dsk) (n k : Nat) (x : BitVec 8) (w : World) (h : DiskAt w S A D) (hw : D.waits = []) (hn : n < D.seen.length) (hk : k < 64) :
    Fnc Try.prog 21 [.pointer (some ⟨A, 0, none⟩), .int .i64 (n : Int), .int .i64 (k : Int), b8 x] w (fun r w' => r = .int .i64 0 ∧ Chg S w w' ∧ DiskAt w' (gro S w w') A ⟨D.sure.set n (rotB (D.sure.getD n []) k x), D.seen.set n (rotB (D.seen.getD n []) k x), []⟩) := by
  have h0 := h
  obtain ⟨vs, ve, vw, h⟩ := h
  have ok := h.ok
  have hns : n < D.sure.length := by have := ok.len; omega
  obtain ⟨ge, ce, -, ee, -, -⟩ := own_blk h.oe (by omega)
  obtain ⟨gs, cs, -, es, -, -⟩ := own_blk h.os (by omega)
  have lfe := flw_len (secs_len ok.f2)
  have lee := flw_le (k := 65) (i := 65) hn (Nat.le_refl _)
  have lfs := flw_len (secs_len ok.f1)
  have les := flw_le (k := 65) (i := 65) hns (Nat.le_refl _)
  refine Fnc.enter (n := 78) Try.func21 (by kernel_rfl) rfl rfl rfl ?_
  refine Cw.seq ?_
  refine Cw.region ?_
  refine Lw.val (Ex.assign rfl) rfl ?_
  refine Lw.nil ?_
  refine Pw.thenN (Cw.out ?_)
  refine Cw.seq ?_
  refine Cw.region ?_
  refine Lw.val (Ex.move rfl) rfl ?_
  refine Lw.val (Ex.move rfl) rfl ?_
  refine Lw.callF rfl rfl (ask_c A S D n w h0) ?_
  rintro _ w ⟨rfl, rfl⟩
  rw [if_pos (show (0 : Int) ≤ (n : Int) ∧ (n : Int) < D.seen.length by omega)]
  refine Lw.val (Ex.assign rfl) rfl ?_
  refine Lw.nil ?_
  refine Pw.thenN (Cw.out ?_)
  refine Cw.seq ?_
  refine Cw.seq ?_
  refine Cw.region ?_
  refine Lw.val (Ex.move rfl) rfl ?_
  refine Lw.val (Ex.eql rfl rfl) rfl ?_
  refine Lw.val (Ex.move rfl) rfl ?_
  refine Lw.know 17 (v' := .bool true) rfl (congrArg Value.bool (rfl)) ?_
  refine Lw.take (dj := 17) rfl rfl ?_
  refine Lw.val (Ex.move rfl) rfl ?_
  refine Lw.take (dj := 17) rfl rfl ?_
  refine Lw.val (Ex.lss rfl rfl) rfl ?_
  refine Lw.take (dj := 17) rfl rfl ?_
  refine Lw.val (Ex.move rfl) rfl ?_
  refine Lw.know 20 (v' := .bool false) rfl (congrArg Value.bool ((by rw [decide_eq_false]; omega))) ?_
  refine Lw.take (dj := 20) rfl rfl ?_
  refine Lw.val (Ex.move rfl) rfl ?_
  refine Lw.take (dj := 20) rfl rfl ?_
  refine Lw.val (Ex.geq rfl rfl) rfl ?_
  refine Lw.take (dj := 17) rfl rfl ?_
  refine Lw.val (Ex.pickF rfl rfl) rfl ?_
  refine Lw.val (Ex.pickT rfl rfl) rfl ?_
  refine Lw.nil ?_
  refine Pw.thenN (Cw.out ?_)
  refine Cw.condB rfl false ((by rw [decide_eq_false]; omega)) ?_
  refine Cw.skip ?_
  refine Pw.thenN (Cw.out ?_)
  refine Cw.seq ?_
  refine Cw.seq ?_
  refine Cw.region ?_
  refine Lw.val (Ex.move rfl) rfl ?_
  refine Lw.val (Ex.neq rfl rfl) rfl ?_
  refine Lw.nil ?_
  refine Pw.thenN (Cw.out ?_)
  refine Cw.condB rfl false (rfl) ?_
  refine Cw.skip ?_
  refine Pw.thenN (Cw.out ?_)
  refine Cw.seq ?_
  refine Cw.tail 15 mixed (by kernel_rfl) ?_
  refine Qw.val (fun w1 hq => Ex.move rfl) rfl ?_
  refine Qw.val (fun w1 hq => Ex.nilCheck rfl) rfl ?_
  refine Qw.val (fun w1 hq => Ex.fieldAddr (q := 0) Try.underlying95 rfl (sz_70 _) rfl) rfl ?_
  refine Qw.val (fun w1 hq => Ex.ldB (ag_70 _) rfl (h.box.bs hq) rfl) rfl ?_
  refine Qw.val (fun w1 hq => Ex.move rfl) rfl ?_
  refine Qw.val (fun w1 hq => Ex.move rfl) rfl ?_
  refine Qw.val (fun w1 hq => Ex.idxO st_70 rfl rfl (h.oe.bs hq) ee n rfl hn) rfl ?_
  refine Qw.val (fun w1 hq => Ex.fieldAddr (q := 63) Try.underlying92 rfl (sz_90 _) rfl) rfl ?_
  refine Qw.val (fun w1 hq => Ex.idxB un_90 sz_5 rfl rfl k rfl hk) rfl ?_
  refine Qw.val (fun w1 hq => Ex.ldO (ag_5 _) rfl (h.oe.bs hq) ee (sec_byte ok.f2 hn hk)) rfl ?_
  refine Qw.val (fun w1 hq => Ex.move rfl) rfl ?_
  refine Qw.val (fun w1 hq => Ex.xor8 rfl rfl) rfl ?_
  refine Qw.val (fun w1 hq => Ex.idxO st_70 rfl rfl (h.oe.bs hq) ee n rfl hn) rfl ?_
  refine Qw.val (fun w1 hq => Ex.fieldAddr (q := 63) Try.underlying92 rfl (sz_90 _) rfl) rfl ?_
  refine Qw.val (fun w1 hq => Ex.idxB un_90 sz_5 rfl rfl k rfl hk) rfl ?_
  refine Qw.done (fun w1 hq => ?_)
  refine Lw.unit (Xu.stO1 (u := b8 ((D.seen[n]).getD k default ^^^ x)) (sz_5 _) rfl rfl rfl (h.oe.bs hq) ee (show n * 65 + 0 + k * 1 < _ by omega)) ?_
  rintro w2 ⟨oe, hg2, hz2⟩
  replace oe : w2.ownsRow 0 secT 65 ve D.seen.length (spl (flw secC D.seen) (n * 65 + 0 + k * 1) [b8 ((D.seen[n]).getD k default ^^^ x)]) := oe
  rw [sec_rot ok.f2 hn hk] at oe
  have h1 := h.bs hq
  have C2 : Chg S w w2 := (Chg.of_below hq).grown hg2 (fun b e => .inl (by cases e; exact (h.se _ ee).1))
  have b_A := h1.box.by hg2 (by intro e; cases e; exact (h.se _ ee).2 rfl)
  have os := own_heap h1.os (fun b e => hg2.block b (own_block h1.os b e).2 (by intro e2; cases e2; exact h.dse _ e ee))
  have ow := own_heap h1.ow (fun b e => hg2.block b (own_block h1.ow b e).2 (by intro e2; cases e2; exact h.dew _ ee e))
  refine Lw.nil ?_
  refine Pw.thenN (Cw.out ?_)
  refine Cw.seq ?_
  clear hq
  refine Cw.tail 15 mixed (by kernel_rfl) ?_
  refine Qw.val (fun w1 hq => Ex.move rfl) rfl ?_
  refine Qw.val (fun w1 hq => Ex.nilCheck rfl) rfl ?_
  refine Qw.val (fun w1 hq => Ex.fieldAddr (q := 0) Try.underlying95 rfl (sz_70 _) rfl) rfl ?_
  refine Qw.val (fun w1 hq => Ex.ldB (ag_70 _) rfl (b_A.bs hq) rfl) rfl ?_
  refine Qw.val (fun w1 hq => Ex.move rfl) rfl ?_
  refine Qw.val (fun w1 hq => Ex.move rfl) rfl ?_
  refine Qw.val (fun w1 hq => Ex.idxO st_70 rfl rfl (os.bs hq) es n rfl hns) rfl ?_
  refine Qw.val (fun w1 hq => Ex.fieldAddr (q := 63) Try.underlying92 rfl (sz_90 _) rfl) rfl ?_
  refine Qw.val (fun w1 hq => Ex.idxB un_90 sz_5 rfl rfl k rfl hk) rfl ?_
  refine Qw.val (fun w1 hq => Ex.ldO (ag_5 _) rfl (os.bs hq) es (sec_byte ok.f1 hns hk)) rfl ?_
  refine Qw.val (fun w1 hq => Ex.move rfl) rfl ?_
  refine Qw.val (fun w1 hq => Ex.xor8 rfl rfl) rfl ?_
  refine Qw.val (fun w1 hq => Ex.idxO st_70 rfl rfl (os.bs hq) es n rfl hns) rfl ?_
  refine Qw.val (fun w1 hq => Ex.fieldAddr (q := 63) Try.underlying92 rfl (sz_90 _) rfl) rfl ?_
  refine Qw.val (fun w1 hq => Ex.idxB un_90 sz_5 rfl rfl k rfl hk) rfl ?_
  refine Qw.done (fun w3 hq => ?_)
  refine Lw.unit (Xu.stO1 (u := b8 ((D.sure[n]).getD k default ^^^ x)) (sz_5 _) rfl rfl rfl (os.bs hq) es (show n * 65 + 0 + k * 1 < _ by omega)) ?_
  rintro w4 ⟨os4, hg4, hz4⟩
  replace os4 : w4.ownsRow 0 secT 65 vs D.sure.length (spl (flw secC D.sure) (n * 65 + 0 + k * 1) [b8 ((D.sure[n]).getD k default ^^^ x)]) := os4
  rw [sec_rot ok.f1 hns hk] at os4
  have C4 := (C2.below hq).grown hg4 (fun b e => .inl (by cases e; exact (h.ss _ es).1))
  have b_A := (b_A.bs hq).by hg4 (by intro e; cases e; exact (h.ss _ es).2 rfl)
  have oe4 := own_heap (own_bs oe hq) (fun b e => hg4.block b (own_block (own_bs oe hq) b e).2 (by intro e2; cases e2; exact h.dse _ es e))
  have ow4 := own_heap (own_bs ow hq) (fun b e => hg4.block b (own_block (own_bs ow hq) b e).2 (by intro e2; cases e2; exact h.dsw _ es e))
  have z4 := C4.size
  have eD : (⟨D.sure.set n (rotB (D.sure.getD n []) k x), D.seen.set n (rotB (D.seen.getD n []) k x), []⟩ : Dsk) = ⟨D.sure.set n (rotB D.sure[n] k x), D.seen.set n (rotB D.seen[n] k x), []⟩ := by
    simp [List.getD_eq_getElem?_getD, hn, hns]
  have f64 : ∀ {l : List By} (_ : ∀ b ∈ l, b.length = 64) (hl : n < l.length), ∀ b ∈ l.set n (rotB l[n] k x), b.length = 64 := fun h hl b hb => (List.mem_or_eq_of_mem_set hb).elim (h b) (fun e => by rw [e, rotB_len]; exact h _ (List.getElem_mem hl))
  have hF : DiskAt w4 (gro S w w4) A ⟨D.sure.set n (rotB (D.sure.getD n []) k x), D.seen.set n (rotB (D.seen.getD n []) k x), []⟩ := by
    rw [eD]
    exact ⟨vs, ve, vw, b_A, by rw [List.length_set]; exact os4, by rw [List.length_set]; exact oe4, by rw [hw] at ow4; exact ow4, .inl h.sA, fun b e => ⟨.inl (h.ss b e).1, (h.ss b e).2⟩, fun b e => ⟨.inl (h.se b e).1, (h.se b e).2⟩, fun b e => ⟨.inl (h.sw b e).1, (h.sw b e).2⟩, h.dse, h.dsw, h.dew, fun b e => e.elim (fun e => by have := h.lt b e; omega) (fun e => e.2), ⟨by simp [ok.len], by simp only [List.length_set]; exact ok.one, by simp only [List.length_set]; exact ok.few, f64 ok.f1 hns, f64 ok.f2 hn, fun x hx => by cases hx⟩⟩
  refine Lw.nil ?_
  refine Pw.thenN (Cw.out ?_)
  refine Cw.seq ?_
  refine Cw.seq ?_
  refine Cw.region ?_
  refine Lw.val (Ex.move rfl) rfl ?_
  refine Lw.val (Ex.move rfl) rfl ?_
  refine Lw.callF rfl rfl (to_c A _ _ n w4 hF rfl) ?_
  rintro _ w ⟨rfl, rfl⟩
  have s_n := Sl.nil w 1
  refine Lw.val (Ex.lenS st_102 rfl (by assumption)) rfl ?_
  refine Lw.val (Ex.move rfl) rfl ?_
  refine Lw.nil ?_
  refine Pw.thenN (Cw.out ?_)
  refine Cw.block ?_
  refine Cw.loop (S := Nat) (fun i => [(61, .int .i64 0), (62, .int .i64 (i : Int))]) (fun i w' => w' = w) (fun i => i) (0) ⟨rfl, rfl, trivial⟩ ?_ ?_
  · exact rfl
  rintro i w1 rfl
  refine Cw.seq ?_
  refine Cw.region ?_
  refine Lw.val (Ex.lss rfl rfl) rfl ?_
  refine Lw.nil ?_
  refine Pw.thenN (Cw.out ?_)
  refine Cw.seq ?_
  refine Cw.condB rfl false ((by rw [decide_eq_false]; omega)) ?_
  refine Cw.exit ?_
  refine Pw.thenE ?_
  refine Pw.thenE ?_
  refine Pw.blkHit ?_
  refine Pw.thenN (Cw.out ?_)
  refine Cw.seq ?_
  refine Cw.region ?_
  refine Lw.val (Ex.assign rfl) rfl ?_
  refine Lw.nil ?_
  refine Pw.thenN (Cw.out ?_)
  refine Cw.ret ?_
  refine Pw.ret1 rfl rfl ?_
  exact ⟨rfl, C4, hF⟩
end Go.Proofs.Ytiaojbbgjlpikaa
