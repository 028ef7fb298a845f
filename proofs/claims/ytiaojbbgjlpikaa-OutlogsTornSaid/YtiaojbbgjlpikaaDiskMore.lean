/- Contracts: reading from a disk, making it sure, failing. -/
import Derived.Test.YtiaojbbgjlpikaaDiskCode
namespace Go.Proofs.Ytiaojbbgjlpikaa
open Go Go.Dd Go.RowKit
set_option maxRecDepth 100000

theorem bclone_c (u : Value) (a : By) (w : World) (hu : SlT b8 w u a) (hb : a.length ≤ 16777216) : Fnc Try.prog 36 [u] w (fun r w' => w'.ownsRow w.heap.size 5 1 r a.length (a.map b8) ∧ Below w.heap.size w w') := by
  obtain ⟨hl, ao, cap, rfl, h1, h2, h3, h4⟩ := hu
  have hu : SlT b8 w (.slice ao a.length cap) a := ⟨hl, ao, cap, rfl, h1, h2, h3, h4⟩
  refine Fnc.enter (n := 8) Try.func36 (by kernel_rfl) rfl rfl rfl ?_
  refine Cw.seq ?_
  refine Cw.region ?_
  refine Lw.val (Ex.assign rfl) rfl ?_
  refine Lw.nil ?_
  refine Pw.thenN (Cw.out ?_)
  refine Cw.seq ?_
  refine Cw.seq ?_
  refine Cw.region ?_
  refine Lw.val (Ex.move rfl) rfl ?_
  refine Lw.val (Ex.nilS un_53 rfl rfl) rfl ?_
  refine Lw.nil ?_
  refine Pw.thenN (Cw.out ?_)
  refine Cw.cond rfl ?_ ?_
  · intro h
    obtain rfl : ao = none := by cases ao <;> simp_all
    obtain rfl : a = [] := List.eq_nil_of_length_eq_zero (by have := h3 rfl; omega)
    refine Cw.seq ?_
    refine Cw.region ?_
    refine Lw.val (Ex.assign rfl) rfl ?_
    refine Lw.nil ?_
    refine Pw.thenN (Cw.out ?_)
    refine Cw.ret ?_
    refine Pw.thenR ?_
    refine Pw.ret1 rfl rfl ?_
    exact ⟨⟨rfl, .inl ⟨rfl, rfl⟩⟩, Below.refl _ _⟩
  intro h
  refine Cw.skip ?_
  refine Pw.thenN (Cw.out ?_)
  refine Cw.seq ?_
  refine Cw.region ?_
  refine Lw.valW (Xw.lit (vs := []) st_53 it_5 rfl rfl rfl rfl rfl) rfl ?_
  rintro v1 w1 ⟨ho1, -, hB1, -⟩
  refine Lw.val (Ex.move rfl) rfl ?_
  refine Lw.valW (Xw.append (base := w.heap.size) st_53 it_5 rfl (by decide) rfl rfl ho1 (hu.bs hB1) (b8_ones a) (by omega) (by omega) hB1.size) rfl ?_
  rintro v2 w2 ⟨ho2, hB2, -⟩
  rw [Nat.zero_add, List.nil_append] at ho2
  refine Lw.val (Ex.assign rfl) rfl ?_
  refine Lw.nil ?_
  refine Pw.thenN (Cw.out ?_)
  refine Cw.ret ?_
  refine Pw.ret1 rfl rfl ?_
  exact ⟨ho2, hB1.trans hB2⟩
theorem sec_arr {l : List By} {n : Nat} (h : ∀ b ∈ l, b.length = 64) (hn : n < l.length) : ((flw secC l).drop (n * 65)).take 64 = (l[n]).map b8 := by
  have h1 := flw_part (secs_len h) hn
  have h2 := congrArg (List.take 64) h1
  rw [List.take_take] at h2
  have h3 : (secC l[n]).take 64 = (l[n]).map b8 := by
    have := secC_arr (h _ (List.getElem_mem hn))
    rwa [List.drop_zero] at this
  rw [h3] at h2
  exact h2
theorem sec_bad {l : List By} {n : Nat} (h : ∀ b ∈ l, b.length = 64) (hn : n < l.length) : (flw secC l)[n * 65 + 64]? = some (.int .i64 0) := by
  rw [flw_get (secs_len h) hn (by decide)]
  unfold secC
  rw [List.getElem?_append_right (by simp [h _ (List.getElem_mem hn)])]
  simp [h _ (List.getElem_mem hn)]
theorem read_c (A : Nat) (S : Nat → Prop) (D : Dsk) (n : Nat) (w : World) (h : DiskAt w S A D) (hn : n < D.seen.length) :
    Fnc Try.prog 18 [.pointer (some ⟨A, 0, none⟩), .int .i64 (n : Int)] w (fun r w' => Below w.heap.size w w' ∧ ∃ x, r = .tuple #[x, .int .i64 0] ∧ KRow w' w.heap.size 5 1 x 64 ((D.seen[n]).map b8)) := by
  have h0 := h
  obtain ⟨vs, ve, vw, h⟩ := h
  obtain ⟨ge, cap, -, eg, -, -⟩ := own_blk h.oe (by have := h.ok.len; have := h.ok.one; omega)
  have l64 := h.ok.f2 _ (List.getElem_mem hn)
  have lf := flw_len (secs_len h.ok.f2)
  have hle := flw_le (k := 65) (i := 64) hn (by decide)
  have b_A := h.box
  obtain ⟨b, hb⟩ : ∃ b, b = D.seen[n] := ⟨_, rfl⟩
  rw [← hb] at l64 ⊢
  refine Fnc.enter (n := 32) Try.func18 (by kernel_rfl) rfl rfl rfl ?_
  refine Cw.seq ?_
  refine Cw.region ?_
  refine Lw.val (Ex.assign rfl) rfl ?_
  refine Lw.val (Ex.assign rfl) rfl ?_
  refine Lw.nil ?_
  refine Pw.thenN (Cw.out ?_)
  refine Cw.seq ?_
  refine Cw.seq ?_
  refine Cw.region ?_
  refine Lw.val (Ex.move rfl) rfl ?_
  refine Lw.val (Ex.move rfl) rfl ?_
  refine Lw.callF rfl rfl (ask_c A S D n w h0) ?_
  rintro _ w ⟨rfl, rfl⟩
  rw [if_pos (show (0 : Int) ≤ (n : Int) ∧ (n : Int) < D.seen.length by omega)]
  refine Lw.val (Ex.assign rfl) rfl ?_
  refine Lw.nil ?_
  refine Pw.thenN (Cw.out ?_)
  refine Cw.seq ?_
  refine Cw.region ?_
  refine Lw.val (Ex.move rfl) rfl ?_
  refine Lw.val (Ex.neq rfl rfl) rfl ?_
  refine Lw.nil ?_
  refine Pw.thenN (Cw.out ?_)
  refine Cw.condB rfl false (rfl) ?_
  refine Cw.skip ?_
  refine Pw.thenN (Cw.out ?_)
  refine Cw.seq ?_
  refine Cw.seq ?_
  refine Cw.region ?_
  refine Lw.val (Ex.move rfl) rfl ?_
  refine Lw.val (Ex.nilCheck rfl) rfl ?_
  refine Lw.val (Ex.fieldAddr (q := 0) Try.underlying95 rfl (sz_70 _) rfl) rfl ?_
  refine Lw.val (Ex.ldB (ag_70 _) rfl (by assumption) rfl) rfl ?_
  refine Lw.val (Ex.move rfl) rfl ?_
  refine Lw.val (Ex.idxO st_70 rfl rfl h.oe eg n rfl hn) rfl ?_
  refine Lw.val (Ex.fieldAddr (q := 0) Try.underlying92 rfl (sz_3 _) rfl) rfl ?_
  refine Lw.val (Ex.ldO (ag_3 _) rfl h.oe eg (sec_bad h.ok.f2 hn)) rfl ?_
  refine Lw.val (Ex.eql rfl rfl) rfl ?_
  refine Lw.nil ?_
  refine Pw.thenN (Cw.out ?_)
  refine Cw.condB rfl false (rfl) ?_
  refine Cw.skip ?_
  refine Pw.thenN (Cw.out ?_)
  refine Cw.seq ?_
  refine Cw.region ?_
  refine Lw.val (Ex.move rfl) rfl ?_
  refine Lw.val (Ex.nilCheck rfl) rfl ?_
  refine Lw.val (Ex.fieldAddr (q := 0) Try.underlying95 rfl (sz_70 _) rfl) rfl ?_
  refine Lw.val (Ex.ldB (ag_70 _) rfl (by assumption) rfl) rfl ?_
  refine Lw.val (Ex.move rfl) rfl ?_
  refine Lw.val (Ex.idxO st_70 rfl rfl h.oe eg n rfl hn) rfl ?_
  refine Lw.val (Ex.fieldAddr (q := 63) Try.underlying92 rfl (sz_90 _) rfl) rfl ?_
  refine Lw.val (Ex.arr un_90 sz_5 rfl) rfl ?_
  have sb : SlT b8 w (.slice (some ⟨ge, n * 65 + 0, none⟩) 64 64) b := by
    have := own_arr (o := n * 65 + 0) (m := 64) (cap := 64) h.oe eg (by omega) (Nat.le_refl _) (by unfold maxLen; omega)
    rw [Nat.add_zero, sec_arr h.ok.f2 hn, ← hb] at this
    unfold SlT
    rw [l64]; exact this
  refine Lw.callF rfl rfl (bclone_c _ b w sb (by omega)) ?_
  rintro x w1 ⟨ho, hn1⟩
  refine Lw.callF rfl rfl (clipU8_c x b w1 (own_slT ho)) ?_
  rintro _ w2 ⟨rfl, hn2⟩
  refine Lw.val (Ex.assign rfl) rfl ?_
  refine Lw.val (Ex.assign rfl) rfl ?_
  refine Lw.nil ?_
  refine Pw.thenN (Cw.out ?_)
  refine Cw.ret ?_
  refine Pw.ret2 rfl rfl rfl ?_
  exact ⟨hn1.trans (hn2.mono hn1.size), _, rfl, by have := (KRow.clip ho).bs hn2; rwa [l64] at this⟩

theorem sync_c (A : Nat) (S : Nat → Prop) (D : Dsk) (w : World) (h : DiskAt w S A D) :
    Fnc Try.prog 20 [.pointer (some ⟨A, 0, none⟩)] w (fun r w' => r = .int .i64 0 ∧ Chg S w w' ∧ DiskAt w' (gro S w w') A ⟨D.seen, D.seen, []⟩) := by
  have h0 := h
  obtain ⟨vs, ve, vw, h⟩ := h
  have ok := h.ok
  have yA := blk_lt h.box
  refine Fnc.enter (n := 20) Try.func20 (by kernel_rfl) rfl rfl rfl ?_
  refine Cw.seq ?_
  refine Cw.region ?_
  refine Lw.val (Ex.assign rfl) rfl ?_
  refine Lw.nil ?_
  refine Pw.thenN (Cw.out ?_)
  refine Cw.seq ?_
  refine Cw.region ?_
  refine Lw.val (Ex.move rfl) rfl ?_
  refine Lw.callF rfl rfl (ask_c A S D 0 w h0) ?_
  rintro _ w ⟨rfl, rfl⟩
  rw [if_pos (show (0 : Int) ≤ 0 ∧ (0 : Int) < D.seen.length by have := ok.len; have := ok.one; omega)]
  have b_A := h.box
  refine Lw.val (Ex.assign rfl) rfl ?_
  refine Lw.nil ?_
  refine Pw.thenN (Cw.out ?_)
  refine Cw.seq ?_
  refine Cw.seq ?_
  refine Cw.region ?_
  refine Lw.val (Ex.move rfl) rfl ?_
  refine Lw.val (Ex.eql rfl rfl) rfl ?_
  refine Lw.nil ?_
  refine Pw.thenN (Cw.out ?_)
  refine Cw.condB rfl true (rfl) ?_
  refine Cw.region ?_
  refine Lw.val (Ex.move rfl) rfl ?_
  refine Lw.val (Ex.move rfl) rfl ?_
  refine Lw.val (Ex.move rfl) rfl ?_
  refine Lw.val (Ex.nilCheck rfl) rfl ?_
  refine Lw.val (Ex.fieldAddr (q := 0) Try.underlying95 rfl (sz_70 _) rfl) rfl ?_
  refine Lw.val (Ex.ldB (ag_70 _) rfl (by assumption) rfl) rfl ?_
  refine Lw.callF rfl rfl (sclone_c ve D.seen.length (flw secC D.seen) w (own_sl h.oe) (flw_ones fun b _ => secC_ones b) (by have := ok.len; have := ok.one; omega) (by have := ok.len; have := ok.few; omega)) ?_
  rintro x w1 ⟨hx, hn⟩
  have h1 := h.bs hn
  have b_A := h1.box
  have xb := own_block hx
  have zn := hn.size
  refine Lw.val (Ex.nilCheck rfl) rfl ?_
  refine Lw.val (Ex.fieldAddr (q := 0) Try.underlying95 rfl (sz_70 _) rfl) rfl ?_
  refine Lw.unit (Xu.stB (u := x) (sz_70 _) rfl rfl (own_sl hx).one' b_A (show 0 < 3 by decide)) ?_
  rintro w2 ⟨b_A, hg2, hz2⟩
  refine Lw.val (Ex.nilCheck rfl) rfl ?_
  refine Lw.val (Ex.fieldAddr (q := 0) Try.underlying95 rfl (sz_93 _) rfl) rfl ?_
  refine Lw.unit (Xu.stB (u := .slice none 0 0) (sz_93 _) rfl rfl rfl b_A (show 2 < 3 by decide)) ?_
  rintro w3 ⟨b_A, hg3, hz3⟩
  have ltS := h.lt
  have C3 : Chg S w w3 := ((Chg.of_below hn).grown hg2 (fun k e => .inl (by cases e; exact h.sA))).grown hg3 (fun k e => .inl (by cases e; exact h.sA))
  have oe := own_heap (own_heap h1.oe (fun k e => hg2.block k (own_block h1.oe k e).2 (fun e2 => (h.se k e).2 (Option.some.inj e2)))) (fun k e => hg3.block k (by have := (own_block h1.oe k e).2; omega) (fun e2 => (h.se k e).2 (Option.some.inj e2)))
  have ox := own_heap (own_heap hx (fun k e => hg2.block k (own_block hx k e).2 (fun e2 => by have := xb k e; cases e2; omega))) (fun k e => hg3.block k (by have := (xb k e).2; omega) (fun e2 => by have := xb k e; cases e2; omega))
  refine Lw.nil ?_
  refine Pw.thenN (Cw.out ?_)
  refine Cw.seq ?_
  refine Cw.region ?_
  refine Lw.val (Ex.move rfl) rfl ?_
  refine Lw.val (Ex.assign rfl) rfl ?_
  refine Lw.nil ?_
  refine Pw.thenN (Cw.out ?_)
  refine Cw.ret ?_
  refine Pw.ret1 rfl rfl ?_
  exact ⟨rfl, C3, x, ve, .slice none 0 0, b_A, own_mono ox (Nat.zero_le _), oe, ⟨rfl, .inl ⟨rfl, rfl⟩⟩, .inl h.sA, fun k e => ⟨.inr (by have := xb k e; omega), by have := xb k e; omega⟩, fun k e => ⟨.inl (h.se k e).1, (h.se k e).2⟩, fun k e => (by cases e), fun k e1 e2 => by have := xb k e1; have := ltS k (h.se k e2).1; omega, fun k e1 e2 => (by cases e2), fun k e1 e2 => (by cases e2), fun k e => e.elim (fun h => by have := ltS k h; omega) (fun h => h.2), ⟨rfl, by have := ok.len; have := ok.one; simp only; omega, by have := ok.len; have := ok.few; simp only; omega, ok.f2, ok.f2, fun x hx => by cases hx⟩⟩

/-! ### What is left -/
theorem wr_at {l : List (Nat × By)} {i : Nat} (h : ∀ x ∈ l, (wrC x).length = 66) (hi : i < l.length) : ((flw wrC l).drop (i * 66)).take 66 = wrC l[i] := flw_part h hi
theorem fail_c (A : Nat) (S : Nat → Prop) (D : Dsk) (keep : BitVec 64) (torn : Int) (w : World) (h : DiskAt w S A D) :
    Fnc Try.prog 16 [.pointer (some ⟨A, 0, none⟩), u64 keep, .int .i64 torn] w (fun r w' => Below w.heap.size w w' ∧ ∃ A', r = .tuple #[.pointer (some ⟨A', 0, none⟩), .int .i64 0] ∧ DiskAt w' (fun b => w.heap.size ≤ b ∧ b < w'.heap.size) A' ⟨failL keep torn D.sure D.waits, failL keep torn D.sure D.waits, []⟩) := by
  have h0 := h
  obtain ⟨vs, ve, vw, h⟩ := h
  have ok := h.ok
  have yA := blk_lt h.box
  have wle := (own_sl h.ow).le
  have hB := Below.refl w.heap.size w
  refine Fnc.enter (n := 73) Try.func16 (by kernel_rfl) rfl rfl rfl ?_
  refine Cw.seq ?_
  refine Cw.region ?_
  refine Lw.val (Ex.assign rfl) rfl ?_
  refine Lw.val (Ex.assign rfl) rfl ?_
  refine Lw.nil ?_
  refine Pw.thenN (Cw.out ?_)
  refine Cw.seq ?_
  refine Cw.seq ?_
  refine Cw.region ?_
  refine Lw.val (Ex.move rfl) rfl ?_
  refine Lw.callF rfl rfl (ask_c A S D 0 w h0) ?_
  rintro _ w ⟨rfl, rfl⟩
  rw [if_pos (show (0 : Int) ≤ 0 ∧ (0 : Int) < D.seen.length by have := ok.len; have := ok.one; omega)]
  have b_A := h.box
  refine Lw.val (Ex.assign rfl) rfl ?_
  refine Lw.nil ?_
  refine Pw.thenN (Cw.out ?_)
  refine Cw.seq ?_
  refine Cw.region ?_
  refine Lw.val (Ex.move rfl) rfl ?_
  refine Lw.val (Ex.neq rfl rfl) rfl ?_
  refine Lw.nil ?_
  refine Pw.thenN (Cw.out ?_)
  refine Cw.condB rfl false (rfl) ?_
  refine Cw.skip ?_
  refine Pw.thenN (Cw.out ?_)
  refine Cw.seq ?_
  refine Cw.region ?_
  refine Lw.val (Ex.move rfl) rfl ?_
  refine Lw.val (Ex.nilCheck rfl) rfl ?_
  refine Lw.val (Ex.fieldAddr (q := 0) Try.underlying95 rfl (sz_70 _) rfl) rfl ?_
  refine Lw.val (Ex.ldB (ag_70 _) rfl (by assumption) rfl) rfl ?_
  refine Lw.callF rfl rfl (sclone_c vs D.sure.length (flw secC D.sure) w (own_sl h.os) (flw_ones fun b _ => secC_ones b) ok.one ok.few) ?_
  rintro x w1 ⟨hx, hn⟩
  have h1 := h.bs hn
  have b_A := h1.box
  have xb := own_block hx
  have zn := hn.size
  have s_w := own_sl h1.ow
  obtain ⟨gx, cx, -, ex, -, -⟩ := own_blk hx ok.one
  have gxb := xb gx ex
  refine Lw.val (Ex.assign rfl) rfl ?_
  refine Lw.nil ?_
  refine Pw.thenN (Cw.out ?_)
  refine Cw.seq ?_
  refine Cw.seq ?_
  refine Cw.region ?_
  refine Lw.val (Ex.move rfl) rfl ?_
  refine Lw.val (Ex.nilCheck rfl) rfl ?_
  refine Lw.val (Ex.fieldAddr (q := 0) Try.underlying95 rfl (sz_93 _) rfl) rfl ?_
  refine Lw.val (Ex.ldB (ag_93 _) rfl (by assumption) rfl) rfl ?_
  refine Lw.val (Ex.lenS st_93 rfl (by assumption)) rfl ?_
  refine Lw.val (Ex.move rfl) rfl ?_
  refine Lw.nil ?_
  refine Pw.thenN (Cw.out ?_)
  refine Cw.block ?_
  refine Cw.loop (S := Nat) (fun i => [(0, .pointer (some ⟨A, 0, none⟩)), (1, u64 keep), (2, .int .i64 torn), (9, x), (26, vw), (27, .int .i64 (D.waits.length : Int)), (28, .int .i64 (i : Int))]) (fun i w' => i ≤ D.waits.length ∧ Below w.heap.size w w' ∧ w'.ownsRow w.heap.size secT 65 x D.sure.length (flw secC (failL keep torn D.sure (D.waits.take i))) ∧ w1.heap.size ≤ w'.heap.size) (fun i => D.waits.length - i) (0) ⟨rfl, rfl, rfl, rfl, rfl, rfl, rfl, trivial⟩ ?_ ?_
  · exact ⟨Nat.zero_le _, hn, by simpa [failL] using hx, Nat.le_refl _⟩
  clear hx
  rintro i w2 ⟨hi, hB2, hx, hz⟩
  have h2 := h.bs hB2
  have s_w := own_sl h2.ow
  obtain ⟨L, hL⟩ : ∃ L, L = failL keep torn D.sure (D.waits.take i) := ⟨_, rfl⟩
  have lL : L.length = D.sure.length := by rw [hL]; exact failL_len i hi
  have L64 : ∀ b ∈ L, b.length = 64 := by rw [hL]; exact failL_64 ok.f1 ok.f3 i hi
  rw [← hL] at hx
  refine Cw.seq ?_
  refine Cw.region ?_
  refine Lw.val (Ex.lss rfl rfl) rfl ?_
  refine Lw.nil ?_
  refine Pw.thenN (Cw.out ?_)
  refine Cw.seq ?_
  refine Cw.cond rfl ?_ ?_
  · intro h'
    have hi' : i < D.waits.length := by have := of_decide_eq_true h'; omega
    obtain ⟨gw, cw, -, ew, -, -⟩ := own_blk h2.ow (by omega)
    obtain ⟨n, b, hxw⟩ : ∃ n b, D.waits[i] = (n, b) := ⟨_, _, rfl⟩
    have hmem : (n, b) ∈ D.waits := hxw ▸ List.getElem_mem hi'
    have hnb := ok.f3 _ hmem
    have hb : b.length = 64 := hnb.2
    have hnL : n < L.length := by rw [lL]; exact hnb.1
    have hnD : n < D.sure.length := hnb.1
    obtain ⟨c, hc⟩ : ∃ c, c = wrC (n, b) := ⟨_, rfl⟩
    have lc : c.length = 66 := by rw [hc]; exact wrC_len hb
    have c0 : c[0]? = some (.int .i64 (n : Int)) := by rw [hc]; rfl
    have c65 : c[65]? = some (.int .i64 0) := by
      rw [hc]
      show (b.map b8 ++ [Value.int .i64 0])[64]? = _
      rw [List.getElem?_append_right (by simp [hb])]
      simp [hb]
    have carr : (c.drop 1).take 64 = b.map b8 := by rw [hc]; exact wrC_arr hb
    have wat : ((flw wrC D.waits).drop (i * 66)).take 66 = c := by rw [hc, ← hxw]; exact wr_at (wrs_len ok.f3) hi'
    have lf := flw_len (secs_len L64)
    have hle := flw_le (k := 65) (i := 65) hnL (Nat.le_refl _)
    have stepT : (i : Int) = torn → failL keep torn D.sure (D.waits.take (i + 1)) = L.set n (b.take 32 ++ (L[n]).drop 32) := fun e => by
      rw [failL_step hi', ← hL, hxw, failS, if_pos e]
      simp [List.getD_eq_getElem?_getD, hnL]
    have stepK : (i : Int) ≠ torn → failL keep torn D.sure (D.waits.take (i + 1)) = if kept keep i then L.set n b else L := fun e => by
      rw [failL_step hi', ← hL, hxw, failS, if_neg e]
    refine Cw.skip ?_
    refine Pw.thenN (Cw.out ?_)
    refine Cw.seq ?_
    refine Cw.block ?_
    refine Cw.seq ?_
    refine Cw.region ?_
    refine Lw.val (Ex.move rfl) rfl ?_
    refine Lw.val (Ex.idxO st_93 rfl rfl h2.ow ew i rfl hi') rfl ?_
    refine Lw.val (Ex.ldOA (k := 66) (ag_99 _) (sz_99 _) lc rfl h2.ow ew wat) rfl ?_
    refine Lw.valW (Xw.new it_99) rfl ?_
    rintro _ w3 ⟨rfl, b_w, hn3, hz3⟩
    refine Lw.val (Ex.assign rfl) rfl ?_
    refine Lw.unit (Xu.stA (cs := c) (k := 66) (by kernel_rfl) lc rfl rfl (by rw [hc]; exact wrC_ones _) b_w (wrC_len zer_len)) ?_
    rintro w4 ⟨b_w, hg4, hz4⟩
    have hB4 : Below w2.heap.size w2 w4 := hn3.grown hg4 (below_size hn3) (by rintro _ ⟨⟩; exact Nat.le_refl _)
    have hx4 := own_bs hx hB4
    have hB5 := hB2.trans (hB4.mono (below_size hB2))
    obtain ⟨B, hBe⟩ : ∃ B, B = w2.heap.size := ⟨_, rfl⟩
    rw [← hBe] at b_w ⊢
    have z4 := hB4.size
    have gB : gx < B := by have := (own_block hx gx ex).2; omega
    clear hx b_A s_w
    refine Lw.nil ?_
    refine Pw.thenN (Cw.out ?_)
    refine Cw.seq ?_
    refine Cw.region ?_
    refine Lw.val (Ex.move rfl) rfl ?_
    refine Lw.val (Ex.fieldAddr (q := 0) Try.underlying99 rfl (sz_97 _) rfl) rfl ?_
    refine Lw.val (Ex.fieldAddr (q := 0) Try.underlying97 rfl (sz_3 _) rfl) rfl ?_
    refine Lw.val (Ex.ldB (ag_3 _) rfl b_w c0) rfl ?_
    refine Lw.val (Ex.idxO st_70 rfl rfl hx4 ex n rfl hnD) rfl ?_
    refine Lw.val (Ex.assign rfl) rfl ?_
    refine Lw.nil ?_
    refine Pw.thenN (Cw.out ?_)
    refine Cw.block ?_
    refine Cw.seq ?_
    refine Cw.region ?_
    refine Lw.val (Ex.move rfl) rfl ?_
    refine Lw.val (Ex.move rfl) rfl ?_
    refine Lw.val (Ex.eql rfl rfl) rfl ?_
    refine Lw.val (Ex.assign rfl) rfl ?_
    refine Lw.nil ?_
    refine Pw.thenN (Cw.out ?_)
    refine Cw.cond rfl ?_ ?_
    · intro e
      have e := of_decide_eq_true e
      refine Cw.tail 6 mixed (by kernel_rfl) ?_
      refine Qw.val (fun w1 hq => Ex.move rfl) rfl ?_
      refine Qw.val (fun w1 hq => Ex.nilCheck rfl) rfl ?_
      refine Qw.val (fun w1 hq => Ex.fieldAddr (q := 63) Try.underlying92 rfl (sz_90 _) rfl) rfl ?_
      refine Qw.val (fun w1 hq => Ex.arrH (j := 32) un_90 sz_5 rfl rfl (by decide)) rfl ?_
      refine Qw.val (fun w1 hq => Ex.fieldAddr (q := 63) Try.underlying99 rfl (sz_90 _) rfl) rfl ?_
      refine Qw.val (fun w1 hq => Ex.arrH (j := 32) un_90 sz_5 rfl rfl (by decide)) rfl ?_
      refine Qw.done (fun w5 hq => ?_)
      have hx5 := own_bs hx4 hq
      have b_w5 := b_w.bs hq
      have sl : Sl w5 1 (.slice (some ⟨B, 1, none⟩) 32 64) 32 ((b.take 32).map b8) := by
        have := blk_sl (m := 32) (cap := 64) (o := 1) b_w5 (by omega) (by decide) (by unfold maxLen; omega)
        have e2 : (c.drop 1).take 32 = (b.take 32).map b8 := by
          have := congrArg (List.take 32) carr
          rw [List.take_take] at this
          rw [List.map_take]; exact this
        rwa [e2] at this
      refine Lw.valW (Xw.copyAO st_53 (by kernel_rfl) rfl rfl hx5 ex (show n * 65 + 0 + 32 ≤ _ by omega) sl (Nat.le_refl _) (b8_ones _)) rfl ?_
      rintro _ w6 ⟨rfl, hx6, hg6, hz6⟩
      have e3 : spl (flw secC L) (n * 65 + 0) ((b.take 32).map b8) = flw secC (L.set n (b.take 32 ++ (L[n]).drop 32)) := flw_spl (secs_len L64) hnL (by simp; omega) (secC_half (L64 _ (List.getElem_mem hnL)) hb)
      replace hx6 : w6.ownsRow w.heap.size secT 65 x D.sure.length (spl (flw secC L) (n * 65 + 0) ((b.take 32).map b8)) := hx6
      rw [e3, ← stepT e] at hx6
      have hB6 := (hB5.trans (hq.mono (below_size hB5))).grown hg6 (by have := below_size hB5; have := hq.size; omega) (by rintro _ ⟨⟩; exact gxb.1)
      refine Lw.nil ?_
      refine Pw.blkN ?_
      refine Pw.blkN ?_
      refine Pw.thenN (Cw.out ?_)
      refine Cw.region ?_
      refine Lw.val (Ex.addI rfl rfl (by omega)) rfl ?_
      refine Lw.val (Ex.move rfl) rfl ?_
      refine Lw.nil ?_
      exact Pw.thenN (Pw.next (i + 1) ⟨rfl, rfl, rfl, rfl, rfl, rfl, rfl, trivial⟩ (⟨hi', hB6, hx6, by have := hq.size; omega⟩) (by omega))
    intro e
    have e : (i : Int) ≠ torn := of_decide_eq_false e
    refine Cw.seq ?_
    refine Cw.region ?_
    refine Lw.val (Ex.move rfl) rfl ?_
    refine Lw.val (Ex.move rfl) rfl ?_
    refine Lw.val (Ex.as (Ex.remI rfl rfl (by omega) (by omega)) (congrArg (Value.int .i64) (show (i : Int) % 64 = ((i % 64 : Nat) : Int) by omega))) rfl ?_
    refine Lw.val (Ex.shr64 (j := i % 64) rfl rfl (by omega)) rfl ?_
    refine Lw.val (Ex.and64 rfl (show _ = some (u64 1#64) from rfl)) rfl ?_
    refine Lw.val (Ex.eql64 rfl (show _ = some (u64 1#64) from rfl)) rfl ?_
    refine Lw.val (Ex.assign rfl) rfl ?_
    refine Lw.nil ?_
    refine Pw.thenN (Cw.out ?_)
    refine Cw.cond rfl ?_ ?_
    · intro ek
      have ek : kept keep i = true := ek
      refine Cw.seq ?_
      refine Cw.region ?_
      refine Lw.val (Ex.move rfl) rfl ?_
      refine Lw.val (Ex.fieldAddr (q := 63) Try.underlying99 rfl (sz_90 _) rfl) rfl ?_
      refine Lw.val (Ex.ldAt (ds := b.map b8) (k := 64) (ag_90 _) (sz_90 _) (by rw [List.length_map, hb]) rfl b_w carr) rfl ?_
      refine Lw.val (Ex.nilCheck rfl) rfl ?_
      refine Lw.val (Ex.fieldAddr (q := 63) Try.underlying92 rfl (sz_90 _) rfl) rfl ?_
      refine Lw.unit (Xu.stAO (k := 64) (ds := b.map b8) (by kernel_rfl) (by rw [List.length_map, hb]) rfl rfl (b8_ones _) hx4 ex (show n * 65 + 0 + (b.map b8).length ≤ _ by rw [List.length_map, hb]; omega)) ?_
      rintro w5 ⟨hx5, hg5, hz5⟩
      have e3 : spl (flw secC L) (n * 65 + 0) (b.map b8) = flw secC (L.set n b) := flw_spl (secs_len L64) hnL (by rw [List.length_map, hb]; decide) (secC_spl (L64 _ (List.getElem_mem hnL)) hb)
      replace hx5 : w5.ownsRow w.heap.size secT 65 x D.sure.length (spl (flw secC L) (n * 65 + 0) (b.map b8)) := hx5
      rw [e3] at hx5
      have b_w5 := b_w.by hg5 (by intro e; cases e; omega)
      have hB5' := hB5.grown hg5 (by have := below_size hB5; omega) (by rintro _ ⟨⟩; exact gxb.1)
      have L64' : ∀ q ∈ L.set n b, q.length = 64 := fun q hq => (List.mem_or_eq_of_mem_set hq).elim (L64 q) (fun e => by rw [e]; exact hb)
      have hnL' : n < (L.set n b).length := by rw [List.length_set]; exact hnL
      have hbad := sec_bad L64' hnL'
      have lf' := flw_len (secs_len L64')
      rw [List.length_set] at lf'
      refine Lw.nil ?_
      refine Pw.thenN (Cw.out ?_)
      refine Cw.tail 9 mixed (by kernel_rfl) ?_
      refine Qw.val (fun w1 hq => Ex.move rfl) rfl ?_
      refine Qw.val (fun w1 hq => Ex.nilCheck rfl) rfl ?_
      refine Qw.val (fun w1 hq => Ex.fieldAddr (q := 0) Try.underlying92 rfl (sz_3 _) rfl) rfl ?_
      refine Qw.val (fun w1 hq => Ex.ldO (ag_3 _) rfl (own_bs hx5 hq) ex hbad) rfl ?_
      refine Qw.val (fun w1 hq => Ex.fieldAddr (q := 0) Try.underlying99 rfl (sz_3 _) rfl) rfl ?_
      refine Qw.val (fun w1 hq => Ex.ldB (ag_3 _) rfl (b_w5.bs hq) c65) rfl ?_
      refine Qw.val (fun w1 hq => Ex.and00 rfl rfl) rfl ?_
      refine Qw.val (fun w1 hq => Ex.nilCheck rfl) rfl ?_
      refine Qw.val (fun w1 hq => Ex.fieldAddr (q := 0) Try.underlying92 rfl (sz_3 _) rfl) rfl ?_
      refine Qw.done (fun w6 hq => ?_)
      have hx6 := own_bs hx5 hq
      refine Lw.unit (Xu.stO1 (u := .int .i64 0) (sz_3 _) rfl rfl rfl hx6 ex (show n * 65 + 64 < _ by omega)) ?_
      rintro w7 ⟨hx7, hg7, hz7⟩
      have e4 : spl (flw secC (L.set n b)) (n * 65 + 64) [.int .i64 0] = flw secC (L.set n b) := by
        have := flw_spl (i := 64) (ds := [.int .i64 0]) (b := b) (secs_len L64') hnL' (by decide) (by rw [List.getElem_set_self]; exact secC_bad hb)
        rwa [List.set_set] at this
      replace hx7 : w7.ownsRow w.heap.size secT 65 x D.sure.length (spl (flw secC (L.set n b)) (n * 65 + 64) [.int .i64 0]) := hx7
      rw [e4] at hx7
      have sK := stepK e
      rw [if_pos ek] at sK
      rw [← sK] at hx7
      have hB7 := (hB5'.trans (hq.mono (below_size hB5'))).grown hg7 (by have := below_size hB5'; have := hq.size; omega) (by rintro _ ⟨⟩; exact gxb.1)
      refine Lw.nil ?_
      refine Pw.blkN ?_
      refine Pw.blkN ?_
      refine Pw.thenN (Cw.out ?_)
      refine Cw.region ?_
      refine Lw.val (Ex.addI rfl rfl (by omega)) rfl ?_
      refine Lw.val (Ex.move rfl) rfl ?_
      refine Lw.nil ?_
      exact Pw.thenN (Pw.next (i + 1) ⟨rfl, rfl, rfl, rfl, rfl, rfl, rfl, trivial⟩ (⟨hi', hB7, hx7, by have := hq.size; omega⟩) (by omega))
    intro ek
    have ek : kept keep i = false := ek
    have sK := stepK e
    rw [ek] at sK
    simp only [Bool.false_eq_true, if_false] at sK
    rw [← sK] at hx4
    refine Cw.skip ?_
    refine Pw.blkN ?_
    refine Pw.blkN ?_
    refine Pw.thenN (Cw.out ?_)
    refine Cw.region ?_
    refine Lw.val (Ex.addI rfl rfl (by omega)) rfl ?_
    refine Lw.val (Ex.move rfl) rfl ?_
    refine Lw.nil ?_
    exact Pw.thenN (Pw.next (i + 1) ⟨rfl, rfl, rfl, rfl, rfl, rfl, rfl, trivial⟩ (⟨hi', hB5, hx4, by omega⟩) (by omega))
  intro h'
  have hi' : i = D.waits.length := by have := of_decide_eq_false h'; omega
  subst hi'
  rw [List.take_length] at hL
  subst hL
  refine Cw.exit ?_
  refine Pw.thenE ?_
  refine Pw.thenE ?_
  refine Pw.blkHit ?_
  refine Pw.thenN (Cw.out ?_)
  refine Cw.seq ?_
  refine Cw.region ?_
  refine Lw.val (Ex.move rfl) rfl ?_
  refine Lw.callF rfl rfl (dof_c x _ w2 (by rw [lL]; exact own_mono hx (Nat.zero_le _)) L64 (by rw [lL]; exact ok.one) (by rw [lL]; exact ok.few)) ?_
  rintro _ w3 ⟨hn3, A', rfl, hA', hD⟩
  have xb2 := own_block hx
  have zB := below_size hB2
  have zn3 := hn3.size
  refine Lw.val (Ex.assign rfl) rfl ?_
  refine Lw.val (Ex.assign rfl) rfl ?_
  refine Lw.nil ?_
  refine Pw.thenN (Cw.out ?_)
  refine Cw.ret ?_
  refine Pw.ret2 rfl rfl rfl ?_
  exact ⟨hB2.trans (hn3.mono zB), A', rfl, hD.wide (fun k e => e.elim (fun e => by have := xb2 k e; omega) (fun e => by omega)) (fun k e => e.2)⟩
end Go.Proofs.Ytiaojbbgjlpikaa
