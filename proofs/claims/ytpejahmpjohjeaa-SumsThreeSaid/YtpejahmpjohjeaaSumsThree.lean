/- The sums of three lists of one length, xored, are the sum of these, xored byte by byte: for any three texts, as long as the shortest one; no condition. -/
import Derived.Test.YtpejahmpjohjeaaSumsCode
import Derived.Test.YtpejahmpjohjeaaOpen
import Derived.Test.YtpejahmpjohjeaaRows
namespace Go.Proofs.Ytpejahmpjohjeaa
open Go Go.Dd Go.RowKit Go.ChangeShapes Go.WideShapes Go.ChangeAt

theorem own : ownKnob Try.prog.godebug = none := by kernel_rfl
theorem laidOut : laidOutB Try.prog = true := by kernel_rfl

theorem three_law (a b c : List (BitVec 8)) (h1 : a.length = b.length) (h2 : a.length = c.length) : Crc.of (Crc.xors (Crc.xors a b) c) = Crc.of a ^^^ Crc.of b ^^^ Crc.of c := by
  unfold Crc.of Crc.on
  have e1 := Crc.run_xor a b (~~~ 0#32) (~~~ 0#32) h1
  have e2 := Crc.run_xor (Crc.xors a b) c (~~~ 0#32 ^^^ ~~~ 0#32) (~~~ 0#32) (by rw [Crc.xors_length]; omega)
  have e3 : ~~~ 0#32 ^^^ ~~~ 0#32 ^^^ ~~~ 0#32 = ~~~ 0#32 := by decide
  rw [e1, e3] at e2
  rw [e2]
  generalize Crc.run (~~~ 0#32) a = A
  generalize Crc.run (~~~ 0#32) b = B
  generalize Crc.run (~~~ 0#32) c = C
  have n : ∀ y : BitVec 32, ~~~ y = y ^^^ BitVec.allOnes 32 := fun y => by rw [BitVec.xor_allOnes]
  rw [n (A ^^^ B ^^^ C), n A, n B, n C]
  have : (A ^^^ BitVec.allOnes 32) ^^^ (B ^^^ BitVec.allOnes 32) ^^^ (C ^^^ BitVec.allOnes 32) = (A ^^^ B ^^^ C) ^^^ BitVec.allOnes 32 ^^^ (BitVec.allOnes 32 ^^^ BitVec.allOnes 32) := by ac_rfl
  rw [this, BitVec.xor_self, BitVec.xor_zero]

theorem xors_step (l m : List (BitVec 8)) (k : Nat) (h1 : k < l.length) (h2 : k < m.length) : Crc.xors (l.take k) (m.take k) ++ [l.getD k default ^^^ m.getD k default] = Crc.xors (l.take (k + 1)) (m.take (k + 1)) := by
  rw [List.take_succ_eq_append_getElem h1, List.take_succ_eq_append_getElem h2, Crc.xors_append _ _ _ _ (by simp; omega)]
  simp [Crc.xors, h1, h2]

theorem xors3_step (l m o : List (BitVec 8)) (k : Nat) (h1 : k < l.length) (h2 : k < m.length) (h3 : k < o.length) : Crc.xors (Crc.xors (l.take k) (m.take k)) (o.take k) ++ [l.getD k default ^^^ m.getD k default ^^^ o.getD k default] = Crc.xors (Crc.xors (l.take (k + 1)) (m.take (k + 1))) (o.take (k + 1)) := by
  rw [← xors_step l m k h1 h2, List.take_succ_eq_append_getElem h3, Crc.xors_append _ _ _ _ (by rw [Crc.xors_length]; simp; omega)]
  simp [Crc.xors, h3]

theorem len3 {α : Type} {l : List α} (h : l.length = 3) : ∃ a b c, l = [a, b, c] := by
  match l, h with
  | [a, b, c], _ => exact ⟨a, b, c, rfl⟩

theorem sumsThree_w (u0 u1 u2 : Value) (l0 l1 l2 : List (BitVec 8)) (w : World) (h0 : SlT b8 w u0 l0) (h1 : SlT b8 w u1 l1) (h2 : SlT b8 w u2 l2) :
    Fnc Try.prog 6 [.agg #[u0, u1, u2]] w (fun r w' => r = .bool true ∧ Below w.heap.size w w') := by
  obtain ⟨n, hn⟩ : ∃ n, n = min (min l0.length l1.length) l2.length := ⟨_, rfl⟩
  have n0 : n ≤ l0.length := by omega
  have n1 : n ≤ l1.length := by omega
  have n2 : n ≤ l2.length := by omega
  have hle := h0.le
  refine Fnc.enter (n := 68) Try.func6 (by kernel_rfl) rfl rfl rfl ?_
  refine Cw.seq ?_
  refine Cw.region ?_
  refine Lw.valW (Xw.box rfl rfl) rfl ?_
  rintro _ w1 ⟨rfl, hb, hB1, hs1⟩
  have g0 := h0.bs hB1
  have g1 := h1.bs hB1
  have g2 := h2.bs hB1
  refine Lw.val (Ex.assign rfl) rfl ?_
  refine Lw.nil ?_
  refine Pw.thenN (Cw.out ?_)
  refine Cw.seq ?_
  refine Cw.region ?_
  refine Lw.val (Ex.idxB un_34 sz_22 rfl rfl 0 rfl (by decide)) rfl ?_
  refine Lw.val (Ex.ldB (ag_22 _) rfl (by assumption) rfl) rfl ?_
  refine Lw.val (Ex.lenS st_22 rfl (by assumption)) rfl ?_
  refine Lw.val (Ex.idxB un_34 sz_22 rfl rfl 1 rfl (by decide)) rfl ?_
  refine Lw.val (Ex.ldB (ag_22 _) rfl (by assumption) rfl) rfl ?_
  refine Lw.val (Ex.lenS st_22 rfl (by assumption)) rfl ?_
  refine Lw.val (Ex.idxB un_34 sz_22 rfl rfl 2 rfl (by decide)) rfl ?_
  refine Lw.val (Ex.ldB (ag_22 _) rfl (by assumption) rfl) rfl ?_
  refine Lw.val (Ex.lenS st_22 rfl (by assumption)) rfl ?_
  refine Lw.val (Ex.min3 rfl rfl rfl) rfl ?_
  refine Lw.know 15 (v' := .int .i64 (n : Int)) rfl (congrArg (Value.int .i64) (by split <;> split <;> omega)) ?_
  refine Lw.val (Ex.assign rfl) rfl ?_
  refine Lw.nil ?_
  refine Pw.thenN (Cw.out ?_)
  refine Cw.seq ?_
  refine Cw.seq ?_
  refine Cw.region ?_
  refine Lw.callF rfl rfl (alive_c w1) ?_
  rintro _ w2 ⟨rfl, hB2⟩
  have hB2' := bt hB1 hB2
  refine Lw.val (Ex.not rfl) rfl ?_
  refine Lw.val (Ex.move rfl) rfl ?_
  refine Lw.know 18 (v' := .bool false) rfl (congrArg Value.bool (rfl)) ?_
  refine Lw.take (dj := 18) rfl rfl ?_
  refine Lw.val (Ex.move rfl) rfl ?_
  refine Lw.take (dj := 18) rfl rfl ?_
  refine Lw.val (Ex.gtr rfl rfl) rfl ?_
  refine Lw.val (Ex.pickF rfl rfl) rfl ?_
  refine Lw.nil ?_
  refine Pw.thenN (Cw.out ?_)
  refine Cw.cond rfl ?_ ?_
  · intro _
    refine Cw.seq ?_
    refine Cw.region ?_
    refine Lw.callF rfl rfl (alive_c w2) ?_
    rintro _ w3 ⟨rfl, hB3⟩
    refine Lw.val (Ex.assign rfl) rfl ?_
    refine Lw.nil ?_
    refine Pw.thenN (Cw.out ?_)
    refine Cw.ret ?_
    refine Pw.thenR ?_
    refine Pw.ret1 rfl rfl ?_
    exact ⟨rfl, bt hB2' hB3⟩
  · intro hlen
    have hlen' : n ≤ 50000 := by simp at hlen; omega
    have hb2 := hb.bs hB2
    have hsz2 := hB2'.size
    have hsz2' := hB2.size
    clear hb hB1 hB2 g0 g1 g2
    refine Cw.skip ?_
    refine Pw.thenN (Cw.out ?_)
    refine Cw.seq ?_
    refine Cw.region ?_
    refine Lw.val (Ex.assign rfl) rfl ?_
    refine Lw.nil ?_
    refine Pw.thenN (Cw.out ?_)
    refine Cw.seq ?_
    refine Cw.seq ?_
    refine Cw.region ?_
    refine Lw.val (Ex.assign rfl) rfl ?_
    refine Lw.nil ?_
    refine Pw.thenN (Cw.out ?_)
    refine Cw.block ?_
    refine Cw.loop (S := (Nat × Value)) (fun s => [(1, .pointer (some ⟨w.heap.size, 0, none⟩)), (3, .int .i64 (n : Int)), (4, s.2), (5, .int .i64 (s.1 : Int))]) (fun s w' => s.1 ≤ n ∧ w'.ownsRow w2.heap.size 5 1 s.2 s.1 ((Crc.xors (Crc.xors (l0.take s.1) (l1.take s.1)) (l2.take s.1)).map b8) ∧ Below w2.heap.size w2 w') (fun s => n - s.1) ((0, .slice none 0 0)) ⟨rfl, rfl, rfl, rfl, trivial⟩ ?_ ?_
    · exact ⟨by simp, by simpa [Crc.xors] using World.ownsRow_nil _ _ _ _, Below.refl _ _⟩
    rintro ⟨k, v4⟩ w3 ⟨hk, ho, hB3⟩
    simp only at hk ho
    have hB3' := bt hB2' hB3
    have hsz3 := hB3.size
    have hb3 := hb2.bs hB3
    have g0 := h0.bs hB3'
    have g1 := h1.bs hB3'
    have g2 := h2.bs hB3'
    refine Cw.seq ?_
    refine Cw.seq ?_
    refine Cw.region ?_
    refine Lw.val (Ex.move rfl) rfl ?_
    refine Lw.val (Ex.move rfl) rfl ?_
    refine Lw.val (Ex.lss rfl rfl) rfl ?_
    refine Lw.nil ?_
    refine Pw.thenN (Cw.out ?_)
    refine Cw.cond rfl ?_ ?_
    · intro h
      have hk' : k < n := by simp at h; omega
      refine Cw.skip ?_
      refine Pw.thenN (Cw.out ?_)
      refine Cw.seq ?_
      refine Cw.block ?_
      refine Cw.any mixed (fun wd hd hds => ?_)
      have hBd := bt hB3 hd
      have hBd' := bt hB3' hd
      have g0 := h0.bs hBd'
      have g1 := h1.bs hBd'
      have g2 := h2.bs hBd'
      have hbd := hb3.bs hd
      refine Aw.take (i := 0) (NoP.blk (NoP.thn (NoP.thn (NoP.blk (NoP.thn NoP.ret))))) rfl (by kernel_rfl) (by kernel_rfl) (by kernel_rfl) (fun _ => Ex.move rfl) rfl ?_
      refine Aw.take (i := 1) (NoP.blk (NoP.thn (NoP.thn (NoP.blk (NoP.thn NoP.ret))))) rfl (by kernel_rfl) (by kernel_rfl) (by kernel_rfl) (fun _ => Ex.idxB un_34 sz_22 rfl rfl 0 rfl (by decide)) rfl ?_
      refine Aw.take (i := 3) (NoP.blk (NoP.thn (NoP.thn (NoP.blk (NoP.thn NoP.ret))))) rfl (by kernel_rfl) (by kernel_rfl) (by kernel_rfl) (fun _ => Ex.move rfl) rfl ?_
      refine Aw.take (i := 6) (NoP.blk (NoP.thn (NoP.thn (NoP.blk (NoP.thn NoP.ret))))) rfl (by kernel_rfl) (by kernel_rfl) (by kernel_rfl) (fun _ => Ex.idxB un_34 sz_22 rfl rfl 1 rfl (by decide)) rfl ?_
      refine Aw.take (i := 8) (NoP.blk (NoP.thn (NoP.thn (NoP.blk (NoP.thn NoP.ret))))) rfl (by kernel_rfl) (by kernel_rfl) (by kernel_rfl) (fun _ => Ex.move rfl) rfl ?_
      refine Aw.take (i := 12) (NoP.blk (NoP.thn (NoP.thn (NoP.blk (NoP.thn NoP.ret))))) rfl (by kernel_rfl) (by kernel_rfl) (by kernel_rfl) (fun _ => Ex.idxB un_34 sz_22 rfl rfl 2 rfl (by decide)) rfl ?_
      refine Aw.take (i := 14) (NoP.blk (NoP.thn (NoP.thn (NoP.blk (NoP.thn NoP.ret))))) rfl (by kernel_rfl) (by kernel_rfl) (by kernel_rfl) (fun _ => Ex.move rfl) rfl ?_
      refine Aw.tail 18 [2, 4, 5, 7, 9, 10, 11, 13, 15, 16, 17] (by kernel_rfl) rfl ?_
      refine Qw.val (fun w1 hq => Ex.ldB (ag_22 _) rfl (Blk.bs (by assumption) hq) rfl) rfl ?_
      refine Qw.val (fun w1 hq => Ex.idxT st_22 rfl rfl (Sl.bs (by assumption) hq) _ rfl (by omega)) rfl ?_
      refine Qw.val (fun w1 hq => Ex.ldT (ag_5 _) rfl (Sl.bs (by assumption) hq) (by omega)) rfl ?_
      refine Qw.val (fun w1 hq => Ex.ldB (ag_22 _) rfl (Blk.bs (by assumption) hq) rfl) rfl ?_
      refine Qw.val (fun w1 hq => Ex.idxT st_22 rfl rfl (Sl.bs (by assumption) hq) _ rfl (by omega)) rfl ?_
      refine Qw.val (fun w1 hq => Ex.ldT (ag_5 _) rfl (Sl.bs (by assumption) hq) (by omega)) rfl ?_
      refine Qw.val (fun w1 hq => Ex.xor8 rfl rfl) rfl ?_
      refine Qw.val (fun w1 hq => Ex.ldB (ag_22 _) rfl (Blk.bs (by assumption) hq) rfl) rfl ?_
      refine Qw.val (fun w1 hq => Ex.idxT st_22 rfl rfl (Sl.bs (by assumption) hq) _ rfl (by omega)) rfl ?_
      refine Qw.val (fun w1 hq => Ex.ldT (ag_5 _) rfl (Sl.bs (by assumption) hq) (by omega)) rfl ?_
      refine Qw.val (fun w1 hq => Ex.xor8 rfl rfl) rfl ?_
      refine Qw.done (fun w4 hq => ?_)
      have hB4 := bt hBd hq
      have hsz4 := hq.size
      refine Lw.valW (Xw.lit (vs := [b8 (l0.getD k default ^^^ l1.getD k default ^^^ l2.getD k default)]) st_22 it_5 rfl rfl rfl rfl rfl) rfl ?_
      rintro v5 w5 ⟨ho5, -, hB5, hs5⟩
      refine Lw.valW (Xw.append (base := w2.heap.size) st_22 it_5 rfl (by decide) rfl rfl (own_bs (own_bs (own_bs ho hd) hq) hB5) (own_sl ho5) rfl (by omega) (by omega) (by omega)) rfl ?_
      rintro v6 w6 ⟨ho6, hB6, -⟩
      refine Lw.val (Ex.assign rfl) rfl ?_
      refine Lw.nil ?_
      refine Pw.blkN ?_
      refine Pw.thenN (Cw.out ?_)
      refine Cw.region ?_
      refine Lw.val (Ex.move rfl) rfl ?_
      refine Lw.val (Ex.addI rfl rfl (by omega)) rfl ?_
      refine Lw.val (Ex.assign rfl) rfl ?_
      refine Lw.nil ?_
      have ho7 : w6.ownsRow w2.heap.size 5 1 v6 (k + 1) ((Crc.xors (Crc.xors (l0.take (k + 1)) (l1.take (k + 1))) (l2.take (k + 1))).map b8) := by
        rw [← xors3_step l0 l1 l2 k (by omega) (by omega) (by omega), List.map_append]; exact ho6
      exact Pw.thenN (Pw.next ((k + 1, v6)) ⟨rfl, rfl, rfl, rfl, trivial⟩ (⟨hk', ho7, (bt hB4 hB5).trans hB6⟩) (by simp only; omega))
    · intro h
      have hk' : k = n := by simp at h; omega
      subst hk'
      refine Cw.exit ?_
      refine Pw.thenE ?_
      refine Pw.thenE ?_
      refine Pw.blkHit ?_
      refine Pw.thenN (Cw.out ?_)
      refine Cw.seq ?_
      obtain ⟨all, hall⟩ : ∃ all, all = Crc.xors (Crc.xors (l0.take k) (l1.take k)) (l2.take k) := ⟨_, rfl⟩
      have hlall : all.length = k := by rw [hall, Crc.xors_length, Crc.xors_length]; simp; omega
      have ho8 : Sl w3 1 v4 all.length (all.map b8) := by rw [hlall, hall]; exact own_sl ho
      refine Cw.quiet mixed (by kernel_rfl) ?_
      refine Qw.val (fun w1 hq => Ex.move rfl) rfl ?_
      refine Qw.callF rfl rfl (fun w1 hq => (of_c v4 all w1 (ho8.bs hq)).q hq) ?_
      refine Qw.val (fun w1 hq => Ex.idxB un_34 sz_22 rfl rfl 0 rfl (by decide)) rfl ?_
      refine Qw.val (fun w1 hq => Ex.ldB (ag_22 _) rfl (Blk.bs (by assumption) hq) rfl) rfl ?_
      refine Qw.val (fun w1 hq => Ex.move rfl) rfl ?_
      refine Qw.val (fun w1 hq => Ex.cutH st_22 rfl rfl (Sl.bs (by assumption) hq) (by omega)) rfl ?_
      refine Qw.callF rfl rfl (fun w1 hq => (of_c _ (l0.take k) w1 ((SlT.take g0 n0).bs hq)).q hq) ?_
      refine Qw.val (fun w1 hq => Ex.idxB un_34 sz_22 rfl rfl 1 rfl (by decide)) rfl ?_
      refine Qw.val (fun w1 hq => Ex.ldB (ag_22 _) rfl (Blk.bs (by assumption) hq) rfl) rfl ?_
      refine Qw.val (fun w1 hq => Ex.move rfl) rfl ?_
      refine Qw.val (fun w1 hq => Ex.cutH st_22 rfl rfl (Sl.bs (by assumption) hq) (by omega)) rfl ?_
      refine Qw.callF rfl rfl (fun w1 hq => (of_c _ (l1.take k) w1 ((SlT.take g1 n1).bs hq)).q hq) ?_
      refine Qw.val (fun w1 hq => Ex.xor32 rfl rfl) rfl ?_
      refine Qw.val (fun w1 hq => Ex.idxB un_34 sz_22 rfl rfl 2 rfl (by decide)) rfl ?_
      refine Qw.val (fun w1 hq => Ex.ldB (ag_22 _) rfl (Blk.bs (by assumption) hq) rfl) rfl ?_
      refine Qw.val (fun w1 hq => Ex.move rfl) rfl ?_
      refine Qw.val (fun w1 hq => Ex.cutH st_22 rfl rfl (Sl.bs (by assumption) hq) (by omega)) rfl ?_
      refine Qw.callF rfl rfl (fun w1 hq => (of_c _ (l2.take k) w1 ((SlT.take g2 n2).bs hq)).q hq) ?_
      refine Qw.val (fun w1 hq => Ex.xor32 rfl rfl) rfl ?_
      refine Qw.val (fun w1 hq => Ex.eql32 rfl rfl) rfl ?_
      refine Qw.val (fun w1 hq => Ex.assign rfl) rfl ?_
      refine Qw.nil (fun w9 hq => ?_)
      refine Pw.thenN (Cw.out ?_)
      refine Cw.ret ?_
      refine Pw.ret1 rfl rfl ?_
      refine ⟨congrArg Value.bool (decide_eq_true ?_), bt hB3' hq⟩
      rw [hall]
      exact three_law _ _ _ (by simp; omega) (by simp; omega)

set_option maxRecDepth 100000 in
theorem sumsThree_lifted (os : Os) (started : os.Started) (H : Type) (enc : TypeId × Value → H) :
    ReturnsInHanded {} Try.checked os 6 .any (Rows.sumsThreeSpec.pre6 enc Try.prog Try.f6 Rows.sumsThreeRow.domain false) (Rows.sumsThreeSpec.post enc Try.prog Try.f6 false true false false) := by
  refine returnsInHanded_of_change_sized (C := Try.checked) own started (by kernel_rfl) Try.func6
    (ChangeSpec.witness6 (enc := enc) (C := Try.checked) false ⟨#[], #[.agg #[.slice none 0 0, .slice none 0 0, .slice none 0 0]], []⟩ 8 (by kernel_rfl) (by kernel_rfl) (by kernel_rfl) (by kernel_rfl)) ?_
  intro W base args ds gs before hval0 hW hcnd hsz0 _
  have hval : ∀ (j : Nat) t v, Try.f6.params[j]? = some t → args[j]? = some v → Value.okWide Try.prog W .any base t v := hval0
  have hW' := hW
  obtain ⟨p, q, hA0, hV, rfl, hfz, hnd⟩ := hW
  have hA : DataW.TrodAll enc Try.prog W 0 (fun _ => true) true Try.f6.params.toList args.toList ds p := hA0
  have hsz : (DataW.weightsEach Try.prog (Try.f6.params.toList ++ Rows.sumsThreeSpec.plain.varTypes Try.prog) (ds ++ gs)).all (· ≤ reachBytes) = true := hsz0
  rw [Try.params6] at hA hval hsz
  obtain ⟨v0, vs0, d0, ds0, p0, q0, hargs, rfl, rfl, h0, r0⟩ := trodAll_cons hA
  obtain ⟨rfl, rfl, rfl⟩ := trodAll_nil r0
  obtain rfl : args = #[v0] := by cases args; simp_all
  obtain ⟨rfl, rfl⟩ := trodVars_none hV
  have k0 := h0
  have lt0 : ∀ x ∈ p0, x.block < W.heap.size := by obtain ⟨m, hm⟩ := k0; exact DataW.trod_lt m _ _ _ hm
  have i0 := in_of (j := 0) (t := 34) hsz rfl rfl h0
  have o0 := hval 0 34 v0 rfl rfl
  clear hA0 hval0 hsz0 hsz
  obtain ⟨cs, rfl, hin⟩ := arg_array un_34 o0 i0
  obtain ⟨hlen, hel⟩ := hin.array un_34
  have c3 : Try.prog.cellsOf 34 = 3 := by kernel_rfl
  have c1 : Try.prog.cellsOf 22 = 1 := by kernel_rfl
  rw [c3] at hlen
  rw [c1] at hel
  obtain ⟨u0, u1, u2, rfl⟩ := len3 hlen
  obtain ⟨u0', l0, e0, h0, -⟩ := (hel 0 (by decide)).slT un_22 (by kernel_rfl) (fun cs h => In.num (BitVec.ofInt 8) b8 (fun _ h => wf_u8 h) un_5 h)
  obtain ⟨u1', l1, e1, h1, -⟩ := (hel 1 (by decide)).slT un_22 (by kernel_rfl) (fun cs h => In.num (BitVec.ofInt 8) b8 (fun _ h => wf_u8 h) un_5 h)
  obtain ⟨u2', l2, e2, h2, -⟩ := (hel 2 (by decide)).slT un_22 (by kernel_rfl) (fun cs h => In.num (BitVec.ofInt 8) b8 (fun _ h => wf_u8 h) un_5 h)
  simp at e0 e1 e2
  subst e0 e1 e2
  refine (law_calls (sumsThree_w u0 u1 u2 l0 l1 l2 W h0 h1 h2)).mono fun e W' ⟨he, bel⟩ => ?_
  subst he
  exact ⟨_, rfl, _, _, _, [], _, [], hW', trodAll_mk1 (shut_bool un_4 _), (trodAll_cons_mk (Below.trod laidOut (by kernel_rfl) (of_decide_eq_true (by kernel_rfl)) k0 bel lt0) trodAll_mk0), rfl, bel.frame _, fun h => by cases h⟩

/-- The statement. -/
theorem sumsThree_proved : Rows.SumsThreeSaid :=
  OpenClaim.holds_of_wide 6 Try.f6 rfl rfl rfl rfl rfl rfl rfl ⟨rfl, rfl, rfl, rfl, rfl⟩ rfl rfl rfl rfl rfl (by kernel_rfl) Try.func6 (by kernel_rfl)
    (of_decide_eq_true (by kernel_rfl)) (by unfold Func.isWrapper; first | (rw [if_pos (by decide +kernel)]; kernel_rfl) | (rw [if_neg (by decide +kernel)]; exact ⟨rfl, rfl⟩))
    (fun os started H enc _ => sumsThree_lifted os started H enc)
#print axioms sumsThree_proved
end Go.Proofs.Ytpejahmpjohjeaa
