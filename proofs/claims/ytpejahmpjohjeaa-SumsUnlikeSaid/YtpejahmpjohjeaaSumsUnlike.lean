/- Bytes that part only within four neighbours have unlike sums; so have four unlike bytes behind the same ones: for any bytes, any place, any turn; no condition. -/
import Derived.Test.YtpejahmpjohjeaaSumsCode
import Derived.Test.YtpejahmpjohjeaaOpen
import Derived.Test.YtpejahmpjohjeaaRows
namespace Go.Proofs.Ytpejahmpjohjeaa
open Go Go.Dd Go.RowKit Go.ChangeShapes Go.WideShapes Go.ChangeAt

theorem own : ownKnob Try.prog.godebug = none := by kernel_rfl
theorem laidOut : laidOutB Try.prog = true := by kernel_rfl

/-- The bytes of which the first 'i' of four neighbours have turned. -/
def pat (b : List (BitVec 8)) (x : BitVec 32) (k : Nat) : Nat → List (BitVec 8)
  | 0 => b
  | i + 1 => (pat b x k i).set (k + i) ((pat b x k i).getD (k + i) default ^^^ (Crc.four x).getD i default)
theorem pat_length (b : List (BitVec 8)) (x : BitVec 32) (k i : Nat) : (pat b x k i).length = b.length := by
  induction i with
  | zero => rfl
  | succ i ih => simp [pat, ih]
theorem pat_four (p s : List (BitVec 8)) (b0 b1 b2 b3 : BitVec 8) (x : BitVec 32) : pat (p ++ b0 :: b1 :: b2 :: b3 :: s) x p.length 4 = p ++ Crc.xors [b0, b1, b2, b3] (Crc.four x) ++ s := by
  simp [pat, Crc.four, Crc.xors, List.set_append_right]

theorem split4 {b : List (BitVec 8)} {k : Nat} (h : k + 4 ≤ b.length) : ∃ p b0 b1 b2 b3 s, b = p ++ b0 :: b1 :: b2 :: b3 :: s ∧ p.length = k := by
  refine ⟨b.take k, b[k], b[k + 1], b[k + 2], b[k + 3], b.drop (k + 4), ?_, by simp; omega⟩
  rw [← List.drop_eq_getElem_cons (by omega), ← List.drop_eq_getElem_cons (by omega), ← List.drop_eq_getElem_cons (by omega), ← List.drop_eq_getElem_cons (by omega), List.take_append_drop]

theorem unlike_law (b : List (BitVec 8)) (x : BitVec 32) (k : Nat) (h : k + 4 ≤ b.length) : (Crc.of b = Crc.of (pat b x k 4)) ↔ x = 0#32 := by
  obtain ⟨p, b0, b1, b2, b3, s, rfl, rfl⟩ := split4 h
  rw [pat_four]
  have := Crc.of_part p s [b0, b1, b2, b3] x rfl
  simpa using this

theorem tail_law (b : List (BitVec 8)) (x : BitVec 32) : (Crc.of (b ++ Crc.four x) = Crc.of (b ++ [0#8, 0#8, 0#8, 0#8])) ↔ x = 0#32 := by
  have h4 : [0#8, 0#8, 0#8, 0#8] = Crc.four 0#32 := by decide
  unfold Crc.of Crc.on
  rw [Crc.run_append, Crc.run_append, h4, Crc.run_four, Crc.run_four]
  constructor
  · intro h
    have h' := congrArg (fun y => ~~~ y) h
    simp only [BitVec.not_not] at h'
    have := Crc.iter_eq 32 _ _ h'
    have h2 := congrArg (fun y => Crc.run (~~~ 0#32) b ^^^ y) this
    simp only [← BitVec.xor_assoc, BitVec.xor_self, BitVec.zero_xor] at h2
    exact h2
  · intro h; rw [h]

theorem pat_step {w : World} {base : Nat} {T : TypeId} {v : Value} {b : List (BitVec 8)} {x : BitVec 32} {k i n : Nat} (h : w.ownsRow base T 1 v n (((pat b x k i).map b8).set (k + i) (b8 ((pat b x k i).getD (k + i) default ^^^ (Crc.four x).getD i default)))) : w.ownsRow base T 1 v n ((pat b x k (i + 1)).map b8) := by
  simpa [pat, List.map_set] using h

theorem sumsUnlike_w (v : Value) (l : List (BitVec 8)) (q : BitVec 16) (x : BitVec 32) (w : World) (hv : SlT b8 w v l) :
    Fnc Try.prog 5 [v, u16 q, u32 x] w (fun r w' => r = .bool true ∧ Below w.heap.size w w') := by
  refine Fnc.enter (n := 81) Try.func5 (by kernel_rfl) rfl rfl rfl ?_
  refine Cw.seq ?_
  refine Cw.region ?_
  refine Lw.val (Ex.assign rfl) rfl ?_
  refine Lw.nil ?_
  refine Pw.thenN (Cw.out ?_)
  refine Cw.seq ?_
  refine Cw.seq ?_
  refine Cw.region ?_
  refine Lw.callF rfl rfl (alive_c w) ?_
  rintro _ w1 ⟨rfl, hB1⟩
  have hv1 := hv.bs hB1
  refine Lw.val (Ex.not rfl) rfl ?_
  refine Lw.val (Ex.move rfl) rfl ?_
  refine Lw.know 14 (v' := .bool false) rfl (congrArg Value.bool (rfl)) ?_
  refine Lw.take (dj := 14) rfl rfl ?_
  refine Lw.val (Ex.move rfl) rfl ?_
  refine Lw.take (dj := 14) rfl rfl ?_
  refine Lw.val (Ex.lenS st_22 rfl (by assumption)) rfl ?_
  refine Lw.take (dj := 14) rfl rfl ?_
  refine Lw.val (Ex.gtr rfl rfl) rfl ?_
  refine Lw.val (Ex.pickF rfl rfl) rfl ?_
  refine Lw.val (Ex.move rfl) rfl ?_
  refine Lw.part 19 rfl ?_ ?_
  · intro hlen
    refine Lw.pass (dj := 19) rfl rfl rfl rfl ?_
    refine Lw.pass (dj := 19) rfl rfl rfl rfl ?_
    refine Lw.pass (dj := 19) rfl rfl rfl rfl ?_
    refine Lw.val (Ex.pickT rfl rfl) rfl ?_
    refine Lw.nil ?_
    refine Pw.thenN (Cw.out ?_)
    refine Cw.condT rfl ?_
    refine Cw.seq ?_
    refine Cw.region ?_
    refine Lw.callF rfl rfl (alive_c w1) ?_
    rintro _ w3 ⟨rfl, hB3⟩
    refine Lw.val (Ex.assign rfl) rfl ?_
    refine Lw.nil ?_
    refine Pw.thenN (Cw.out ?_)
    refine Cw.ret ?_
    refine Pw.thenR ?_
    refine Pw.ret1 rfl rfl ?_
    exact ⟨rfl, bt hB1 hB3⟩
  intro hlen
  refine Lw.take (dj := 19) rfl rfl ?_
  refine Lw.val (Ex.move rfl) rfl ?_
  refine Lw.take (dj := 19) rfl rfl ?_
  refine Lw.val (Ex.lenS st_22 rfl (by assumption)) rfl ?_
  refine Lw.take (dj := 19) rfl rfl ?_
  refine Lw.val (Ex.lss rfl rfl) rfl ?_
  refine Lw.val (Ex.pickF rfl rfl) rfl ?_
  refine Lw.nil ?_
  refine Pw.thenN (Cw.out ?_)
  refine Cw.cond rfl ?_ ?_
  · intro _
    refine Cw.seq ?_
    refine Cw.region ?_
    refine Lw.callF rfl rfl (alive_c w1) ?_
    rintro _ w3 ⟨rfl, hB3⟩
    refine Lw.val (Ex.assign rfl) rfl ?_
    refine Lw.nil ?_
    refine Pw.thenN (Cw.out ?_)
    refine Cw.ret ?_
    refine Pw.thenR ?_
    refine Pw.ret1 rfl rfl ?_
    exact ⟨rfl, bt hB1 hB3⟩
  · intro h4
    have hlen' : l.length ≤ 100000 := by have := of_decide_eq_false hlen; omega
    have h4' : 4 ≤ l.length := by have := of_decide_eq_false h4; omega
    have hs1 := hB1.size
    refine Cw.skip ?_
    refine Pw.thenN (Cw.out ?_)
    refine Cw.seq ?_
    refine Cw.region ?_
    refine Lw.val (Ex.move rfl) rfl ?_
    refine Lw.valW (Xw.append (base := w.heap.size) st_22 it_5 rfl (by decide) rfl rfl (World.ownsRow_nil _ _ _ _) hv1 (one_map (fun _ => rfl) _) (by omega) (by omega) hs1) rfl ?_
    rintro v2 w2 ⟨ho2, hB2', _⟩
    have hB2 := hB1.trans hB2'
    have hs2 := hB2.size
    have hv2 := hv.bs hB2
    obtain ⟨k, hk⟩ : ∃ k, k = q.toNat % (l.length - 3) := ⟨_, rfl⟩
    have hk4 : k + 4 ≤ l.length := by have : q.toNat % (l.length - 3) < l.length - 3 := Nat.mod_lt _ (by omega); omega
    refine Lw.val (Ex.assign rfl) rfl ?_
    refine Lw.nil ?_
    refine Pw.thenN (Cw.out ?_)
    refine Cw.seq ?_
    refine Cw.region ?_
    refine Lw.val (Ex.move rfl) rfl ?_
    refine Lw.val (Ex.conv16_I us_31 un_3 rfl) rfl ?_
    refine Lw.val (Ex.move rfl) rfl ?_
    refine Lw.val (Ex.lenS st_22 rfl (by assumption)) rfl ?_
    refine Lw.val (Ex.subI rfl rfl (by omega)) rfl ?_
    refine Lw.val (Ex.remI rfl rfl (by omega) (by omega)) rfl ?_
    refine Lw.val (Ex.assign rfl) rfl ?_
    refine Lw.nil ?_
    refine Pw.thenN (Cw.out ?_)
    refine Cw.seq ?_
    refine Cw.seq ?_
    refine Cw.know 8 (v' := .int .i64 (k : Int)) rfl (congrArg (Value.int .i64) (by rw [hk, ← (by omega : ((l.length - 3 : Nat) : Int) = (l.length : Int) - 3)]; rfl)) ?_
    refine Cw.region ?_
    refine Lw.val (Ex.assign rfl) rfl ?_
    refine Lw.nil ?_
    refine Pw.thenN (Cw.out ?_)
    refine Cw.block ?_
    refine Cw.loop (S := Nat) (fun i => [(0, v), (2, u32 x), (7, v2), (8, .int .i64 (k : Int)), (9, .int .i64 (i : Int))]) (fun i w' => i ≤ 4 ∧ w'.ownsRow w.heap.size 5 1 v2 l.length ((pat l x k i).map b8) ∧ Below w.heap.size w w') (fun i => 4 - i) (0) ⟨rfl, rfl, rfl, rfl, rfl, trivial⟩ ?_ ?_
    · exact ⟨by simp, by simpa [pat] using ho2, hB2⟩
    rintro i w3 ⟨hi, ho3, hB3⟩
    have hs3 := hB3.size
    have hpl := pat_length l x k i
    refine Cw.seq ?_
    refine Cw.seq ?_
    refine Cw.region ?_
    refine Lw.val (Ex.move rfl) rfl ?_
    refine Lw.val (Ex.lss rfl rfl) rfl ?_
    refine Lw.nil ?_
    refine Pw.thenN (Cw.out ?_)
    refine Cw.cond rfl ?_ ?_
    · intro h
      have hi' : i < 4 := by simp at h; omega
      refine Cw.skip ?_
      refine Pw.thenN (Cw.out ?_)
      refine Cw.seq ?_
      refine Cw.block ?_
      refine Cw.any mixed (fun w4 hd _ => ?_)
      have ho4 := own_bs ho3 hd
      have hB4 := bt hB3 hd
      have hs4 := hB4.size
      have hsh : Shp v2 l.length := (own_sl ho3).shp
      have hsl : SlT b8 w4 v2 (pat l x k i) := by unfold SlT; rw [hpl]; exact own_sl ho4
      refine Aw.take (i := 0) (NoP.blk (NoP.thn (NoP.thn (NoP.blk (NoP.thn NoP.ret))))) rfl (by kernel_rfl) (by kernel_rfl) (by kernel_rfl) (fun _ => Ex.move rfl) rfl ?_
      refine Aw.take (i := 1) (NoP.blk (NoP.thn (NoP.thn (NoP.blk (NoP.thn NoP.ret))))) rfl (by kernel_rfl) (by kernel_rfl) (by kernel_rfl) (fun _ => Ex.move rfl) rfl ?_
      refine Aw.take (i := 2) (NoP.blk (NoP.thn (NoP.thn (NoP.blk (NoP.thn NoP.ret))))) rfl (by kernel_rfl) (by kernel_rfl) (by kernel_rfl) (fun _ => Ex.move rfl) rfl ?_
      refine Aw.take (i := 3) (NoP.blk (NoP.thn (NoP.thn (NoP.blk (NoP.thn NoP.ret))))) rfl (by kernel_rfl) (by kernel_rfl) (by kernel_rfl) (fun _ => Ex.addI rfl rfl (by omega)) rfl ?_
      refine Aw.take (i := 4) (NoP.blk (NoP.thn (NoP.thn (NoP.blk (NoP.thn NoP.ret))))) rfl (by kernel_rfl) (by kernel_rfl) (by kernel_rfl) (fun _ => Ex.move rfl) rfl ?_
      refine Aw.take (i := 5) (NoP.blk (NoP.thn (NoP.thn (NoP.blk (NoP.thn NoP.ret))))) rfl (by kernel_rfl) (by kernel_rfl) (by kernel_rfl) (fun _ => Ex.move rfl) rfl ?_
      refine Aw.take (i := 6) (NoP.blk (NoP.thn (NoP.thn (NoP.blk (NoP.thn NoP.ret))))) rfl (by kernel_rfl) (by kernel_rfl) (by kernel_rfl) (fun _ => Ex.move rfl) rfl ?_
      refine Aw.take (i := 7) (NoP.blk (NoP.thn (NoP.thn (NoP.blk (NoP.thn NoP.ret))))) rfl (by kernel_rfl) (by kernel_rfl) (by kernel_rfl) (fun _ => Ex.addI rfl rfl (by omega)) rfl ?_
      refine Aw.take (i := 8) (NoP.blk (NoP.thn (NoP.thn (NoP.blk (NoP.thn NoP.ret))))) rfl (by kernel_rfl) (by kernel_rfl) (by kernel_rfl) (fun _ => Ex.idxS st_22 rfl rfl hsh (k + i) (by omega) (by omega)) rfl ?_
      refine Aw.take (i := 10) (NoP.blk (NoP.thn (NoP.thn (NoP.blk (NoP.thn NoP.ret))))) rfl (by kernel_rfl) (by kernel_rfl) (by kernel_rfl) (fun _ => Ex.move rfl) rfl ?_
      refine Aw.take (i := 12) (NoP.blk (NoP.thn (NoP.thn (NoP.blk (NoP.thn NoP.ret))))) rfl (by kernel_rfl) (by kernel_rfl) (by kernel_rfl) (fun _ => Ex.move rfl) rfl ?_
      refine Aw.two (i := 9) (j := 11) (by kernel_rfl) rfl rfl ?_ ?_
      · refine Lw.val (Ex.ldT (ag_5 _) rfl (by assumption) (by omega)) rfl ?_
        refine Aw.back ?_
        refine Aw.only (i := 11) (by kernel_rfl) rfl ?_
        refine Lw.callF rfl rfl (four_c x w4) ?_
        rintro v5 w5 ⟨b5, hb5, _, ho5, hB5⟩
        have hB5' := bt hB4 hB5
        have h5 : SlT b8 w5 v5 (Crc.four x) := own_sl ho5
        have hl5 : (Crc.four x).length = 4 := rfl
        have ho5' := own_bs ho4 hB5
        refine Aw.back ?_
        refine Aw.only (i := 13) (by kernel_rfl) rfl ?_
        refine Lw.val (Ex.idxT st_22 rfl rfl (by assumption) _ rfl (by omega)) rfl ?_
        refine Aw.back ?_
        refine Aw.only (i := 14) (by kernel_rfl) rfl ?_
        refine Lw.val (Ex.ldT (ag_5 _) rfl (by assumption) (by omega)) rfl ?_
        refine Aw.back ?_
        refine Aw.take (i := 15) (NoP.blk (NoP.thn (NoP.thn (NoP.blk (NoP.thn NoP.ret))))) rfl (by kernel_rfl) (by kernel_rfl) (by kernel_rfl) (fun _ => Ex.xor8 rfl rfl) rfl ?_
        refine Aw.take (i := 16) (NoP.blk (NoP.thn (NoP.thn (NoP.blk (NoP.thn NoP.ret))))) rfl (by kernel_rfl) (by kernel_rfl) (by kernel_rfl) (fun _ => Ex.idxS st_22 rfl rfl hsh (k + i) (by omega) (by omega)) rfl ?_
        refine Aw.only (i := 17) (by kernel_rfl) rfl ?_
        refine Lw.unit (Xu.stO (sz_5 _) rfl rfl rfl ho5' (by rw [List.length_map]; omega)) ?_
        rintro w6 ⟨ho6, hg6, -⟩
        have hB6 : Below w.heap.size w w6 := hB5'.trans (grown_below hg6 hB5'.size fun b hb => (own_block ho5' b hb).1)
        refine Aw.back ?_
        refine Aw.done (by kernel_rfl) ?_
        refine Pw.blkN ?_
        refine Pw.thenN (Cw.out ?_)
        refine Cw.region ?_
        refine Lw.val (Ex.move rfl) rfl ?_
        refine Lw.val (Ex.addI rfl rfl (by omega)) rfl ?_
        refine Lw.val (Ex.assign rfl) rfl ?_
        refine Lw.nil ?_
        exact Pw.thenN (Pw.next (i + 1) ⟨rfl, rfl, rfl, rfl, rfl, trivial⟩ (⟨hi', pat_step ho6, hB6⟩) (by omega))
      · refine Lw.callF rfl rfl (four_c x w4) ?_
        rintro v5 w5 ⟨b5, hb5, _, ho5, hB5⟩
        have hB5' := bt hB4 hB5
        have h5 : SlT b8 w5 v5 (Crc.four x) := own_sl ho5
        have hl5 : (Crc.four x).length = 4 := rfl
        have ho5' := own_bs ho4 hB5
        have hsl := hsl.bs hB5
        refine Aw.back ?_
        refine Aw.take (i := 13) (NoP.blk (NoP.thn (NoP.thn (NoP.blk (NoP.thn NoP.ret))))) rfl (by kernel_rfl) (by kernel_rfl) (by kernel_rfl) (fun _ => Ex.idxS st_22 rfl rfl (own_sl ho5).shp i rfl hi') rfl ?_
        refine Aw.tail 17 [9, 14, 15, 16] (by kernel_rfl) rfl ?_
        refine Qw.val (fun w1 hq => Ex.ldT (ag_5 _) rfl (Sl.bs (by assumption) hq) (by omega)) rfl ?_
        refine Qw.val (fun w1 hq => Ex.ldT (ag_5 _) rfl (Sl.bs (by assumption) hq) (by omega)) rfl ?_
        refine Qw.val (fun w1 hq => Ex.xor8 rfl rfl) rfl ?_
        refine Qw.val (fun w1 hq => Ex.idxS st_22 rfl rfl hsh (k + i) (by omega) (by omega)) rfl ?_
        refine Qw.done (fun w5q hq => ?_)
        have ho5' := own_bs ho5' hq
        have hB5' := bt hB5' hq
        refine Lw.unit (Xu.stO (sz_5 _) rfl rfl rfl ho5' (by rw [List.length_map]; omega)) ?_
        rintro w6 ⟨ho6, hg6, -⟩
        have hB6 : Below w.heap.size w w6 := hB5'.trans (grown_below hg6 hB5'.size fun b hb => (own_block ho5' b hb).1)
        refine Lw.nil ?_
        refine Pw.blkN ?_
        refine Pw.thenN (Cw.out ?_)
        refine Cw.region ?_
        refine Lw.val (Ex.move rfl) rfl ?_
        refine Lw.val (Ex.addI rfl rfl (by omega)) rfl ?_
        refine Lw.val (Ex.assign rfl) rfl ?_
        refine Lw.nil ?_
        exact Pw.thenN (Pw.next (i + 1) ⟨rfl, rfl, rfl, rfl, rfl, trivial⟩ (⟨hi', pat_step ho6, hB6⟩) (by omega))
    · intro h
      have hi' : i = 4 := by simp at h; omega
      subst hi'
      have hv3 := hv.bs hB3
      clear ho2 hv2 hB2' hv1
      refine Cw.exit ?_
      refine Pw.thenE ?_
      refine Pw.thenE ?_
      refine Pw.blkHit ?_
      refine Pw.thenN (Cw.out ?_)
      refine Cw.seq ?_
      refine Cw.region ?_
      refine Lw.val (Ex.move rfl) rfl ?_
      refine Lw.valW (Xw.append (base := w3.heap.size) st_22 it_5 rfl (by decide) rfl rfl (World.ownsRow_nil _ _ _ _) hv3 (one_map (fun _ => rfl) _) (by omega) (by omega) (Nat.le_refl _)) rfl ?_
      rintro v4 w4 ⟨ho4, hB4, _⟩
      have hs4 := hB4.size
      refine Lw.val (Ex.move rfl) rfl ?_
      refine Lw.callF rfl rfl (four_c x w4) ?_
      rintro v5 w5 ⟨b5, hb5, _, ho5, hB5⟩
      have hB5' := hB4.trans (hB5.mono hs4)
      have hs5 := hB5'.size
      refine Lw.valW (Xw.append (base := w3.heap.size) st_22 it_5 rfl (by decide) rfl rfl (own_bs ho4 hB5) (own_sl ho5) (one_map (fun _ => rfl) _) (by omega) (by omega) hs5) rfl ?_
      rintro v6 w6 ⟨ho6, hB6, _⟩
      have hB6' := hB5'.trans hB6
      have hs6 := hB6'.size
      have hv6 := hv3.bs hB6'
      have ht : Sl w6 1 v6 (l ++ Crc.four x).length ((l ++ Crc.four x).map b8) := by simpa [Crc.four] using own_sl ho6
      clear ho4 ho5 ho6
      refine Lw.val (Ex.assign rfl) rfl ?_
      refine Lw.nil ?_
      refine Pw.thenN (Cw.out ?_)
      refine Cw.seq ?_
      refine Cw.region ?_
      refine Lw.val (Ex.move rfl) rfl ?_
      refine Lw.valW (Xw.append (base := w6.heap.size) st_22 it_5 rfl (by decide) rfl rfl (World.ownsRow_nil _ _ _ _) hv6 (one_map (fun _ => rfl) _) (by omega) (by omega) (Nat.le_refl _)) rfl ?_
      rintro v7 w7 ⟨ho7, hB7, _⟩
      have hs7 := hB7.size
      refine Lw.valW (Xw.lit (vs := [0#8, 0#8, 0#8, 0#8].map b8) st_22 it_5 rfl rfl rfl rfl rfl) rfl ?_
      rintro v8 w8 ⟨ho8, -, hB8, -⟩
      have hB8' := hB7.trans (hB8.mono hs7)
      have hs8 := hB8'.size
      refine Lw.valW (Xw.append (base := w6.heap.size) st_22 it_5 rfl (by decide) rfl rfl (own_bs ho7 hB8) (own_sl ho8) (one_map (fun _ => rfl) _) (by simp; omega) (by simp; omega) hs8) rfl ?_
      rintro v9 w9 ⟨ho9, hB9, _⟩
      have hB9' := hB8'.trans hB9
      have hB9a := bt hB6' hB9'
      have hB9b := bt hB3 hB9a
      have hu : Sl w9 1 v9 (l ++ [0#8, 0#8, 0#8, 0#8]).length ((l ++ [0#8, 0#8, 0#8, 0#8]).map b8) := by simpa using own_sl ho9
      have ht9 := ht.bs hB9'
      have hv9 := hv.bs hB9b
      have hc9 : SlT b8 w9 v2 (pat l x k 4) := by unfold SlT; rw [hpl]; exact own_sl (own_bs ho3 hB9a)
      clear ho7 ho8 ho9 ht hv3 hv6
      refine Lw.val (Ex.assign rfl) rfl ?_
      refine Lw.nil ?_
      refine Pw.thenN (Cw.out ?_)
      refine Cw.seq ?_
      refine Cw.region ?_
      refine Lw.val (Ex.move rfl) rfl ?_
      refine Lw.callF rfl rfl (of_c v l w9 hv9) ?_
      rintro _ w10 ⟨rfl, hB10⟩
      refine Lw.val (Ex.move rfl) rfl ?_
      refine Lw.callF rfl rfl (of_c v2 (pat l x k 4) w10 (hc9.bs hB10)) ?_
      rintro _ w11 ⟨rfl, hB11⟩
      have hB11' := bt hB10 hB11
      refine Lw.val (Ex.eql32 rfl rfl) rfl ?_
      refine Lw.val (Ex.move rfl) rfl ?_
      refine Lw.val (Ex.eql32 rfl (show _ = some (u32 (0#32)) from rfl)) rfl ?_
      refine Lw.val (Ex.eqlB un_4 rfl rfl) rfl ?_
      refine Lw.val (Ex.move rfl) rfl ?_
      refine Lw.know 71 (v' := .bool true) rfl (congrArg Value.bool (decide_eq_true (decide_eq_decide.2 (unlike_law l x k hk4)))) ?_
      refine Lw.take (dj := 71) rfl rfl ?_
      refine Lw.val (Ex.move rfl) rfl ?_
      refine Lw.take (dj := 71) rfl rfl ?_
      refine Lw.callF rfl rfl (of_c v6 (l ++ Crc.four x) w11 (ht9.bs hB11')) ?_
      rintro _ w12 ⟨rfl, hB12⟩
      have hB12' := bt hB11' hB12
      refine Lw.take (dj := 71) rfl rfl ?_
      refine Lw.val (Ex.move rfl) rfl ?_
      refine Lw.take (dj := 71) rfl rfl ?_
      refine Lw.callF rfl rfl (of_c v9 (l ++ [0#8, 0#8, 0#8, 0#8]) w12 (hu.bs hB12')) ?_
      rintro _ w13 ⟨rfl, hB13⟩
      refine Lw.take (dj := 71) rfl rfl ?_
      refine Lw.val (Ex.eql32 rfl rfl) rfl ?_
      refine Lw.take (dj := 71) rfl rfl ?_
      refine Lw.val (Ex.move rfl) rfl ?_
      refine Lw.take (dj := 71) rfl rfl ?_
      refine Lw.val (Ex.eql32 rfl (show _ = some (u32 (0#32)) from rfl)) rfl ?_
      refine Lw.take (dj := 71) rfl rfl ?_
      refine Lw.val (Ex.eqlB un_4 rfl rfl) rfl ?_
      refine Lw.val (Ex.pickT rfl rfl) rfl ?_
      refine Lw.val (Ex.assign rfl) rfl ?_
      refine Lw.nil ?_
      refine Pw.thenN (Cw.out ?_)
      refine Cw.ret ?_
      refine Pw.ret1 rfl rfl ?_
      exact ⟨congrArg Value.bool (decide_eq_true (decide_eq_decide.2 (tail_law l x))), bt hB9b (bt hB12' hB13)⟩

set_option maxRecDepth 100000 in
theorem sumsUnlike_lifted (os : Os) (started : os.Started) (H : Type) (enc : TypeId × Value → H) :
    ReturnsInHanded {} Try.checked os 5 .any (Rows.sumsUnlikeSpec.pre6 enc Try.prog Try.f5 Rows.sumsUnlikeRow.domain false) (Rows.sumsUnlikeSpec.post enc Try.prog Try.f5 false true false false) := by
  refine returnsInHanded_of_change_sized (C := Try.checked) own started (by kernel_rfl) Try.func5
    (ChangeSpec.witness6 (enc := enc) (C := Try.checked) false ⟨#[], #[.slice none 0 0, .int .u16 0, .int .u32 0], []⟩ 8 (by kernel_rfl) (by kernel_rfl) (by kernel_rfl) (by kernel_rfl)) ?_
  intro W base args ds gs before hval0 hW hcnd hsz0 _
  have hval : ∀ (j : Nat) t v, Try.f5.params[j]? = some t → args[j]? = some v → Value.okWide Try.prog W .any base t v := hval0
  have hW' := hW
  obtain ⟨p, q, hA0, hV, rfl, hfz, hnd⟩ := hW
  have hA : DataW.TrodAll enc Try.prog W 0 (fun _ => true) true Try.f5.params.toList args.toList ds p := hA0
  have hsz : (DataW.weightsEach Try.prog (Try.f5.params.toList ++ Rows.sumsUnlikeSpec.plain.varTypes Try.prog) (ds ++ gs)).all (· ≤ reachBytes) = true := hsz0
  rw [Try.params5] at hA hval hsz
  obtain ⟨v0, vs0, d0, ds0, p0, q0, hargs, rfl, rfl, h0, r0⟩ := trodAll_cons hA
  obtain ⟨v1, vs1, d1, ds1, p1, q1, rfl, rfl, rfl, h1, r1⟩ := trodAll_cons r0
  obtain ⟨v2, vs2, d2, ds2, p2, q2, rfl, rfl, rfl, h2, r2⟩ := trodAll_cons r1
  obtain ⟨rfl, rfl, rfl⟩ := trodAll_nil r2
  obtain rfl : args = #[v0, v1, v2] := by cases args; simp_all
  obtain ⟨rfl, rfl⟩ := trodVars_none hV
  have k0 := h0
  have lt0 : ∀ x ∈ p0, x.block < W.heap.size := by obtain ⟨m, hm⟩ := k0; exact DataW.trod_lt m _ _ _ hm
  have i0 := in_of (j := 0) (t := 22) hsz rfl rfl h0
  have o0 := hval 0 22 v0 rfl rfl
  have k1 := h1
  have lt1 : ∀ x ∈ p1, x.block < W.heap.size := by obtain ⟨m, hm⟩ := k1; exact DataW.trod_lt m _ _ _ hm
  have i1 := in_of (j := 1) (t := 31) hsz rfl rfl h1
  have o1 := hval 1 31 v1 rfl rfl
  have k2 := h2
  have lt2 : ∀ x ∈ p2, x.block < W.heap.size := by obtain ⟨m, hm⟩ := k2; exact DataW.trod_lt m _ _ _ hm
  have i2 := in_of (j := 2) (t := 23) hsz rfl rfl h2
  have o2 := hval 2 23 v2 rfl rfl
  clear hA0 hval0 hsz0 hsz
  obtain ⟨l, hl, -⟩ := arg_slT un_22 (by kernel_rfl) (fun cs h => In.num (BitVec.ofInt 8) b8 (fun _ h => wf_u8 h) un_5 h) o0 i0
  obtain ⟨q, rfl⟩ := arg_num (BitVec.ofInt 16) u16 (fun _ h => wf_u16 h) un_31 o1 i1
  obtain ⟨x, rfl⟩ := arg_num (BitVec.ofInt 32) u32 (fun _ h => wf_u32 h) un_23 o2 i2
  refine (law_calls (sumsUnlike_w v0 l q x W hl)).mono fun e W' ⟨he, bel⟩ => ?_
  subst he
  exact ⟨_, rfl, _, _, _, [], _, [], hW', trodAll_mk1 (shut_bool un_4 _), (trodAll_cons_mk (Below.trod laidOut (by kernel_rfl) (of_decide_eq_true (by kernel_rfl)) k0 bel lt0) (trodAll_cons_mk (Below.trod laidOut (by kernel_rfl) (of_decide_eq_true (by kernel_rfl)) k1 bel lt1) (trodAll_cons_mk (Below.trod laidOut (by kernel_rfl) (of_decide_eq_true (by kernel_rfl)) k2 bel lt2) trodAll_mk0))), rfl, bel.frame _, fun h => by cases h⟩

/-- The statement. -/
theorem sumsUnlike_proved : Rows.SumsUnlikeSaid :=
  OpenClaim.holds_of_wide 5 Try.f5 rfl rfl rfl rfl rfl rfl rfl ⟨rfl, rfl, rfl, rfl, rfl⟩ rfl rfl rfl rfl rfl (by kernel_rfl) Try.func5 (by kernel_rfl)
    (of_decide_eq_true (by kernel_rfl)) (by unfold Func.isWrapper; first | (rw [if_pos (by decide +kernel)]; kernel_rfl) | (rw [if_neg (by decide +kernel)]; exact ⟨rfl, rfl⟩))
    (fun os started H enc _ => sumsUnlike_lifted os started H enc)
#print axioms sumsUnlike_proved
end Go.Proofs.Ytpejahmpjohjeaa
