/- Contracts: a log's bytes: noughts, the count, a sector. -/
import Derived.Test.YtiaojbbgjlpikaaDiskMore
import Derived.Test.YtiaojbbgjlpikaaSumsCode
import Derived.Test.YtiaojbbgjlpikaaGetCode
import Derived.Test.YtiaojbbgjlpikaaRet
namespace Go.Proofs.Ytiaojbbgjlpikaa
open Go Go.Dd Go.RowKit
set_option maxRecDepth 100000

def nzB (l : By) : Bool := !l.any fun c => !decide (c = 0#8)
theorem nz1_c (c : BitVec 8) (w : World) : Fnc Try.prog 46 [b8 c] w (fun r w' => r = .bool (!decide (c = 0#8)) ∧ w' = w) := by
  refine Fnc.enter (n := 5) Try.func46 (by kernel_rfl) rfl rfl rfl ?_
  refine Cw.seq ?_
  refine Cw.region ?_
  refine Lw.val (Ex.assign rfl) rfl ?_
  refine Lw.nil ?_
  refine Pw.thenN (Cw.out ?_)
  refine Cw.seq ?_
  refine Cw.region ?_
  refine Lw.val (Ex.move rfl) rfl ?_
  refine Lw.val (Ex.neq8 rfl (show _ = some (b8 (0#8)) from rfl)) rfl ?_
  refine Lw.val (Ex.assign rfl) rfl ?_
  refine Lw.nil ?_
  refine Pw.thenN (Cw.out ?_)
  refine Cw.ret ?_
  refine Pw.ret1 rfl rfl ?_
  exact ⟨rfl, rfl⟩
theorem nzIdx_c (v : Value) (l : By) (w : World) (hv : SlT b8 w v l) : Fnc Try.prog 58 [v, .func (.func 46) #[] #[]] w (fun r w' => ∃ j, r = .int .i64 j ∧ decide (0 ≤ j) = !nzB l ∧ w' = w) := by
  have hle := hv.le
  refine Fnc.enter (n := 19) Try.func58 (by kernel_rfl) rfl rfl rfl ?_
  refine Cw.seq ?_
  refine Cw.region ?_
  refine Lw.val (Ex.assign rfl) rfl ?_
  refine Lw.nil ?_
  refine Pw.thenN (Cw.out ?_)
  refine Cw.seq ?_
  refine Cw.seq ?_
  refine Cw.region ?_
  refine Lw.val (Ex.move rfl) rfl ?_
  refine Lw.val (Ex.lenS st_53 rfl (by assumption)) rfl ?_
  refine Lw.val (Ex.move rfl) rfl ?_
  refine Lw.nil ?_
  refine Pw.thenN (Cw.out ?_)
  refine Cw.block ?_
  refine Cw.loop (S := Nat) (fun i => [(0, v), (1, .func (.func 46) #[] #[]), (7, .int .i64 (l.length : Int)), (8, .int .i64 (i : Int))]) (fun i w' => i ≤ l.length ∧ nzB (l.take i) = true ∧ w' = w) (fun i => l.length - i) (0) ⟨rfl, rfl, rfl, rfl, trivial⟩ ?_ ?_
  · exact ⟨Nat.zero_le _, rfl, rfl⟩
  rintro i w1 ⟨hi, hc, rfl⟩
  refine Cw.seq ?_
  refine Cw.region ?_
  refine Lw.val (Ex.lss rfl rfl) rfl ?_
  refine Lw.nil ?_
  refine Pw.thenN (Cw.out ?_)
  refine Cw.seq ?_
  refine Cw.cond rfl ?_ ?_
  · intro hlt
    have hi' : i < l.length := by have := of_decide_eq_true hlt; omega
    have e1 : nzB (l.take (i + 1)) = (nzB (l.take i) && decide (l.getD i default = 0#8)) := by
      unfold nzB
      rw [List.take_succ_eq_append_getElem hi', List.any_append]
      simp [hi']
    refine Cw.skip ?_
    refine Pw.thenN (Cw.out ?_)
    refine Cw.seq ?_
    refine Cw.block ?_
    refine Cw.seq ?_
    refine Cw.region ?_
    refine Lw.val (Ex.move rfl) rfl ?_
    refine Lw.val (Ex.assign rfl) rfl ?_
    refine Lw.nil ?_
    refine Pw.thenN (Cw.out ?_)
    refine Cw.seq ?_
    refine Cw.region ?_
    refine Lw.val (Ex.move rfl) rfl ?_
    refine Lw.val (Ex.move rfl) rfl ?_
    refine Lw.val (Ex.move rfl) rfl ?_
    refine Lw.val (Ex.idxT st_53 rfl rfl (by assumption) _ rfl (by omega)) rfl ?_
    refine Lw.val (Ex.ldT (ag_5 _) rfl (by assumption) (by omega)) rfl ?_
    refine Lw.callV (p := []) (q := []) rfl rfl rfl (nz1_c (l.getD i default) w1) ?_
    rintro _ _ ⟨rfl, rfl⟩
    refine Lw.nil ?_
    refine Pw.thenN (Cw.out ?_)
    refine Cw.cond rfl ?_ ?_
    · intro g
      refine Cw.seq ?_
      refine Cw.region ?_
      refine Lw.val (Ex.move rfl) rfl ?_
      refine Lw.val (Ex.assign rfl) rfl ?_
      refine Lw.nil ?_
      refine Pw.thenN (Cw.out ?_)
      refine Cw.ret ?_
      refine Pw.blkR ?_
      refine Pw.thenR ?_
      refine Pw.thenR ?_
      refine Pw.blkR ?_
      refine Pw.thenR ?_
      refine Pw.ret1 rfl rfl ?_
      refine ⟨(i : Int), rfl, ?_, rfl⟩
      have : nzB l = false := by
        unfold nzB
        have hm : l.getD i default ∈ l := by rw [List.getD_eq_getElem?_getD, List.getElem?_eq_getElem hi']; exact List.getElem_mem hi'
        rw [List.any_eq_true.2 ⟨_, hm, g⟩]
        rfl
      rw [this, decide_eq_true (by omega)]
      rfl
    intro g
    have g' : decide (l.getD i default = 0#8) = true := by simpa using g
    refine Cw.skip ?_
    refine Pw.blkN ?_
    refine Pw.thenN (Cw.out ?_)
    refine Cw.region ?_
    refine Lw.val (Ex.addI rfl rfl (by omega)) rfl ?_
    refine Lw.val (Ex.move rfl) rfl ?_
    refine Lw.nil ?_
    exact Pw.thenN (Pw.next (i + 1) ⟨rfl, rfl, rfl, rfl, trivial⟩ (⟨hi', by rw [e1, hc, g']; rfl, rfl⟩) (by omega))
  intro hge
  have hi' : i = l.length := by have := of_decide_eq_false hge; omega
  subst hi'
  rw [List.take_length] at hc
  refine Cw.exit ?_
  refine Pw.thenE ?_
  refine Pw.thenE ?_
  refine Pw.blkHit ?_
  refine Pw.thenN (Cw.out ?_)
  refine Cw.seq ?_
  refine Cw.region ?_
  refine Lw.val (Ex.assign rfl) rfl ?_
  refine Lw.nil ?_
  refine Pw.thenN (Cw.out ?_)
  refine Cw.ret ?_
  refine Pw.ret1 rfl rfl ?_
  exact ⟨-1, rfl, by rw [hc]; rfl, rfl⟩
theorem nzHas_c (v : Value) (l : By) (w : World) (hv : SlT b8 w v l) : Fnc Try.prog 45 [v, .func (.func 46) #[] #[]] w (fun r w' => r = .bool (!nzB l) ∧ Below w.heap.size w w') := by
  refine Fnc.enter (n := 9) Try.func45 (by kernel_rfl) rfl rfl rfl ?_
  refine Cw.seq ?_
  refine Cw.region ?_
  refine Lw.val (Ex.assign rfl) rfl ?_
  refine Lw.nil ?_
  refine Pw.thenN (Cw.out ?_)
  refine Cw.seq ?_
  refine Cw.region ?_
  refine Lw.val (Ex.move rfl) rfl ?_
  refine Lw.val (Ex.move rfl) rfl ?_
  refine Lw.callF rfl rfl (nzIdx_c v l w hv) ?_
  rintro _ _ ⟨j, rfl, hj, rfl⟩
  refine Lw.val (Ex.geq rfl rfl) rfl ?_
  refine Lw.val (Ex.assign rfl) rfl ?_
  refine Lw.nil ?_
  refine Pw.thenN (Cw.out ?_)
  refine Cw.ret ?_
  refine Pw.ret1 rfl rfl ?_
  exact ⟨congrArg Value.bool hj, Below.refl _ _⟩
theorem nought_c (v : Value) (l : By) (w : World) (hv : SlT b8 w v l) : Fnc Try.prog 26 [v] w (fun r w' => r = .bool (nzB l) ∧ Below w.heap.size w w') := by
  refine Fnc.enter (n := 6) Try.func26 (by kernel_rfl) rfl rfl rfl ?_
  refine Cw.seq ?_
  refine Cw.region ?_
  refine Lw.val (Ex.assign rfl) rfl ?_
  refine Lw.nil ?_
  refine Pw.thenN (Cw.out ?_)
  refine Cw.seq ?_
  refine Cw.region ?_
  refine Lw.val (Ex.move rfl) rfl ?_
  refine Lw.callF rfl rfl (nzHas_c v l w hv) ?_
  rintro _ w1 ⟨rfl, hn⟩
  refine Lw.val (Ex.not rfl) rfl ?_
  refine Lw.val (Ex.assign rfl) rfl ?_
  refine Lw.nil ?_
  refine Pw.thenN (Cw.out ?_)
  refine Cw.ret ?_
  refine Pw.ret1 rfl rfl ?_
  exact ⟨by rw [Bool.not_not], hn⟩
theorem ofour_c (v : Value) (l : By) (w : World) (hv : SlT b8 w v l) (hl : 4 ≤ l.length) : Fnc Try.prog 47 [v] w (fun r w' => r = u32 (gf l) ∧ Below w.heap.size w w') := by
  refine Fnc.enter (n := 11) Try.func47 (by kernel_rfl) rfl rfl rfl ?_
  refine Cw.seq ?_
  refine Cw.region ?_
  refine Lw.val (Ex.assign (show _ = some (u32 (0#32)) from rfl)) rfl ?_
  refine Lw.nil ?_
  refine Pw.thenN (Cw.out ?_)
  refine Cw.seq ?_
  refine Cw.region ?_
  refine Lw.val (Ex.move rfl) rfl ?_
  refine Lw.callF rfl rfl (getFour_c v l w hv) ?_
  rintro _ w1 ⟨rfl, hn⟩
  rw [if_neg (by omega)]
  refine Lw.val (Ex.move rfl) rfl ?_
  refine Lw.val (Ex.extract (i := 0) rfl rfl) rfl ?_
  refine Lw.val (Ex.extract (i := 1) rfl rfl) rfl ?_
  refine Lw.val (Ex.assign rfl) rfl ?_
  refine Lw.val (Ex.assign rfl) rfl ?_
  refine Lw.nil ?_
  refine Pw.thenN (Cw.out ?_)
  refine Cw.seq ?_
  refine Cw.region ?_
  refine Lw.val (Ex.move rfl) rfl ?_
  refine Lw.val (Ex.assign rfl) rfl ?_
  refine Lw.nil ?_
  refine Pw.thenN (Cw.out ?_)
  refine Cw.ret ?_
  refine Pw.ret1 rfl rfl ?_
  exact ⟨rfl, hn⟩
theorem putFour_c (v : Value) (l : By) (x : BitVec 32) (w : World) (hv : SlT b8 w v l) (hl : l.length ≤ 16777200) : Fnc Try.prog 32 [v, u32 x] w (fun r w' => ∃ B, w.heap.size ≤ B ∧ B ≤ w'.heap.size ∧ w'.ownsRow B 5 1 r (l ++ Crc.four x).length ((l ++ Crc.four x).map b8) ∧ Below w.heap.size w w') := by
  refine Fnc.enter (n := 9) Try.func32 (by kernel_rfl) rfl rfl rfl ?_
  refine Cw.seq ?_
  refine Cw.region ?_
  refine Lw.val (Ex.assign rfl) rfl ?_
  refine Lw.nil ?_
  refine Pw.thenN (Cw.out ?_)
  refine Cw.seq ?_
  refine Cw.region ?_
  refine Lw.val (Ex.move rfl) rfl ?_
  refine Lw.val (Ex.move rfl) rfl ?_
  refine Lw.valW (Xw.lit (vs := [x].map u32) st_133 it_32 rfl rfl rfl rfl rfl) rfl ?_
  rintro u w1 ⟨ho, -, hn, -⟩
  refine Lw.callF rfl rfl (put_c v u l [x] w1 (hv.bs hn) (own_slT ho) (by simp; omega)) ?_
  rintro r w2 ⟨ho2, hn2⟩
  have e : fours [x] = Crc.four x := by simp [fours]
  rw [e] at ho2
  refine Lw.val (Ex.assign rfl) rfl ?_
  refine Lw.nil ?_
  refine Pw.thenN (Cw.out ?_)
  refine Cw.ret ?_
  refine Pw.ret1 rfl rfl ?_
  exact ⟨w1.heap.size, hn.size, hn2.size, ho2, hn.trans (hn2.mono hn.size)⟩

/-! ### The count -/
def cmark : By := [67#8, 79#8, 85#8, 78#8, 84#8]
def cntE (b : By) : Int := if b.take 5 = cmark ∧ nzB (b.drop 17) = true then (if Crc.of (b.take 13) = gf (b.drop 13) then 0 else 11) else 4
theorem cmark_str : strB cmark = ⟨#[67, 79, 85, 78, 84]⟩ := by rfl
theorem counts_c (v : Value) (b : By) (w : World) (hv : SlT b8 w v b) (hb : b.length = 64) : Fnc Try.prog 27 [v] w (fun r w' => (∃ m s, r = .tuple #[u32 m, u32 s, .int .i64 (cntE b)] ∧ (cntE b = 0 → m = gf (b.drop 5) ∧ s = gf (b.drop 9))) ∧ Below w.heap.size w w') := by
  have h5 := SlT.take hv (show 5 ≤ b.length by omega)
  have hs : ∀ (x : ByteArray), x = ⟨#[67, 79, 85, 78, 84]⟩ → decide (strB (b.take 5) = x) = decide (b.take 5 = cmark) := fun x hx => by
    subst hx
    rw [← cmark_str]
    by_cases h : b.take 5 = cmark
    · rw [h]; simp
    · rw [decide_eq_false h, decide_eq_false fun e => h (strB_inj e)]
  refine Fnc.enter (n := 35) Try.func27 (by kernel_rfl) rfl rfl rfl ?_
  refine Cw.seq ?_
  refine Cw.region ?_
  refine Lw.val (Ex.assign (show _ = some (u32 (0#32)) from rfl)) rfl ?_
  refine Lw.val (Ex.assign (show _ = some (u32 (0#32)) from rfl)) rfl ?_
  refine Lw.val (Ex.assign rfl) rfl ?_
  refine Lw.nil ?_
  refine Pw.thenN (Cw.out ?_)
  refine Cw.seq ?_
  refine Cw.region ?_
  refine Lw.val (Ex.assign rfl) rfl ?_
  refine Lw.nil ?_
  refine Pw.thenN (Cw.out ?_)
  refine Cw.seq ?_
  refine Cw.block ?_
  refine Cw.seq ?_
  refine Cw.region ?_
  refine Lw.val (Ex.move rfl) rfl ?_
  refine Lw.val (Ex.cutH (j := 5) st_53 rfl rfl hv (by omega)) rfl ?_
  refine Lw.val (Ex.strOf st_53 un_5 un_9 rfl h5) rfl ?_
  refine Lw.val (Ex.as (Ex.neqS rfl rfl) (congrArg (fun q : Bool => Value.bool (!q)) (hs _ rfl))) rfl ?_
  refine Lw.val (Ex.move rfl) rfl ?_
  refine Lw.part 11 rfl ?_ ?_
  · intro g
    have g1 : ¬ b.take 5 = cmark := by simpa using g
    have e4 : cntE b = 4 := by unfold cntE; rw [if_neg (fun h => g1 h.1)]
    refine Lw.pass (dj := 11) rfl rfl rfl rfl ?_
    refine Lw.pass (dj := 11) rfl rfl rfl rfl ?_
    refine Lw.pass (dj := 11) rfl rfl rfl rfl ?_
    refine Lw.pass (dj := 11) rfl rfl rfl rfl ?_
    refine Lw.pass (dj := 11) rfl rfl rfl rfl ?_
    refine Lw.pass (dj := 11) rfl rfl rfl rfl ?_
    refine Lw.val (Ex.pickT rfl rfl) rfl ?_
    refine Lw.val (Ex.assign rfl) rfl ?_
    refine Lw.nil ?_
    refine Pw.thenN (Cw.out ?_)
    refine Cw.condT rfl ?_
    refine Cw.seq ?_
    refine Cw.region ?_
    refine Lw.val (Ex.assign (show _ = some (u32 (0#32)) from rfl)) rfl ?_
    refine Lw.val (Ex.assign (show _ = some (u32 (0#32)) from rfl)) rfl ?_
    refine Lw.val (Ex.assign rfl) rfl ?_
    refine Lw.nil ?_
    refine Pw.thenN (Cw.out ?_)
    refine Cw.ret ?_
    refine Pw.blkR ?_
    refine Pw.thenR ?_
    refine Pw.ret3 rfl rfl rfl rfl ?_
    exact ⟨⟨0#32, 0#32, by rw [e4], fun h => by rw [e4] at h; cases h⟩, Below.refl _ _⟩
  intro g
  have g1 : b.take 5 = cmark := by simpa using g
  refine Lw.take (dj := 11) rfl rfl ?_
  refine Lw.val (Ex.move rfl) rfl ?_
  refine Lw.take (dj := 11) rfl rfl ?_
  refine Lw.val (Ex.move rfl) rfl ?_
  refine Lw.take (dj := 11) rfl rfl ?_
  refine Lw.val (Ex.addI rfl rfl (by omega)) rfl ?_
  refine Lw.take (dj := 11) rfl rfl ?_
  refine Lw.val (Ex.cutL (i := 17) st_53 rfl rfl hv (by omega)) rfl ?_
  refine Lw.take (dj := 11) rfl rfl ?_
  refine Lw.callF rfl rfl (nought_c _ (b.drop 17) w (SlT.drop hv (by omega))) ?_
  rintro _ w0 ⟨rfl, hn⟩
  refine Lw.take (dj := 11) rfl rfl ?_
  refine Lw.val (Ex.not rfl) rfl ?_
  refine Lw.val (Ex.pickF rfl rfl) rfl ?_
  refine Lw.val (Ex.assign rfl) rfl ?_
  refine Lw.nil ?_
  refine Pw.thenN (Cw.out ?_)
  refine Cw.cond rfl ?_ ?_
  · intro g
    have g2 : ¬ nzB (b.drop 17) = true := by simpa using g
    have e4 : cntE b = 4 := by unfold cntE; rw [if_neg (fun h => g2 h.2)]
    refine Cw.seq ?_
    refine Cw.region ?_
    refine Lw.val (Ex.assign (show _ = some (u32 (0#32)) from rfl)) rfl ?_
    refine Lw.val (Ex.assign (show _ = some (u32 (0#32)) from rfl)) rfl ?_
    refine Lw.val (Ex.assign rfl) rfl ?_
    refine Lw.nil ?_
    refine Pw.thenN (Cw.out ?_)
    refine Cw.ret ?_
    refine Pw.blkR ?_
    refine Pw.thenR ?_
    refine Pw.ret3 rfl rfl rfl rfl ?_
    exact ⟨⟨0#32, 0#32, by rw [e4], fun h => by rw [e4] at h; cases h⟩, hn⟩
  intro g
  have g2 : nzB (b.drop 17) = true := by simpa using g
  have hv1 := hv.bs hn
  refine Cw.seq ?_
  refine Cw.quiet mixed (by kernel_rfl) ?_
  refine Qw.val (fun w1 hq => Ex.move rfl) rfl ?_
  refine Qw.val (fun w1 hq => Ex.move rfl) rfl ?_
  refine Qw.val (fun w1 hq => Ex.cutH (j := 13) st_53 rfl rfl (hv1.bs hq) (by omega)) rfl ?_
  refine Qw.callF rfl rfl (fun w1 hq => (of_c _ (b.take 13) w1 ((SlT.take hv1 (by omega)).bs hq)).q hq) ?_
  refine Qw.val (fun w1 hq => Ex.move rfl) rfl ?_
  refine Qw.val (fun w1 hq => Ex.move rfl) rfl ?_
  refine Qw.val (fun w1 hq => Ex.cutL (i := 13) st_53 rfl rfl (hv1.bs hq) (by omega)) rfl ?_
  refine Qw.callF rfl rfl (fun w1 hq => (ofour_c _ (b.drop 13) w1 ((SlT.drop hv1 (by omega)).bs hq) (by rw [List.length_drop]; omega)).q hq) ?_
  refine Qw.val (fun w1 hq => Ex.neq32 rfl rfl) rfl ?_
  refine Qw.val (fun w1 hq => Ex.assign rfl) rfl ?_
  refine Qw.nil (fun w2 hq => ?_)
  refine Pw.thenN (Cw.out ?_)
  have hv2 := hv1.bs hq
  have hn2 := hn.trans (hq.mono hn.size)
  clear hq
  refine Cw.cond rfl ?_ ?_
  · intro g
    have e4 : cntE b = 11 := by unfold cntE; rw [if_pos ⟨g1, g2⟩, if_neg (by simpa using g)]
    refine Cw.seq ?_
    refine Cw.region ?_
    refine Lw.val (Ex.assign (show _ = some (u32 (0#32)) from rfl)) rfl ?_
    refine Lw.val (Ex.assign (show _ = some (u32 (0#32)) from rfl)) rfl ?_
    refine Lw.val (Ex.assign rfl) rfl ?_
    refine Lw.nil ?_
    refine Pw.thenN (Cw.out ?_)
    refine Cw.ret ?_
    refine Pw.blkR ?_
    refine Pw.thenR ?_
    refine Pw.ret3 rfl rfl rfl rfl ?_
    exact ⟨⟨0#32, 0#32, by rw [e4], fun h => by rw [e4] at h; cases h⟩, hn2⟩
  intro g
  have e4 : cntE b = 0 := by unfold cntE; rw [if_pos ⟨g1, g2⟩, if_pos (by simpa using g)]
  refine Cw.skip ?_
  refine Pw.blkN ?_
  refine Pw.thenN (Cw.out ?_)
  refine Cw.seq ?_
  refine Cw.quiet mixed (by kernel_rfl) ?_
  refine Qw.val (fun w1 hq => Ex.move rfl) rfl ?_
  refine Qw.val (fun w1 hq => Ex.cutL (i := 5) st_53 rfl rfl (hv2.bs hq) (by omega)) rfl ?_
  refine Qw.callF rfl rfl (fun w1 hq => (ofour_c _ (b.drop 5) w1 ((SlT.drop hv2 (by omega)).bs hq) (by rw [List.length_drop]; omega)).q hq) ?_
  refine Qw.val (fun w1 hq => Ex.move rfl) rfl ?_
  refine Qw.val (fun w1 hq => Ex.cutL (i := 9) st_53 rfl rfl (hv2.bs hq) (by omega)) rfl ?_
  refine Qw.callF rfl rfl (fun w1 hq => (ofour_c _ (b.drop 9) w1 ((SlT.drop hv2 (by omega)).bs hq) (by rw [List.length_drop]; omega)).q hq) ?_
  refine Qw.val (fun w1 hq => Ex.assign rfl) rfl ?_
  refine Qw.val (fun w1 hq => Ex.assign rfl) rfl ?_
  refine Qw.val (fun w1 hq => Ex.assign rfl) rfl ?_
  refine Qw.nil (fun w3 hq => ?_)
  refine Pw.thenN (Cw.out ?_)
  refine Cw.ret ?_
  refine Pw.ret3 rfl rfl rfl rfl ?_
  exact ⟨⟨gf (b.drop 5), gf (b.drop 9), by rw [e4], fun _ => ⟨rfl, rfl⟩⟩, hn2.trans (hq.mono hn2.size)⟩

/-! ### A sector -/
def secB (l : List By) (n : Nat) : By := (l.getD n []).take 60
def secE (l : List By) (n : Nat) : Int := if n < l.length then (if Crc.on (Crc.of (Crc.four (BitVec.ofInt 32 (n : Int)))) (secB l n) = gf ((l.getD n []).drop 60) then 0 else 11) else 4
theorem sector_c (A : Nat) (S : Nat → Prop) (D : Dsk) (n : Nat) (w : World) (h : DiskAt w S A D) :
    Fnc Try.prog 48 [.pointer (some ⟨A, 0, none⟩), .int .i64 (n : Int)] w (fun r w' => Below w.heap.size w w' ∧ ∃ x, r = .tuple #[x, .int .i64 (secE D.seen n)] ∧ (secE D.seen n = 0 → SlT b8 w' x (secB D.seen n) ∧ (∀ k, x.ownBlock = some k → w.heap.size ≤ k))) := by
  refine Fnc.enter (n := 34) Try.func48 (by kernel_rfl) rfl rfl rfl ?_
  refine Cw.seq ?_
  refine Cw.region ?_
  refine Lw.val (Ex.assign rfl) rfl ?_
  refine Lw.val (Ex.assign rfl) rfl ?_
  refine Lw.nil ?_
  refine Pw.thenN (Cw.out ?_)
  refine Cw.seq ?_
  refine Cw.seq ?_
  refine Cw.region ?_
  refine Lw.val (Ex.move rfl) rfl ?_
  refine Lw.val (Ex.move rfl) rfl ?_
  refine Lw.callF rfl rfl (dlen_c A S D w h) ?_
  rintro _ w ⟨rfl, rfl⟩
  refine Lw.val (Ex.geq rfl rfl) rfl ?_
  refine Lw.nil ?_
  refine Pw.thenN (Cw.out ?_)
  refine Cw.cond rfl ?_ ?_
  · intro g
    have g1 := of_decide_eq_true g
    have e4 : secE D.seen n = 4 := by unfold secE; rw [if_neg (by omega)]
    refine Cw.seq ?_
    refine Cw.region ?_
    refine Lw.val (Ex.assign rfl) rfl ?_
    refine Lw.val (Ex.assign rfl) rfl ?_
    refine Lw.nil ?_
    refine Pw.thenN (Cw.out ?_)
    refine Cw.ret ?_
    refine Pw.thenR ?_
    refine Pw.ret2 rfl rfl rfl ?_
    exact ⟨Below.refl _ _, _, by rw [e4], fun h => by rw [e4] at h; cases h⟩
  intro g
  have hn' : n < D.seen.length := by have := of_decide_eq_false g; omega
  refine Cw.skip ?_
  refine Pw.thenN (Cw.out ?_)
  refine Cw.seq ?_
  refine Cw.region ?_
  refine Lw.val (Ex.move rfl) rfl ?_
  refine Lw.val (Ex.move rfl) rfl ?_
  refine Lw.callF rfl rfl (read_c A S D n w h hn') ?_
  rintro _ w0 ⟨hr, x, rfl, hx⟩
  have l64 : (D.seen[n]).length = 64 := by obtain ⟨_, _, _, h⟩ := h; exact h.ok.f2 _ (List.getElem_mem hn')
  obtain ⟨b, hb⟩ : ∃ b, b = D.seen[n] := ⟨_, rfl⟩
  have eb : D.seen.getD n [] = b := by rw [hb]; simp [List.getD_eq_getElem?_getD, hn']
  rw [← hb] at hx l64
  have sx : SlT b8 w0 x b := by have := hx.sl; unfold SlT; rwa [l64]
  have xb := hx.lt
  refine Lw.val (Ex.move rfl) rfl ?_
  refine Lw.val (Ex.extract (i := 0) rfl rfl) rfl ?_
  refine Lw.val (Ex.extract (i := 1) rfl rfl) rfl ?_
  refine Lw.val (Ex.assign rfl) rfl ?_
  refine Lw.val (Ex.assign rfl) rfl ?_
  refine Lw.nil ?_
  refine Pw.thenN (Cw.out ?_)
  refine Cw.seq ?_
  refine Cw.seq ?_
  refine Cw.region ?_
  refine Lw.val (Ex.move rfl) rfl ?_
  refine Lw.val (Ex.neq rfl rfl) rfl ?_
  refine Lw.nil ?_
  refine Pw.thenN (Cw.out ?_)
  refine Cw.condB rfl false (rfl) ?_
  refine Cw.skip ?_
  refine Pw.thenN (Cw.out ?_)
  refine Cw.seq ?_
  refine Cw.seq ?_
  refine Cw.any mixed (fun w1 hd _ => ?_)
  refine Aw.take (i := 0) (NoP.thn (NoP.thn NoP.ret)) rfl (by kernel_rfl) (by kernel_rfl) (by kernel_rfl) (fun _ => Ex.move rfl) rfl ?_
  refine Aw.take (i := 1) (NoP.thn (NoP.thn NoP.ret)) rfl (by kernel_rfl) (by kernel_rfl) (by kernel_rfl) (fun _ => Ex.conv32 us_3 un_32 rfl) rfl ?_
  refine Aw.take (i := 4) (NoP.thn (NoP.thn NoP.ret)) rfl (by kernel_rfl) (by kernel_rfl) (by kernel_rfl) (fun _ => Ex.move rfl) rfl ?_
  refine Aw.take (i := 5) (NoP.thn (NoP.thn NoP.ret)) rfl (by kernel_rfl) (by kernel_rfl) (by kernel_rfl) (fun _ => Ex.cutHM (j := 60) st_53 rfl rfl rfl sx.shp (by omega)) rfl ?_
  refine Aw.take (i := 7) (NoP.thn (NoP.thn NoP.ret)) rfl (by kernel_rfl) (by kernel_rfl) (by kernel_rfl) (fun _ => Ex.move rfl) rfl ?_
  refine Aw.take (i := 8) (NoP.thn (NoP.thn NoP.ret)) rfl (by kernel_rfl) (by kernel_rfl) (by kernel_rfl) (fun _ => Ex.cutLv (i := 60) st_53 rfl rfl sx.shp (by omega)) rfl ?_
  refine Aw.only (i := 2) (by kernel_rfl) rfl ?_
  refine Lw.callF rfl rfl (putFour_c (.slice none 0 0) [] (BitVec.ofInt 32 (n : Int)) w1 (Sl.nil _ _) (by decide)) ?_
  rintro y w2 ⟨B, hB, -, ho, hn2⟩
  rw [List.nil_append] at ho
  refine Aw.back ?_
  refine Aw.only (i := 3) (by kernel_rfl) rfl ?_
  refine Lw.callF rfl rfl (of_c y _ w2 (own_slT ho)) ?_
  rintro _ w3 ⟨rfl, hn3⟩
  have sx3 := ((sx.bs hd).bs hn2).bs hn3
  have sx60 : SlT b8 w3 (cutm x 60) (b.take 60) := by
    have := Sl.cutm sx3 (show 60 ≤ b.length by omega)
    unfold SlT
    rw [List.length_take, l64, List.map_take]
    simpa using this
  refine Aw.back ?_
  refine Aw.only (i := 6) (by kernel_rfl) rfl ?_
  refine Lw.callF rfl rfl (on_c _ _ (b.take 60) w3 sx60) ?_
  rintro _ w4 ⟨rfl, hn4⟩
  have s4 : SlT b8 w4 (cut x 1 60 b.length) (b.drop 60) := SlT.drop (sx3.bs hn4) (by omega)
  refine Aw.back ?_
  refine Aw.only (i := 9) (by kernel_rfl) rfl ?_
  refine Lw.callF rfl rfl (ofour_c _ (b.drop 60) w4 s4 (by rw [List.length_drop]; omega)) ?_
  rintro _ w5 ⟨rfl, hn5⟩
  have hF : Below w.heap.size w w5 := by
    have z0 := hr.size; have z1 := hd.size; have z2 := hn2.size; have z3 := hn3.size; have z4 := hn4.size
    exact ((((hr.trans (hd.mono (by omega))).trans (hn2.mono (by omega))).trans (hn3.mono (by omega))).trans (hn4.mono (by omega))).trans (hn5.mono (by omega))
  have hs5 := (sx60.bs hn4).bs hn5
  have eE : secE D.seen n = if Crc.on (Crc.of (Crc.four (BitVec.ofInt 32 (n : Int)))) (b.take 60) = gf (b.drop 60) then 0 else 11 := by
    unfold secE secB; rw [if_pos hn', eb]
  refine Aw.back ?_
  refine Aw.take (i := 10) (NoP.thn (NoP.thn NoP.ret)) rfl (by kernel_rfl) (by kernel_rfl) (by kernel_rfl) (fun _ => Ex.neq32 rfl rfl) rfl ?_
  refine Aw.done (by kernel_rfl) ?_
  refine Pw.thenN (Cw.out ?_)
  refine Cw.cond rfl ?_ ?_
  · intro g
    have e4 : secE D.seen n = 11 := by rw [eE, if_neg (by simpa using g)]
    refine Cw.seq ?_
    refine Cw.region ?_
    refine Lw.val (Ex.assign rfl) rfl ?_
    refine Lw.val (Ex.assign rfl) rfl ?_
    refine Lw.nil ?_
    refine Pw.thenN (Cw.out ?_)
    refine Cw.ret ?_
    refine Pw.thenR ?_
    refine Pw.ret2 rfl rfl rfl ?_
    exact ⟨hF, _, by rw [e4], fun h => by rw [e4] at h; cases h⟩
  intro g
  have e4 : secE D.seen n = 0 := by rw [eE, if_pos (by simpa using g)]
  refine Cw.skip ?_
  refine Pw.thenN (Cw.out ?_)
  refine Cw.seq ?_
  refine Cw.region ?_
  refine Lw.val (Ex.move rfl) rfl ?_
  refine Lw.val (Ex.cutHM (j := 60) st_53 rfl rfl rfl sx.shp (by omega)) rfl ?_
  refine Lw.val (Ex.assign rfl) rfl ?_
  refine Lw.val (Ex.assign rfl) rfl ?_
  refine Lw.nil ?_
  refine Pw.thenN (Cw.out ?_)
  refine Cw.ret ?_
  refine Pw.ret2 rfl rfl rfl ?_
  exact ⟨hF, _, by rw [e4], fun _ => ⟨by unfold secB; rw [eb]; exact hs5, fun k e => (xb k (cutm_own _ _ k e)).1⟩⟩
end Go.Proofs.Ytiaojbbgjlpikaa
