/- Contract: a list of bytes, sixty by sixty. -/
import Derived.Test.YtiaojbbgjlpikaaOutLog
namespace Go.Proofs.Ytiaojbbgjlpikaa
open Go Go.Dd Go.RowKit
set_option maxRecDepth 100000

theorem chunk_c (v : Value) (w : World) (hv : v.cells = [v].toArray) : Fnc Try.prog 33 [v, .int .i64 60] w (fun r w' => Below w.heap.size w w' ∧ ∃ p q, r = .func (.func 54) #[] #[.pointer (some ⟨p, 0, none⟩), .pointer (some ⟨q, 0, none⟩)] ∧ w.heap.size ≤ p ∧ p < q ∧ Blk w' p 53 [v] ∧ Blk w' q 3 [.int .i64 60]) := by
  refine Fnc.enter (n := 9) Try.func33 (by kernel_rfl) rfl rfl rfl ?_
  refine Cw.seq ?_
  refine Cw.region ?_
  refine Lw.valW (Xw.box (cs := [v]) rfl hv) rfl ?_
  rintro _ w1 ⟨rfl, b1, hn1, hz1⟩
  refine Lw.valW (Xw.box (cs := [.int .i64 60]) rfl rfl) rfl ?_
  rintro _ w2 ⟨rfl, b2, hn2, hz2⟩
  have b1 := b1.bs hn2
  have z1 := hn1.size
  have hB := hn1.trans (hn2.mono z1)
  refine Lw.val (Ex.assign rfl) rfl ?_
  refine Lw.nil ?_
  refine Pw.thenN (Cw.out ?_)
  refine Cw.seq ?_
  refine Cw.seq ?_
  refine Cw.region ?_
  refine Lw.val (Ex.ldB (ag_3 _) rfl (by assumption) rfl) rfl ?_
  refine Lw.val (Ex.lss rfl rfl) rfl ?_
  refine Lw.nil ?_
  refine Pw.thenN (Cw.out ?_)
  refine Cw.condB rfl false (rfl) ?_
  refine Cw.skip ?_
  refine Pw.thenN (Cw.out ?_)
  refine Cw.seq ?_
  refine Cw.region ?_
  refine Lw.val (Ex.mkFn (vs := []) rfl rfl) rfl ?_
  refine Lw.val (Ex.assign rfl) rfl ?_
  refine Lw.nil ?_
  refine Pw.thenN (Cw.out ?_)
  refine Cw.ret ?_
  refine Pw.ret1 rfl rfl ?_
  exact ⟨hB, _, _, rfl, Nat.le_refl _, by omega, b1, b2⟩
theorem cut_shp {v : Value} {c i j sz : Nat} (h : Shp v c) (hij : i ≤ j) (hj : j ≤ c) : Shp (cut v sz i j) (j - i) := by
  obtain ⟨ao, cap, rfl, h1, h2, h3⟩ := h
  refine ⟨_, cap - i, rfl, by omega, by omega, fun hn => ?_⟩
  by_cases he : cap = i
  · omega
  · rw [if_neg he] at hn
    cases ao with
    | none => have := h3 rfl; omega
    | some _ => cases hn
/-- The parts of a list, sixty elements each. -/
def parts (v : Value) (K : Nat) : List Value := (List.range K).map fun i => cutp v 1 (60 * i) (60 * i + 60)
theorem parts_step (v : Value) (K : Nat) : parts v (K + 1) = parts v K ++ [cutp v 1 (60 * K) (60 * K + 60)] := by simp [parts, List.range_succ]
theorem parts_pre {v : Value} {k K : Nat} (h : k ≤ K) : parts v k <+: parts v K := by
  induction K with
  | zero => obtain rfl : k = 0 := by omega
            exact ⟨[], by simp⟩
  | succ K ih =>
    by_cases h1 : k ≤ K
    · exact (ih h1).trans ⟨_, (parts_step v K).symm⟩
    · obtain rfl : k = K + 1 := by omega
      exact ⟨[], by simp⟩
theorem chunk_sq (p q K : Nat) (v : Value) (w : World) (hp : Blk w p 53 [v]) (hq : Blk w q 3 [.int .i64 60]) (hv : Shp v (60 * K)) (hK : K ≤ 100000) :
    Sq Try.prog 54 [] [.pointer (some ⟨p, 0, none⟩), .pointer (some ⟨q, 0, none⟩)] (fun x : Value => [x]) (fun b => b = p ∨ b = q) none (parts v K) w := by
  intro lp J W hW hJ hY h0
  show Fnc Try.prog 54 [.func (.yield lp) #[] #[], .pointer (some ⟨p, 0, none⟩), .pointer (some ⟨q, 0, none⟩)] W (fun _ A' => J (parts v K) A')
  have hp := hp.bs hW
  have hq := hq.bs hW
  refine Fnc.enterG (n := 31) Try.func54 (by kernel_rfl) rfl rfl rfl ?_
  refine Cg.seq ?_
  refine Cg.region (by kernel_rfl) ?_
  refine Lw.val (Ex.assign rfl) rfl ?_
  refine Lw.nil (Pg.low ?_)
  refine Pg.thenN (Cg.out ?_)
  refine Cg.block ?_
  refine Cg.loop (S := Nat) (fun k => [(0, .func (.yield lp) #[] #[]), (1, .pointer (some ⟨p, 0, none⟩)), (2, .pointer (some ⟨q, 0, none⟩)), (4, .int .i64 ((60 * k : Nat) : Int))]) (fun k w' => k ≤ K ∧ J (parts v k) w' ∧ Blk w' p 53 [v] ∧ Blk w' q 3 [.int .i64 60]) (fun k => K - k) (0) ⟨rfl, rfl, rfl, rfl, trivial⟩ ?_ ?_
  · exact ⟨Nat.zero_le _, h0, hp, hq⟩
  clear h0 hp hq hW
  rintro k w ⟨hk, h0, hp, hq'⟩
  refine Cg.seq ?_
  refine Cg.seq ?_
  refine Cg.region (by kernel_rfl) ?_
  refine Lw.val (Ex.move rfl) rfl ?_
  refine Lw.val (Ex.ldB (ag_53 _) rfl (by assumption) rfl) rfl ?_
  refine Lw.val (Ex.lenV st_53 rfl hv) rfl ?_
  refine Lw.val (Ex.lss rfl rfl) rfl ?_
  refine Lw.nil (Pg.low ?_)
  refine Pg.thenN (Cg.out ?_)
  refine Cg.cond rfl ?_ ?_
  · intro g
    have hk' : k < K := by have := of_decide_eq_true g; omega
    refine Cg.skip ?_
    refine Pg.thenN (Cg.out ?_)
    refine Cg.seq ?_
    refine Cg.block ?_
    refine Cg.seq ?_
    refine Cg.quiet mixed (by kernel_rfl) (by kernel_rfl) ?_
    refine Qw.val (fun w1 hq => Ex.ldB (ag_3 _) rfl (hq'.bs hq) rfl) rfl ?_
    refine Qw.val (fun w1 hq => Ex.ldB (ag_53 _) rfl (Blk.bs (by assumption) hq) rfl) rfl ?_
    refine Qw.val (fun w1 hq => Ex.move rfl) rfl ?_
    refine Qw.val (fun w1 hq => Ex.cutLv (i := 60 * k) st_53 rfl rfl hv (by omega)) rfl ?_
    refine Qw.val (fun w1 hq => Ex.lenV st_53 rfl (cut_shp hv (by omega) (Nat.le_refl _))) rfl ?_
    refine Qw.val (fun w1 hq => Ex.as (Ex.min2 rfl rfl) (congrArg (Value.int .i64) (show (if ((60 * K - 60 * k : Nat) : Int) < 60 then ((60 * K - 60 * k : Nat) : Int) else 60) = 60 by split <;> omega))) rfl ?_
    refine Qw.val (fun w1 hq => Ex.assign rfl) rfl ?_
    refine Qw.nil (fun w2 hq => (Pg.low ?_))
    refine Pg.thenN (Cg.out ?_)
    refine Cg.seq ?_
    have hp2 := hp.bs hq
    have hq2 := hq'.bs hq
    have h02 := hJ _ _ _ h0 ⟨none, below_grown hq none, .inl rfl⟩
    have hpre : parts v k ++ [cutp v 1 (60 * k) (60 * k + 60)] <+: parts v K := by rw [← parts_step]; exact parts_pre hk'
    refine Cg.regionY ?_
    refine Lg.plain 10 (by kernel_rfl) ?_
    refine Lw.val (Ex.move rfl) rfl ?_
    refine Lw.val (Ex.ldB (ag_53 _) rfl (by assumption) rfl) rfl ?_
    refine Lw.val (Ex.move rfl) rfl ?_
    refine Lw.val (Ex.move rfl) rfl ?_
    refine Lw.val (Ex.move rfl) rfl ?_
    refine Lw.val (Ex.as (Ex.addI rfl rfl (by omega)) (congrArg (Value.int .i64) (show ((60 * k : Nat) : Int) + 60 = ((60 * k + 60 : Nat) : Int) by omega))) rfl ?_
    refine Lw.val (Ex.move rfl) rfl ?_
    refine Lw.val (Ex.move rfl) rfl ?_
    refine Lw.val (Ex.as (Ex.addI rfl rfl (by omega)) (congrArg (Value.int .i64) (show ((60 * k : Nat) : Int) + 60 = ((60 * k + 60 : Nat) : Int) by omega))) rfl ?_
    refine Lw.val (Ex.cutP (i := 60 * k) (j := 60 * k + 60) st_53 rfl rfl rfl rfl hv (by omega) (by omega)) rfl ?_
    refine Lw.nil (Pg.low (Lg.out ?_))
    refine Lg.yield rfl rfl rfl (hY (parts v k) (cutp v 1 (60 * k) (60 * k + 60)) w2 h02 hpre) ?_
    rintro _ w3 ⟨rfl, h3, hB⟩
    rw [← parts_step] at h3
    have hp3 := hp2.keep (hB.2 p (.inl rfl) (blk_lt hp2))
    have hq3 := hq2.keep (hB.2 q (.inr rfl) (blk_lt hq2))
    refine Lg.plain 1 (by kernel_rfl) ?_
    refine Lw.val (Ex.not rfl) rfl ?_
    refine Lw.nil (Pg.low (Lg.out (Lg.nil ?_)))
    refine Pg.thenN (Cg.out ?_)
    refine Cg.condB rfl false (rfl) ?_
    refine Cg.skip ?_
    refine Pg.blkN ?_
    refine Pg.thenN (Cg.out ?_)
    refine Cg.region (by kernel_rfl) ?_
    refine Lw.val (Ex.move rfl) rfl ?_
    refine Lw.val (Ex.ldB (ag_3 _) rfl (by assumption) rfl) rfl ?_
    refine Lw.val (Ex.addI rfl rfl (by omega)) rfl ?_
    refine Lw.val (Ex.assign rfl) rfl ?_
    refine Lw.nil (Pg.low ?_)
    exact Pg.thenN (Pg.next (k + 1) ⟨rfl, rfl, rfl, (congrArg (fun z => some (Value.int .i64 z)) (by omega)), trivial⟩ (⟨hk', h3, hp3, hq3⟩) (by omega))
  intro g
  have hk' : k = K := by have := of_decide_eq_false g; omega
  subst hk'
  refine Cg.exit ?_
  refine Pg.thenE ?_
  refine Pg.thenE ?_
  refine Pg.blkHit ?_
  refine Pg.closeE ?_
  refine Pw.end0 rfl ?_
  exact h0
end Go.Proofs.Ytiaojbbgjlpikaa
