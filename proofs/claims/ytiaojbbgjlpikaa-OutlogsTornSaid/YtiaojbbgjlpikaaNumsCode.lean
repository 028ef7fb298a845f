/- Contracts: numbers as bytes. -/
import Derived.Test.YtiaojbbgjlpikaaFacts
import Derived.Test.YtiaojbbgjlpikaaByt
namespace Go.Proofs.Ytiaojbbgjlpikaa
open Go Go.Dd Go.RowKit
set_option maxRecDepth 100000

def gf (l : List (BitVec 8)) : BitVec 32 := le4 (l.getD 0 default) (l.getD 1 default) (l.getD 2 default) (l.getD 3 default)
theorem gf_nums {l : List (BitVec 8)} (h : 4 ≤ l.length) : nums l = gf l :: nums (l.drop 4) := by
  have := nums_drop l 0 (by omega)
  simpa [gf] using this
theorem four_c (v : Value) (l : List (BitVec 8)) (w : World) (hv : SlT b8 w v l) (hl : 4 ≤ l.length) : Fnc Try.prog 69 [v] w (fun r w' => r = u32 (gf l) ∧ Below w.heap.size w w') := by
  refine Fnc.enter (n := 25) Try.func69 (by kernel_rfl) rfl rfl rfl ?_
  refine Cw.seq ?_
  refine Cw.region ?_
  refine Lw.val (Ex.assign (show _ = some (u32 (0#32)) from rfl)) rfl ?_
  refine Lw.nil ?_
  refine Pw.thenN (Cw.out ?_)
  refine Cw.seq ?_
  refine Cw.quiet mixed (by kernel_rfl) ?_
  refine Qw.val (fun w1 hq => Ex.move rfl) rfl ?_
  refine Qw.val (fun w1 hq => Ex.idxT st_53 rfl rfl (Sl.bs (by assumption) hq) 0 rfl (by omega)) rfl ?_
  refine Qw.val (fun w1 hq => Ex.ldT (ag_5 _) rfl (Sl.bs (by assumption) hq) (by omega)) rfl ?_
  refine Qw.val (fun w1 hq => Ex.conv8_32 us_5 un_32 rfl) rfl ?_
  refine Qw.val (fun w1 hq => Ex.move rfl) rfl ?_
  refine Qw.val (fun w1 hq => Ex.idxT st_53 rfl rfl (Sl.bs (by assumption) hq) 1 rfl (by omega)) rfl ?_
  refine Qw.val (fun w1 hq => Ex.ldT (ag_5 _) rfl (Sl.bs (by assumption) hq) (by omega)) rfl ?_
  refine Qw.val (fun w1 hq => Ex.conv8_32 us_5 un_32 rfl) rfl ?_
  refine Qw.val (fun w1 hq => Ex.shl32 (j := 8) rfl rfl (by decide)) rfl ?_
  refine Qw.val (fun w1 hq => Ex.or32 rfl rfl) rfl ?_
  refine Qw.val (fun w1 hq => Ex.move rfl) rfl ?_
  refine Qw.val (fun w1 hq => Ex.idxT st_53 rfl rfl (Sl.bs (by assumption) hq) 2 rfl (by omega)) rfl ?_
  refine Qw.val (fun w1 hq => Ex.ldT (ag_5 _) rfl (Sl.bs (by assumption) hq) (by omega)) rfl ?_
  refine Qw.val (fun w1 hq => Ex.conv8_32 us_5 un_32 rfl) rfl ?_
  refine Qw.val (fun w1 hq => Ex.shl32 (j := 16) rfl rfl (by decide)) rfl ?_
  refine Qw.val (fun w1 hq => Ex.or32 rfl rfl) rfl ?_
  refine Qw.val (fun w1 hq => Ex.move rfl) rfl ?_
  refine Qw.val (fun w1 hq => Ex.idxT st_53 rfl rfl (Sl.bs (by assumption) hq) 3 rfl (by omega)) rfl ?_
  refine Qw.val (fun w1 hq => Ex.ldT (ag_5 _) rfl (Sl.bs (by assumption) hq) (by omega)) rfl ?_
  refine Qw.val (fun w1 hq => Ex.conv8_32 us_5 un_32 rfl) rfl ?_
  refine Qw.val (fun w1 hq => Ex.shl32 (j := 24) rfl rfl (by decide)) rfl ?_
  refine Qw.val (fun w1 hq => Ex.or32 rfl rfl) rfl ?_
  refine Qw.val (fun w1 hq => Ex.assign rfl) rfl ?_
  refine Qw.nil (fun w1 hq => ?_)
  refine Pw.thenN (Cw.out ?_)
  refine Cw.ret ?_
  refine Pw.ret1 rfl rfl ?_
  exact ⟨rfl, hq⟩
theorem getFour_c (v : Value) (l : List (BitVec 8)) (w : World) (hv : SlT b8 w v l) : Fnc Try.prog 59 [v] w (fun r w' => r = .tuple #[u32 (if l.length < 4 then 0#32 else gf l), .int .i64 (if l.length < 4 then 5 else 0)] ∧ Below w.heap.size w w') := by
  refine Fnc.enter (n := 9) Try.func59 (by kernel_rfl) rfl rfl rfl ?_
  refine Cw.seq ?_
  refine Cw.region ?_
  refine Lw.val (Ex.assign (show _ = some (u32 (0#32)) from rfl)) rfl ?_
  refine Lw.val (Ex.assign rfl) rfl ?_
  refine Lw.nil ?_
  refine Pw.thenN (Cw.out ?_)
  refine Cw.seq ?_
  refine Cw.seq ?_
  refine Cw.region ?_
  refine Lw.val (Ex.move rfl) rfl ?_
  refine Lw.val (Ex.lenS st_53 rfl (by assumption)) rfl ?_
  refine Lw.val (Ex.lss rfl rfl) rfl ?_
  refine Lw.nil ?_
  refine Pw.thenN (Cw.out ?_)
  refine Cw.cond rfl ?_ ?_
  · intro g
    have g' : l.length < 4 := by have := of_decide_eq_true g; omega
    refine Cw.seq ?_
    refine Cw.region ?_
    refine Lw.val (Ex.assign (show _ = some (u32 (0#32)) from rfl)) rfl ?_
    refine Lw.val (Ex.assign rfl) rfl ?_
    refine Lw.nil ?_
    refine Pw.thenN (Cw.out ?_)
    refine Cw.ret ?_
    refine Pw.thenR ?_
    refine Pw.ret2 rfl rfl rfl ?_
    exact ⟨by rw [if_pos g', if_pos g'], Below.refl _ _⟩
  intro g
  have g' : ¬ l.length < 4 := by have := of_decide_eq_false g; omega
  refine Cw.skip ?_
  refine Pw.thenN (Cw.out ?_)
  refine Cw.seq ?_
  refine Cw.region ?_
  refine Lw.val (Ex.move rfl) rfl ?_
  refine Lw.callF rfl rfl (four_c v l w hv (by omega)) ?_
  rintro _ w1 ⟨rfl, hn⟩
  refine Lw.val (Ex.assign rfl) rfl ?_
  refine Lw.val (Ex.assign rfl) rfl ?_
  refine Lw.nil ?_
  refine Pw.thenN (Cw.out ?_)
  refine Cw.ret ?_
  refine Pw.ret2 rfl rfl rfl ?_
  exact ⟨by rw [if_neg g', if_neg g'], hn⟩
theorem growU32S_c (k : Nat) (w : World) (hk : k ≤ 16777216) : Fnc Try.prog 72 [.slice none 0 0, .int .i64 (k : Int)] w (fun r w' => w'.ownsRow w.heap.size 32 1 r 0 [] ∧ Below w.heap.size w w') := by
  have hnil := Sl.nil w 1
  refine Fnc.enter (n := 27) Try.func72 (by kernel_rfl) rfl rfl rfl ?_
  refine Cw.seq ?_
  refine Cw.region ?_
  refine Lw.val (Ex.assign rfl) rfl ?_
  refine Lw.nil ?_
  refine Pw.thenN (Cw.out ?_)
  refine Cw.seq ?_
  refine Cw.seq ?_
  refine Cw.region ?_
  refine Lw.val (Ex.move rfl) rfl ?_
  refine Lw.val (Ex.lss rfl rfl) rfl ?_
  refine Lw.nil ?_
  refine Pw.thenN (Cw.out ?_)
  refine Cw.condB rfl false (by simp) ?_
  refine Cw.skip ?_
  refine Pw.thenN (Cw.out ?_)
  refine Cw.seq ?_
  refine Cw.seq ?_
  refine Cw.region ?_
  refine Lw.val (Ex.move rfl) rfl ?_
  refine Lw.val (Ex.move rfl) rfl ?_
  refine Lw.val (Ex.capNil st_133 rfl) rfl ?_
  refine Lw.val (Ex.move rfl) rfl ?_
  refine Lw.val (Ex.lenS st_133 rfl (by assumption)) rfl ?_
  refine Lw.val (Ex.subI rfl rfl (by omega)) rfl ?_
  refine Lw.val (Ex.subI rfl rfl (by omega)) rfl ?_
  refine Lw.val (Ex.assign rfl) rfl ?_
  refine Lw.nil ?_
  refine Pw.thenN (Cw.out ?_)
  refine Cw.seq ?_
  refine Cw.region ?_
  refine Lw.val (Ex.move rfl) rfl ?_
  refine Lw.val (Ex.gtr rfl rfl) rfl ?_
  refine Lw.nil ?_
  refine Pw.thenN (Cw.out ?_)
  refine Cw.cond rfl ?_ ?_
  · intro g
    have g' : 0 < k := by have := of_decide_eq_true g; omega
    refine Cw.region ?_
    refine Lw.val (Ex.move rfl) rfl ?_
    refine Lw.val (Ex.move rfl) rfl ?_
    refine Lw.val (Ex.capNil st_133 rfl) rfl ?_
    refine Lw.val (Ex.as (u := .slice none 0 0) (Ex.cutH (j := 0) st_133 rfl rfl hnil (Nat.le_refl 0)) rfl) rfl ?_
    refine Lw.val (Ex.as (u := .int .i64 (k : Int)) (Ex.move rfl) (congrArg (Value.int .i64) (by omega))) rfl ?_
    refine Lw.valW (Xw.grow0 (tn := 3) (kn := .i64) st_133 it_32 rfl (by decide) un_3 rfl rfl g' (by omega) (by omega)) rfl ?_
    rintro v w1 ⟨cap, xs, rfl, ho, hn⟩
    have hnil := Sl.nil w1 1
    refine Lw.val (Ex.move rfl) rfl ?_
    refine Lw.val (Ex.lenS st_133 rfl (by assumption)) rfl ?_
    refine Lw.val (Ex.extH (j := 0) st_133 rfl rfl (Nat.zero_le cap)) rfl ?_
    refine Lw.val (Ex.assign rfl) rfl ?_
    refine Lw.nil ?_
    refine Pw.thenN (Cw.out ?_)
    refine Cw.seq ?_
    refine Cw.region ?_
    refine Lw.val (Ex.move rfl) rfl ?_
    refine Lw.val (Ex.assign rfl) rfl ?_
    refine Lw.nil ?_
    refine Pw.thenN (Cw.out ?_)
    refine Cw.ret ?_
    refine Pw.ret1 rfl rfl ?_
    exact ⟨own_short (k := 0) (m := k) (xs := []) (by simpa using ho) rfl, hn⟩
  · intro g
    refine Cw.skip ?_
    refine Pw.thenN (Cw.out ?_)
    refine Cw.seq ?_
    refine Cw.region ?_
    refine Lw.val (Ex.move rfl) rfl ?_
    refine Lw.val (Ex.assign rfl) rfl ?_
    refine Lw.nil ?_
    refine Pw.thenN (Cw.out ?_)
    refine Cw.ret ?_
    refine Pw.ret1 rfl rfl ?_
    exact ⟨⟨rfl, .inl ⟨rfl, rfl⟩⟩, Below.refl _ _⟩
theorem concatU32_c (v : Value) (ps : List (Value × List (BitVec 32))) (w : World) (hv : SlT (fun p : Value × List (BitVec 32) => p.1) w v ps) (hp : ∀ p ∈ ps, SlT (u32) w p.1 p.2) (hb : (ps.map (·.2)).flatten.length ≤ 16777216) :
    Fnc Try.prog 66 [v] w (fun r w' => w'.ownsRow w.heap.size 32 1 r (ps.map (·.2)).flatten.length ((ps.map (·.2)).flatten.map (u32)) ∧ Below w.heap.size w w') := by
  have hle := hv.le
  have hmem : ∀ i, i < ps.length → SlT (u32) w (ps.getD i default).1 (ps.getD i default).2 := fun i hi => hp _ (getD_mem hi)
  refine Fnc.enter (n := 36) Try.func66 (by kernel_rfl) rfl rfl rfl ?_
  refine Cw.seq ?_
  refine Cw.region ?_
  refine Lw.val (Ex.assign rfl) rfl ?_
  refine Lw.nil ?_
  refine Pw.thenN (Cw.out ?_)
  refine Cw.seq ?_
  refine Cw.region ?_
  refine Lw.val (Ex.assign rfl) rfl ?_
  refine Lw.nil ?_
  refine Pw.thenN (Cw.out ?_)
  refine Cw.seq ?_
  refine Cw.seq ?_
  refine Cw.region ?_
  refine Lw.val (Ex.move rfl) rfl ?_
  refine Lw.val (Ex.lenS st_139 rfl (by assumption)) rfl ?_
  refine Lw.val (Ex.move rfl) rfl ?_
  refine Lw.nil ?_
  refine Pw.thenN (Cw.out ?_)
  refine Cw.block ?_
  refine Cw.loop (S := Nat) (fun i => [(0, v), (3, .int .i64 ((((ps.take i).map (·.2)).flatten.length : Nat) : Int)), (9, v), (10, .int .i64 (ps.length : Int)), (11, .int .i64 (i : Int))]) (fun i w' => i ≤ ps.length ∧ w' = w) (fun i => ps.length - i) (0) ⟨rfl, rfl, rfl, rfl, rfl, trivial⟩ ?_ ?_
  · exact ⟨by omega, rfl⟩
  rintro i w1 ⟨hi, rfl⟩
  refine Cw.seq ?_
  refine Cw.region ?_
  refine Lw.val (Ex.lss rfl rfl) rfl ?_
  refine Lw.nil ?_
  refine Pw.thenN (Cw.out ?_)
  refine Cw.seq ?_
  refine Cw.cond rfl ?_ ?_
  · intro h
    have hi' : i < ps.length := by simp at h; omega
    have hs := hmem i hi'
    have h1 := cat_le (ps := ps) (i + 1)
    have h2 := cat_step hi'
    have h3 := congrArg List.length h2
    rw [List.length_append] at h3
    refine Cw.skip ?_
    refine Pw.thenN (Cw.out ?_)
    refine Cw.seq ?_
    refine Cw.block ?_
    refine Cw.seq ?_
    refine Cw.region ?_
    refine Lw.val (Ex.idxT st_139 rfl rfl (by assumption) _ rfl (by omega)) rfl ?_
    refine Lw.val (Ex.ldT (ag_133 _) rfl (by assumption) (by omega)) rfl ?_
    refine Lw.val (Ex.assign rfl) rfl ?_
    refine Lw.nil ?_
    refine Pw.thenN (Cw.out ?_)
    refine Cw.seq ?_
    refine Cw.region ?_
    refine Lw.val (Ex.move rfl) rfl ?_
    refine Lw.val (Ex.move rfl) rfl ?_
    refine Lw.val (Ex.lenS st_133 rfl (by assumption)) rfl ?_
    refine Lw.val (Ex.addI rfl rfl (by omega)) rfl ?_
    refine Lw.val (Ex.assign rfl) rfl ?_
    refine Lw.nil ?_
    refine Pw.thenN (Cw.out ?_)
    refine Cw.seq ?_
    refine Cw.region ?_
    refine Lw.val (Ex.move rfl) rfl ?_
    refine Lw.val (Ex.lss rfl rfl) rfl ?_
    refine Lw.nil ?_
    refine Pw.thenN (Cw.out ?_)
    refine Cw.condB rfl false (by simp; omega) ?_
    refine Cw.skip ?_
    refine Pw.blkN ?_
    refine Pw.thenN (Cw.out ?_)
    refine Cw.region ?_
    refine Lw.val (Ex.addI rfl rfl (by omega)) rfl ?_
    refine Lw.val (Ex.move rfl) rfl ?_
    refine Lw.nil ?_
    exact Pw.thenN (Pw.next (i + 1) ⟨rfl, (congrArg (fun x => some (Value.int .i64 x)) (by omega)), rfl, rfl, rfl, trivial⟩ (⟨hi', rfl⟩) (by omega))
  intro h
  have hi' : i = ps.length := by simp at h; omega
  subst hi'
  rw [List.take_length]
  refine Cw.exit ?_
  refine Pw.thenE ?_
  refine Pw.thenE ?_
  refine Pw.blkHit ?_
  refine Pw.thenN (Cw.out ?_)
  refine Cw.seq ?_
  refine Cw.region ?_
  refine Lw.val (Ex.move rfl) rfl ?_
  refine Lw.callF rfl rfl (growU32S_c _ w1 hb) ?_
  rintro x w2 ⟨ho, hn⟩
  have hv2 := hv.bs hn
  refine Lw.val (Ex.assign rfl) rfl ?_
  refine Lw.nil ?_
  refine Pw.thenN (Cw.out ?_)
  refine Cw.seq ?_
  refine Cw.seq ?_
  refine Cw.region ?_
  refine Lw.val (Ex.move rfl) rfl ?_
  refine Lw.val (Ex.lenS st_139 rfl (by assumption)) rfl ?_
  refine Lw.val (Ex.move rfl) rfl ?_
  refine Lw.nil ?_
  refine Pw.thenN (Cw.out ?_)
  refine Cw.block ?_
  refine Cw.loop (S := (Nat × Value)) (fun z => [(0, v), (6, z.2), (25, v), (26, .int .i64 (ps.length : Int)), (27, .int .i64 (z.1 : Int))]) (fun z w' => z.1 ≤ ps.length ∧ w'.ownsRow w1.heap.size 32 1 z.2 ((ps.take z.1).map (·.2)).flatten.length (((ps.take z.1).map (·.2)).flatten.map (u32)) ∧ Below w1.heap.size w1 w') (fun z => ps.length - z.1) ((0, x)) ⟨rfl, rfl, rfl, rfl, rfl, trivial⟩ ?_ ?_
  · exact ⟨Nat.zero_le _, by simpa using ho, hn⟩
  clear ho hn hv2
  rintro ⟨i, x⟩ w2 ⟨hi, ho, hn⟩
  dsimp only at hi ho ⊢
  have hv2 := hv.bs hn
  refine Cw.seq ?_
  refine Cw.region ?_
  refine Lw.val (Ex.lss rfl rfl) rfl ?_
  refine Lw.nil ?_
  refine Pw.thenN (Cw.out ?_)
  refine Cw.seq ?_
  refine Cw.cond rfl ?_ ?_
  · intro h
    have hi' : i < ps.length := by simp at h; omega
    have hs := (hmem i hi').bs hn
    have h1 := cat_le (ps := ps) (i + 1)
    have h2 := cat_step hi'
    have h3 := congrArg List.length h2
    rw [List.length_append] at h3
    refine Cw.skip ?_
    refine Pw.thenN (Cw.out ?_)
    refine Cw.seq ?_
    refine Cw.block ?_
    refine Cw.seq ?_
    refine Cw.region ?_
    refine Lw.val (Ex.idxT st_139 rfl rfl (by assumption) _ rfl (by omega)) rfl ?_
    refine Lw.val (Ex.ldT (ag_133 _) rfl (by assumption) (by omega)) rfl ?_
    refine Lw.val (Ex.assign rfl) rfl ?_
    refine Lw.nil ?_
    refine Pw.thenN (Cw.out ?_)
    refine Cw.region ?_
    refine Lw.val (Ex.move rfl) rfl ?_
    refine Lw.val (Ex.move rfl) rfl ?_
    refine Lw.valW (Xw.append (base := w1.heap.size) st_133 it_32 rfl (by decide) rfl rfl ho hs (one_map (fun _ => rfl) _) (by omega) (by omega) hn.size) rfl ?_
    rintro x' w3 ⟨ho3, hb3, -⟩
    rw [← List.map_append, ← h2, ← h3] at ho3
    refine Lw.val (Ex.assign rfl) rfl ?_
    refine Lw.nil ?_
    refine Pw.blkN ?_
    refine Pw.thenN (Cw.out ?_)
    refine Cw.region ?_
    refine Lw.val (Ex.addI rfl rfl (by omega)) rfl ?_
    refine Lw.val (Ex.move rfl) rfl ?_
    refine Lw.nil ?_
    exact Pw.thenN (Pw.next ((i + 1, x')) ⟨rfl, rfl, rfl, rfl, rfl, trivial⟩ (⟨hi', ho3, hn.trans hb3⟩) (by simp only; omega))
  intro h
  have hi' : i = ps.length := by simp at h; omega
  subst hi'
  rw [List.take_length] at ho
  refine Cw.exit ?_
  refine Pw.thenE ?_
  refine Pw.thenE ?_
  refine Pw.blkHit ?_
  refine Pw.thenN (Cw.out ?_)
  refine Cw.seq ?_
  refine Cw.region ?_
  refine Lw.val (Ex.move rfl) rfl ?_
  refine Lw.val (Ex.assign rfl) rfl ?_
  refine Lw.nil ?_
  refine Pw.thenN (Cw.out ?_)
  refine Cw.ret ?_
  refine Pw.ret1 rfl rfl ?_
  exact ⟨ho, hn⟩
theorem growU8S_c (k : Nat) (w : World) (hk : k ≤ 16777216) : Fnc Try.prog 65 [.slice none 0 0, .int .i64 (k : Int)] w (fun r w' => w'.ownsRow w.heap.size 5 1 r 0 [] ∧ Below w.heap.size w w') := by
  have hnil := Sl.nil w 1
  refine Fnc.enter (n := 27) Try.func65 (by kernel_rfl) rfl rfl rfl ?_
  refine Cw.seq ?_
  refine Cw.region ?_
  refine Lw.val (Ex.assign rfl) rfl ?_
  refine Lw.nil ?_
  refine Pw.thenN (Cw.out ?_)
  refine Cw.seq ?_
  refine Cw.seq ?_
  refine Cw.region ?_
  refine Lw.val (Ex.move rfl) rfl ?_
  refine Lw.val (Ex.lss rfl rfl) rfl ?_
  refine Lw.nil ?_
  refine Pw.thenN (Cw.out ?_)
  refine Cw.condB rfl false (by simp) ?_
  refine Cw.skip ?_
  refine Pw.thenN (Cw.out ?_)
  refine Cw.seq ?_
  refine Cw.seq ?_
  refine Cw.region ?_
  refine Lw.val (Ex.move rfl) rfl ?_
  refine Lw.val (Ex.move rfl) rfl ?_
  refine Lw.val (Ex.capNil st_53 rfl) rfl ?_
  refine Lw.val (Ex.move rfl) rfl ?_
  refine Lw.val (Ex.lenS st_53 rfl (by assumption)) rfl ?_
  refine Lw.val (Ex.subI rfl rfl (by omega)) rfl ?_
  refine Lw.val (Ex.subI rfl rfl (by omega)) rfl ?_
  refine Lw.val (Ex.assign rfl) rfl ?_
  refine Lw.nil ?_
  refine Pw.thenN (Cw.out ?_)
  refine Cw.seq ?_
  refine Cw.region ?_
  refine Lw.val (Ex.move rfl) rfl ?_
  refine Lw.val (Ex.gtr rfl rfl) rfl ?_
  refine Lw.nil ?_
  refine Pw.thenN (Cw.out ?_)
  refine Cw.cond rfl ?_ ?_
  · intro g
    have g' : 0 < k := by have := of_decide_eq_true g; omega
    refine Cw.region ?_
    refine Lw.val (Ex.move rfl) rfl ?_
    refine Lw.val (Ex.move rfl) rfl ?_
    refine Lw.val (Ex.capNil st_53 rfl) rfl ?_
    refine Lw.val (Ex.as (u := .slice none 0 0) (Ex.cutH (j := 0) st_53 rfl rfl hnil (Nat.le_refl 0)) rfl) rfl ?_
    refine Lw.val (Ex.as (u := .int .i64 (k : Int)) (Ex.move rfl) (congrArg (Value.int .i64) (by omega))) rfl ?_
    refine Lw.valW (Xw.grow0 (tn := 3) (kn := .i64) st_53 it_5 rfl (by decide) un_3 rfl rfl g' (by omega) (by omega)) rfl ?_
    rintro v w1 ⟨cap, xs, rfl, ho, hn⟩
    have hnil := Sl.nil w1 1
    refine Lw.val (Ex.move rfl) rfl ?_
    refine Lw.val (Ex.lenS st_53 rfl (by assumption)) rfl ?_
    refine Lw.val (Ex.extH (j := 0) st_53 rfl rfl (Nat.zero_le cap)) rfl ?_
    refine Lw.val (Ex.assign rfl) rfl ?_
    refine Lw.nil ?_
    refine Pw.thenN (Cw.out ?_)
    refine Cw.seq ?_
    refine Cw.region ?_
    refine Lw.val (Ex.move rfl) rfl ?_
    refine Lw.val (Ex.assign rfl) rfl ?_
    refine Lw.nil ?_
    refine Pw.thenN (Cw.out ?_)
    refine Cw.ret ?_
    refine Pw.ret1 rfl rfl ?_
    exact ⟨own_short (k := 0) (m := k) (xs := []) (by simpa using ho) rfl, hn⟩
  · intro g
    refine Cw.skip ?_
    refine Pw.thenN (Cw.out ?_)
    refine Cw.seq ?_
    refine Cw.region ?_
    refine Lw.val (Ex.move rfl) rfl ?_
    refine Lw.val (Ex.assign rfl) rfl ?_
    refine Lw.nil ?_
    refine Pw.thenN (Cw.out ?_)
    refine Cw.ret ?_
    refine Pw.ret1 rfl rfl ?_
    exact ⟨⟨rfl, .inl ⟨rfl, rfl⟩⟩, Below.refl _ _⟩
theorem concatU8_c (v : Value) (ps : List (Value × List (BitVec 8))) (w : World) (hv : SlT (fun p : Value × List (BitVec 8) => p.1) w v ps) (hp : ∀ p ∈ ps, SlT (b8) w p.1 p.2) (hb : (ps.map (·.2)).flatten.length ≤ 16777216) :
    Fnc Try.prog 51 [v] w (fun r w' => w'.ownsRow w.heap.size 5 1 r (ps.map (·.2)).flatten.length ((ps.map (·.2)).flatten.map (b8)) ∧ Below w.heap.size w w') := by
  have hle := hv.le
  have hmem : ∀ i, i < ps.length → SlT (b8) w (ps.getD i default).1 (ps.getD i default).2 := fun i hi => hp _ (getD_mem hi)
  refine Fnc.enter (n := 36) Try.func51 (by kernel_rfl) rfl rfl rfl ?_
  refine Cw.seq ?_
  refine Cw.region ?_
  refine Lw.val (Ex.assign rfl) rfl ?_
  refine Lw.nil ?_
  refine Pw.thenN (Cw.out ?_)
  refine Cw.seq ?_
  refine Cw.region ?_
  refine Lw.val (Ex.assign rfl) rfl ?_
  refine Lw.nil ?_
  refine Pw.thenN (Cw.out ?_)
  refine Cw.seq ?_
  refine Cw.seq ?_
  refine Cw.region ?_
  refine Lw.val (Ex.move rfl) rfl ?_
  refine Lw.val (Ex.lenS st_131 rfl (by assumption)) rfl ?_
  refine Lw.val (Ex.move rfl) rfl ?_
  refine Lw.nil ?_
  refine Pw.thenN (Cw.out ?_)
  refine Cw.block ?_
  refine Cw.loop (S := Nat) (fun i => [(0, v), (3, .int .i64 ((((ps.take i).map (·.2)).flatten.length : Nat) : Int)), (9, v), (10, .int .i64 (ps.length : Int)), (11, .int .i64 (i : Int))]) (fun i w' => i ≤ ps.length ∧ w' = w) (fun i => ps.length - i) (0) ⟨rfl, rfl, rfl, rfl, rfl, trivial⟩ ?_ ?_
  · exact ⟨by omega, rfl⟩
  rintro i w1 ⟨hi, rfl⟩
  refine Cw.seq ?_
  refine Cw.region ?_
  refine Lw.val (Ex.lss rfl rfl) rfl ?_
  refine Lw.nil ?_
  refine Pw.thenN (Cw.out ?_)
  refine Cw.seq ?_
  refine Cw.cond rfl ?_ ?_
  · intro h
    have hi' : i < ps.length := by simp at h; omega
    have hs := hmem i hi'
    have h1 := cat_le (ps := ps) (i + 1)
    have h2 := cat_step hi'
    have h3 := congrArg List.length h2
    rw [List.length_append] at h3
    refine Cw.skip ?_
    refine Pw.thenN (Cw.out ?_)
    refine Cw.seq ?_
    refine Cw.block ?_
    refine Cw.seq ?_
    refine Cw.region ?_
    refine Lw.val (Ex.idxT st_131 rfl rfl (by assumption) _ rfl (by omega)) rfl ?_
    refine Lw.val (Ex.ldT (ag_53 _) rfl (by assumption) (by omega)) rfl ?_
    refine Lw.val (Ex.assign rfl) rfl ?_
    refine Lw.nil ?_
    refine Pw.thenN (Cw.out ?_)
    refine Cw.seq ?_
    refine Cw.region ?_
    refine Lw.val (Ex.move rfl) rfl ?_
    refine Lw.val (Ex.move rfl) rfl ?_
    refine Lw.val (Ex.lenS st_53 rfl (by assumption)) rfl ?_
    refine Lw.val (Ex.addI rfl rfl (by omega)) rfl ?_
    refine Lw.val (Ex.assign rfl) rfl ?_
    refine Lw.nil ?_
    refine Pw.thenN (Cw.out ?_)
    refine Cw.seq ?_
    refine Cw.region ?_
    refine Lw.val (Ex.move rfl) rfl ?_
    refine Lw.val (Ex.lss rfl rfl) rfl ?_
    refine Lw.nil ?_
    refine Pw.thenN (Cw.out ?_)
    refine Cw.condB rfl false (by simp; omega) ?_
    refine Cw.skip ?_
    refine Pw.blkN ?_
    refine Pw.thenN (Cw.out ?_)
    refine Cw.region ?_
    refine Lw.val (Ex.addI rfl rfl (by omega)) rfl ?_
    refine Lw.val (Ex.move rfl) rfl ?_
    refine Lw.nil ?_
    exact Pw.thenN (Pw.next (i + 1) ⟨rfl, (congrArg (fun x => some (Value.int .i64 x)) (by omega)), rfl, rfl, rfl, trivial⟩ (⟨hi', rfl⟩) (by omega))
  intro h
  have hi' : i = ps.length := by simp at h; omega
  subst hi'
  rw [List.take_length]
  refine Cw.exit ?_
  refine Pw.thenE ?_
  refine Pw.thenE ?_
  refine Pw.blkHit ?_
  refine Pw.thenN (Cw.out ?_)
  refine Cw.seq ?_
  refine Cw.region ?_
  refine Lw.val (Ex.move rfl) rfl ?_
  refine Lw.callF rfl rfl (growU8S_c _ w1 hb) ?_
  rintro x w2 ⟨ho, hn⟩
  have hv2 := hv.bs hn
  refine Lw.val (Ex.assign rfl) rfl ?_
  refine Lw.nil ?_
  refine Pw.thenN (Cw.out ?_)
  refine Cw.seq ?_
  refine Cw.seq ?_
  refine Cw.region ?_
  refine Lw.val (Ex.move rfl) rfl ?_
  refine Lw.val (Ex.lenS st_131 rfl (by assumption)) rfl ?_
  refine Lw.val (Ex.move rfl) rfl ?_
  refine Lw.nil ?_
  refine Pw.thenN (Cw.out ?_)
  refine Cw.block ?_
  refine Cw.loop (S := (Nat × Value)) (fun z => [(0, v), (6, z.2), (25, v), (26, .int .i64 (ps.length : Int)), (27, .int .i64 (z.1 : Int))]) (fun z w' => z.1 ≤ ps.length ∧ w'.ownsRow w1.heap.size 5 1 z.2 ((ps.take z.1).map (·.2)).flatten.length (((ps.take z.1).map (·.2)).flatten.map (b8)) ∧ Below w1.heap.size w1 w') (fun z => ps.length - z.1) ((0, x)) ⟨rfl, rfl, rfl, rfl, rfl, trivial⟩ ?_ ?_
  · exact ⟨Nat.zero_le _, by simpa using ho, hn⟩
  clear ho hn hv2
  rintro ⟨i, x⟩ w2 ⟨hi, ho, hn⟩
  dsimp only at hi ho ⊢
  have hv2 := hv.bs hn
  refine Cw.seq ?_
  refine Cw.region ?_
  refine Lw.val (Ex.lss rfl rfl) rfl ?_
  refine Lw.nil ?_
  refine Pw.thenN (Cw.out ?_)
  refine Cw.seq ?_
  refine Cw.cond rfl ?_ ?_
  · intro h
    have hi' : i < ps.length := by simp at h; omega
    have hs := (hmem i hi').bs hn
    have h1 := cat_le (ps := ps) (i + 1)
    have h2 := cat_step hi'
    have h3 := congrArg List.length h2
    rw [List.length_append] at h3
    refine Cw.skip ?_
    refine Pw.thenN (Cw.out ?_)
    refine Cw.seq ?_
    refine Cw.block ?_
    refine Cw.seq ?_
    refine Cw.region ?_
    refine Lw.val (Ex.idxT st_131 rfl rfl (by assumption) _ rfl (by omega)) rfl ?_
    refine Lw.val (Ex.ldT (ag_53 _) rfl (by assumption) (by omega)) rfl ?_
    refine Lw.val (Ex.assign rfl) rfl ?_
    refine Lw.nil ?_
    refine Pw.thenN (Cw.out ?_)
    refine Cw.region ?_
    refine Lw.val (Ex.move rfl) rfl ?_
    refine Lw.val (Ex.move rfl) rfl ?_
    refine Lw.valW (Xw.append (base := w1.heap.size) st_53 it_5 rfl (by decide) rfl rfl ho hs (one_map (fun _ => rfl) _) (by omega) (by omega) hn.size) rfl ?_
    rintro x' w3 ⟨ho3, hb3, -⟩
    rw [← List.map_append, ← h2, ← h3] at ho3
    refine Lw.val (Ex.assign rfl) rfl ?_
    refine Lw.nil ?_
    refine Pw.blkN ?_
    refine Pw.thenN (Cw.out ?_)
    refine Cw.region ?_
    refine Lw.val (Ex.addI rfl rfl (by omega)) rfl ?_
    refine Lw.val (Ex.move rfl) rfl ?_
    refine Lw.nil ?_
    exact Pw.thenN (Pw.next ((i + 1, x')) ⟨rfl, rfl, rfl, rfl, rfl, trivial⟩ (⟨hi', ho3, hn.trans hb3⟩) (by simp only; omega))
  intro h
  have hi' : i = ps.length := by simp at h; omega
  subst hi'
  rw [List.take_length] at ho
  refine Cw.exit ?_
  refine Pw.thenE ?_
  refine Pw.thenE ?_
  refine Pw.blkHit ?_
  refine Pw.thenN (Cw.out ?_)
  refine Cw.seq ?_
  refine Cw.region ?_
  refine Lw.val (Ex.move rfl) rfl ?_
  refine Lw.val (Ex.assign rfl) rfl ?_
  refine Lw.nil ?_
  refine Pw.thenN (Cw.out ?_)
  refine Cw.ret ?_
  refine Pw.ret1 rfl rfl ?_
  exact ⟨ho, hn⟩
theorem turnPut_c (x : BitVec 32) (w : World) : Fnc Try.prog 68 [i32 x] w (fun r w' => r = u32 x ∧ Below w.heap.size w w') := by
  refine Fnc.enter (n := 5) Try.func68 (by kernel_rfl) rfl rfl rfl ?_
  refine Cw.seq ?_
  refine Cw.region ?_
  refine Lw.val (Ex.assign (show _ = some (u32 (0#32)) from rfl)) rfl ?_
  refine Lw.nil ?_
  refine Pw.thenN (Cw.out ?_)
  refine Cw.seq ?_
  refine Cw.region ?_
  refine Lw.val (Ex.move rfl) rfl ?_
  refine Lw.val (Ex.convi32_32 us_21 un_32 rfl) rfl ?_
  refine Lw.val (Ex.assign rfl) rfl ?_
  refine Lw.nil ?_
  refine Pw.thenN (Cw.out ?_)
  refine Cw.ret ?_
  refine Pw.ret1 rfl rfl ?_
  exact ⟨rfl, Below.refl _ _⟩
theorem asU32_c (v : Value) (l : List (BitVec 32)) (w : World) (hv : SlT i32 w v l) (hb : l.length ≤ 4194304) :
    Fnc Try.prog 67 [v, .func (.func 68) #[] #[]] w (fun r w' => w'.ownsRow w.heap.size 32 1 r l.length (l.map u32) ∧ Below w.heap.size w w') := by
  have hle := hv.le
  refine Fnc.enter (n := 26) Try.func67 (by kernel_rfl) rfl rfl rfl ?_
  refine Cw.seq ?_
  refine Cw.region ?_
  refine Lw.val (Ex.assign rfl) rfl ?_
  refine Lw.nil ?_
  refine Pw.thenN (Cw.out ?_)
  refine Cw.seq ?_
  refine Cw.region ?_
  refine Lw.val (Ex.move rfl) rfl ?_
  refine Lw.val (Ex.lenS st_34 rfl (by assumption)) rfl ?_
  refine Lw.valW (Xw.make st_133 it_32 rfl rfl rfl (Nat.le_refl _) (by omega) (by omega)) rfl ?_
  rintro x w1 ⟨ho, -, hn, -⟩
  have hv1 := hv.bs hn
  obtain ⟨z, hz⟩ : ∃ z, z = List.replicate l.length 0#32 := ⟨_, rfl⟩
  have lz : l.length = z.length := by rw [hz, List.length_replicate]
  have e0 : (List.replicate l.length [Value.int .u32 0]).flatten = z.map u32 := by rw [hz]; exact rep_flat (enc := u32) (z := 0#32) l.length
  rw [e0] at ho
  refine Lw.val (Ex.assign rfl) rfl ?_
  refine Lw.nil ?_
  refine Pw.thenN (Cw.out ?_)
  refine Cw.seq ?_
  refine Cw.seq ?_
  refine Cw.region ?_
  refine Lw.val (Ex.move rfl) rfl ?_
  refine Lw.val (Ex.lenS st_34 rfl (by assumption)) rfl ?_
  refine Lw.val (Ex.move rfl) rfl ?_
  refine Lw.nil ?_
  refine Pw.thenN (Cw.out ?_)
  refine Cw.block ?_
  refine Cw.loop (S := Nat) (fun i => [(1, .func (.func 68) #[] #[]), (5, x), (11, v), (12, .int .i64 (l.length : Int)), (13, .int .i64 (i : Int))]) (fun i w' => i ≤ l.length ∧ w'.ownsRow w.heap.size 32 1 x l.length ((l.take i ++ z.drop i).map u32) ∧ Below w.heap.size w w') (fun i => l.length - i) (0) ⟨rfl, rfl, rfl, rfl, rfl, trivial⟩ ?_ ?_
  · exact ⟨by omega, by rw [td_zero]; exact ho, hn⟩
  clear ho hn hv1
  rintro i w1 ⟨hi, ho, hn⟩
  have hv1 := hv.bs hn
  refine Cw.seq ?_
  refine Cw.region ?_
  refine Lw.val (Ex.lss rfl rfl) rfl ?_
  refine Lw.nil ?_
  refine Pw.thenN (Cw.out ?_)
  refine Cw.seq ?_
  refine Cw.cond rfl ?_ ?_
  · intro h
    have hi' : i < l.length := by simp at h; omega
    refine Cw.skip ?_
    refine Pw.thenN (Cw.out ?_)
    refine Cw.seq ?_
    refine Cw.block ?_
    refine Cw.seq ?_
    refine Cw.region ?_
    refine Lw.val (Ex.move rfl) rfl ?_
    refine Lw.val (Ex.idxT st_34 rfl rfl (by assumption) _ rfl (by omega)) rfl ?_
    refine Lw.val (Ex.ldT (ag_21 _) rfl (by assumption) (by omega)) rfl ?_
    refine Lw.val (Ex.assign rfl) rfl ?_
    refine Lw.val (Ex.assign rfl) rfl ?_
    refine Lw.nil ?_
    refine Pw.thenN (Cw.out ?_)
    refine Cw.region ?_
    refine Lw.val (Ex.move rfl) rfl ?_
    refine Lw.val (Ex.move rfl) rfl ?_
    refine Lw.val (Ex.move rfl) rfl ?_
    refine Lw.val (Ex.move rfl) rfl ?_
    refine Lw.callV (p := []) rfl rfl rfl (turnPut_c (l.getD i default) w1) ?_
    rintro _ w2 ⟨rfl, hn2⟩
    have ho := own_bs ho hn2
    have hsh := (own_sl ho).shp
    refine Lw.val (Ex.idxS st_133 rfl rfl hsh i rfl hi') rfl ?_
    refine Lw.unit (Xu.stO (sz_32 _) rfl rfl rfl ho (by simp; omega)) ?_
    rintro w3 ⟨ho3, hg, -⟩
    rw [← List.map_set, td_set lz (by omega)] at ho3
    refine Lw.nil ?_
    refine Pw.blkN ?_
    refine Pw.thenN (Cw.out ?_)
    refine Cw.region ?_
    refine Lw.val (Ex.addI rfl rfl (by omega)) rfl ?_
    refine Lw.val (Ex.move rfl) rfl ?_
    refine Lw.nil ?_
    exact Pw.thenN (Pw.next (i + 1) ⟨rfl, rfl, rfl, rfl, rfl, trivial⟩ (⟨hi', ho3, (bt hn hn2).grown hg (below_size (bt hn hn2)) fun b e => (own_block ho b e).1⟩) (by omega))
  intro h
  have hi' : i = l.length := by simp at h; omega
  subst hi'
  rw [lz, td_all lz, ← lz] at ho
  refine Cw.exit ?_
  refine Pw.thenE ?_
  refine Pw.thenE ?_
  refine Pw.blkHit ?_
  refine Pw.thenN (Cw.out ?_)
  refine Cw.seq ?_
  refine Cw.region ?_
  refine Lw.val (Ex.move rfl) rfl ?_
  refine Lw.val (Ex.assign rfl) rfl ?_
  refine Lw.nil ?_
  refine Pw.thenN (Cw.out ?_)
  refine Cw.ret ?_
  refine Pw.ret1 rfl rfl ?_
  exact ⟨ho, hn⟩
theorem put_c (v u : Value) (lb : List (BitVec 8)) (l : List (BitVec 32)) (w : World) (hv : SlT b8 w v lb) (hu : SlT u32 w u l) (hb : lb.length + 4 * l.length ≤ 16777216) :
    Fnc Try.prog 53 [v, u] w (fun r w' => w'.ownsRow w.heap.size 5 1 r (lb ++ fours l).length ((lb ++ fours l).map b8) ∧ Below w.heap.size w w') := by
  refine Fnc.enter (n := 42) Try.func53 (by kernel_rfl) rfl rfl rfl ?_
  refine Cw.seq ?_
  refine Cw.region ?_
  refine Lw.val (Ex.assign rfl) rfl ?_
  refine Lw.nil ?_
  refine Pw.thenN (Cw.out ?_)
  refine Cw.seq ?_
  refine Cw.region ?_
  refine Lw.val (Ex.move rfl) rfl ?_
  refine Lw.val (Ex.lenS st_53 rfl (by assumption)) rfl ?_
  refine Lw.val (Ex.move rfl) rfl ?_
  refine Lw.val (Ex.lenS st_53 rfl (by assumption)) rfl ?_
  refine Lw.val (Ex.move rfl) rfl ?_
  refine Lw.val (Ex.lenS st_133 rfl (by assumption)) rfl ?_
  refine Lw.val (Ex.mulI rfl rfl (by omega)) rfl ?_
  refine Lw.val (Ex.as (u := .int .i64 ((lb.length + 4 * l.length : Nat) : Int)) (Ex.addI rfl rfl (by omega)) (congrArg (Value.int .i64) (by omega))) rfl ?_
  refine Lw.valW (Xw.make st_53 it_5 rfl rfl rfl (by omega) (by omega) (by omega)) rfl ?_
  rintro x w1 ⟨ho, -, hn, -⟩
  have hv1 := hv.bs hn
  refine Lw.val (Ex.assign rfl) rfl ?_
  refine Lw.nil ?_
  refine Pw.thenN (Cw.out ?_)
  refine Cw.seq ?_
  refine Cw.region ?_
  refine Lw.val (Ex.move rfl) rfl ?_
  refine Lw.val (Ex.move rfl) rfl ?_
  refine Lw.valW (Xw.copy st_53 rfl rfl rfl ho hv1 (Nat.le_refl _) (one_map (fun _ => rfl) _)) rfl ?_
  rintro _ w2 ⟨rfl, ho2, hg, -⟩
  have e0 : (List.replicate lb.length [Value.int .u8 0]).flatten.drop lb.length = [] := by
    rw [rep_flat (enc := Value.int .u8) (z := 0)]; simp
  rw [e0, List.append_nil] at ho2
  have hn2 : Below w.heap.size w w2 := hn.grown hg (below_size hn) fun b e => (own_block ho b e).1
  clear ho hn hv1 hg
  have hu2 := hu.bs hn2
  refine Lw.nil ?_
  refine Pw.thenN (Cw.out ?_)
  refine Cw.seq ?_
  refine Cw.seq ?_
  refine Cw.region ?_
  refine Lw.val (Ex.move rfl) rfl ?_
  refine Lw.val (Ex.lenS st_133 rfl (by assumption)) rfl ?_
  refine Lw.val (Ex.move rfl) rfl ?_
  refine Lw.nil ?_
  refine Pw.thenN (Cw.out ?_)
  refine Cw.block ?_
  refine Cw.loop (S := (Nat × Value)) (fun z => [(1, u), (5, z.2), (20, u), (21, .int .i64 (l.length : Int)), (22, .int .i64 (z.1 : Int))]) (fun z w' => z.1 ≤ l.length ∧ w'.ownsRow w.heap.size 5 1 z.2 (lb ++ fours (l.take z.1)).length ((lb ++ fours (l.take z.1)).map b8) ∧ Below w.heap.size w w') (fun z => l.length - z.1) ((0, x)) ⟨rfl, rfl, rfl, rfl, rfl, trivial⟩ ?_ ?_
  · exact ⟨Nat.zero_le _, by simpa [fours] using ho2, hn2⟩
  clear ho2 hn2 hu2
  rintro ⟨i, x⟩ w1 ⟨hi, ho, hn⟩
  dsimp only at hi ho ⊢
  have hu1 := hu.bs hn
  have hle := hu.le
  refine Cw.seq ?_
  refine Cw.region ?_
  refine Lw.val (Ex.lss rfl rfl) rfl ?_
  refine Lw.nil ?_
  refine Pw.thenN (Cw.out ?_)
  refine Cw.seq ?_
  refine Cw.cond rfl ?_ ?_
  · intro h
    have hi' : i < l.length := by simp at h; omega
    have e1 : (lb ++ fours (l.take i)) ++ Crc.four (l.getD i default) = lb ++ fours (l.take (i + 1)) := by
      rw [List.take_succ_eq_append_getElem hi', fours_append, List.append_assoc]
      simp [fours, hi']
    have e2 : (lb ++ fours (l.take i)).length + 4 = (lb ++ fours (l.take (i + 1))).length := by
      have := congrArg List.length e1
      simp [Crc.four] at this ⊢
      omega
    have e3 : (lb ++ fours (l.take (i + 1))).length ≤ 16777216 := by rw [List.length_append, fours_len, List.length_take]; omega
    refine Cw.skip ?_
    refine Pw.thenN (Cw.out ?_)
    refine Cw.seq ?_
    refine Cw.block ?_
    refine Cw.seq ?_
    refine Cw.region ?_
    refine Lw.val (Ex.idxT st_133 rfl rfl (by assumption) _ rfl (by omega)) rfl ?_
    refine Lw.val (Ex.ldT (ag_32 _) rfl (by assumption) (by omega)) rfl ?_
    refine Lw.val (Ex.assign rfl) rfl ?_
    refine Lw.nil ?_
    refine Pw.thenN (Cw.out ?_)
    refine Cw.region ?_
    refine Lw.val (Ex.move rfl) rfl ?_
    refine Lw.val (Ex.move rfl) rfl ?_
    refine Lw.val (Ex.conv32_8 us_32 un_5 rfl) rfl ?_
    refine Lw.val (Ex.move rfl) rfl ?_
    refine Lw.val (Ex.shr32 (j := 8) rfl rfl (by decide)) rfl ?_
    refine Lw.val (Ex.conv32_8 us_32 un_5 rfl) rfl ?_
    refine Lw.val (Ex.move rfl) rfl ?_
    refine Lw.val (Ex.shr32 (j := 16) rfl rfl (by decide)) rfl ?_
    refine Lw.val (Ex.conv32_8 us_32 un_5 rfl) rfl ?_
    refine Lw.val (Ex.move rfl) rfl ?_
    refine Lw.val (Ex.shr32 (j := 24) rfl rfl (by decide)) rfl ?_
    refine Lw.val (Ex.conv32_8 us_32 un_5 rfl) rfl ?_
    refine Lw.valW (Xw.lit (vs := (Crc.four (l.getD i default)).map b8) st_53 it_5 rfl rfl rfl rfl rfl) rfl ?_
    rintro y w2 ⟨hy, -, hn2, -⟩
    have ho := own_bs ho hn2
    refine Lw.valW (Xw.append (base := w.heap.size) st_53 it_5 rfl (by decide) rfl rfl ho (own_sl hy) (one_map (fun _ => rfl) _) (by omega) (by omega) (bt hn hn2).size) rfl ?_
    rintro x' w3 ⟨ho3, hb3, -⟩
    rw [← List.map_append, e1, e2] at ho3
    refine Lw.val (Ex.assign rfl) rfl ?_
    refine Lw.nil ?_
    refine Pw.blkN ?_
    refine Pw.thenN (Cw.out ?_)
    refine Cw.region ?_
    refine Lw.val (Ex.addI rfl rfl (by omega)) rfl ?_
    refine Lw.val (Ex.move rfl) rfl ?_
    refine Lw.nil ?_
    exact Pw.thenN (Pw.next ((i + 1, x')) ⟨rfl, rfl, rfl, rfl, rfl, trivial⟩ (⟨hi', ho3, (bt hn hn2).trans hb3⟩) (by simp only; omega))
  intro h
  have hi' : i = l.length := by simp at h; omega
  subst hi'
  rw [List.take_length] at ho
  refine Cw.exit ?_
  refine Pw.thenE ?_
  refine Pw.thenE ?_
  refine Pw.blkHit ?_
  refine Pw.thenN (Cw.out ?_)
  refine Cw.seq ?_
  refine Cw.region ?_
  refine Lw.val (Ex.move rfl) rfl ?_
  refine Lw.val (Ex.assign rfl) rfl ?_
  refine Lw.nil ?_
  refine Pw.thenN (Cw.out ?_)
  refine Cw.ret ?_
  refine Pw.ret1 rfl rfl ?_
  exact ⟨ho, hn⟩
theorem putList_c (v u : Value) (lb : List (BitVec 8)) (l : List (BitVec 32)) (w : World) (hv : SlT b8 w v lb) (hu : SlT i32 w u l) (hb : lb.length + 4 * (l.length + 1) ≤ 4194304) :
    Fnc Try.prog 52 [v, u] w (fun r w' => w'.ownsRow w.heap.size 5 1 r (lb ++ fours (BitVec.ofInt 32 (l.length : Int) :: l)).length ((lb ++ fours (BitVec.ofInt 32 (l.length : Int) :: l)).map b8) ∧ Below w.heap.size w w') := by
  have hB := Below.refl w.heap.size w
  have hlen : (w : World) → w.heap.size ≤ w.heap.size := fun _ => Nat.le_refl _
  refine Fnc.enter (n := 15) Try.func52 (by kernel_rfl) rfl rfl rfl ?_
  refine Cw.seq ?_
  refine Cw.region ?_
  refine Lw.val (Ex.assign rfl) rfl ?_
  refine Lw.nil ?_
  refine Pw.thenN (Cw.out ?_)
  refine Cw.seq ?_
  refine Cw.region ?_
  refine Lw.val (Ex.move rfl) rfl ?_
  refine Lw.val (Ex.move rfl) rfl ?_
  refine Lw.val (Ex.lenS st_34 rfl (by assumption)) rfl ?_
  refine Lw.val (Ex.conv32 us_3 un_32 rfl) rfl ?_
  refine Lw.valW (Xw.lit (vs := [BitVec.ofInt 32 (l.length : Int)].map u32) st_133 it_32 rfl rfl rfl rfl rfl) rfl ?_
  rintro y w ⟨hy, -, hn, -⟩
  have s_y := own_slT hy
  replace hB := hB.bs hn
  replace hv := hv.bs hn
  replace hu := hu.bs hn
  clear hn hy
  refine Lw.val (Ex.move rfl) rfl ?_
  refine Lw.callF rfl rfl (asU32_c u l w hu (by omega)) ?_
  rintro z w ⟨hz, hn⟩
  have s_z := own_slT hz
  replace hB := hB.bs hn
  replace hv := hv.bs hn
  replace hu := hu.bs hn
  replace s_y := s_y.bs hn
  clear hn hz
  refine Lw.valW (Xw.lit (vs := [y, z]) st_139 it_133 rfl rfl rfl (by simp [s_y.one', s_z.one']) rfl) rfl ?_
  rintro a w ⟨ha, -, hn, -⟩
  replace hB := hB.bs hn
  replace hv := hv.bs hn
  replace hu := hu.bs hn
  replace s_y := s_y.bs hn
  replace s_z := s_z.bs hn
  clear hn
  refine Lw.callF rfl rfl (concatU32_c a [(y, [BitVec.ofInt 32 (l.length : Int)]), (z, l)] w (own_sl ha) (by intro p hp; simp at hp; rcases hp with rfl | rfl; exact s_y; exact s_z) (by simp; omega)) ?_
  rintro c w ⟨hc, hn⟩
  have s_c := own_slT hc
  have e1 : (([(y, [BitVec.ofInt 32 (l.length : Int)]), (z, l)] : List (Value × List (BitVec 32))).map (·.2)).flatten = BitVec.ofInt 32 (l.length : Int) :: l := by simp
  rw [e1] at s_c
  replace hB := hB.bs hn
  replace hv := hv.bs hn
  replace hu := hu.bs hn
  replace s_y := s_y.bs hn
  replace s_z := s_z.bs hn
  clear hn hc ha
  have zB := below_size hB
  refine Lw.callF rfl rfl (put_c v c lb _ w hv s_c (by simp; omega)) ?_
  rintro r w ⟨hr, hn⟩
  replace hB := hB.bs hn
  replace hv := hv.bs hn
  replace hu := hu.bs hn
  replace s_y := s_y.bs hn
  replace s_z := s_z.bs hn
  refine Lw.val (Ex.assign rfl) rfl ?_
  refine Lw.nil ?_
  refine Pw.thenN (Cw.out ?_)
  refine Cw.ret ?_
  refine Pw.ret1 rfl rfl ?_
  exact ⟨own_mono hr zB, hB⟩
end Go.Proofs.Ytiaojbbgjlpikaa
