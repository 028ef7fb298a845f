/- A log that is opened again tells the same, and goes on where it was; copies do not know of one another: for any lists; no condition. -/
import Derived.Test.YtiaojbbgjlpikaaOutArg
namespace Go.Proofs.Ytiaojbbgjlpikaa
open Go Go.Dd Go.RowKit Go.ChangeShapes Go.WideShapes
set_option maxRecDepth 100000

theorem LL.ones {w : World} {v : Value} {ps : List (Value × Nums)} (h : LL w v ps) : (ps.map (·.1)).all (·.oneCell') = true := by
  rw [List.all_eq_true]
  intro x hx
  obtain ⟨p, hp, rfl⟩ := List.mem_map.1 hx
  exact (h.each p hp).one'
theorem LL.app {w w' : World} {v u r : Value} {ps qs : List (Value × Nums)} {B e k : Nat} (h : LL w v ps) (hq : LL w u qs) (g : Below w.heap.size w w') (ho : w'.ownsRow B e 1 r k ((ps ++ qs).map (·.1))) : LL w' r (ps ++ qs) :=
  ⟨own_slT ho, fun p hp => (List.mem_append.1 hp).elim (fun hp => (h.each p hp).bs g) (fun hp => (hq.each p hp).bs g)⟩
theorem LL.own {w : World} {r : Value} {ps : List (Value × Nums)} {B e k : Nat} {w0 : World} (ho : w.ownsRow B e 1 r k (ps.map (·.1))) (hp : ∀ p ∈ ps, SlT i32 w0 p.1 p.2) (g : Below w0.heap.size w0 w) : LL w r ps := ⟨own_slT ho, fun p h => (hp p h).bs g⟩
theorem nums2_app (ps qs : List (Value × Nums)) : nums2 (ps ++ qs) = nums2 ps ++ nums2 qs := by simp [nums2]
theorem okn_all {ps : List (Value × Nums)} (h : ∀ p ∈ ps, okN p.2) : ∀ x ∈ nums2 ps, okN x := fun x hx => by
  obtain ⟨p, hp, rfl⟩ := List.mem_map.1 hx
  exact h p hp
theorem nums2_len (ps : List (Value × Nums)) : (nums2 ps).length = ps.length := by simp [nums2]
/-- The sectors of two lists that are fit. -/
theorem stN_two {ps qs : List (Value × Nums)} (h : fitB ps = true) (hq : fitB qs = true) : stN (nums2 ps) ≤ 251 ∧ stN (nums2 ps ++ nums2 qs) ≤ 501 := by
  obtain ⟨h1, h2⟩ := fitB_ok h
  obtain ⟨k1, k2⟩ := fitB_ok hq
  have a := stN_bd (okn_all h1)
  have b := stN_bd (okn_all k1)
  have c := stN_app (nums2 ps) (nums2 qs)
  rw [nums2_len] at a b
  constructor <;> omega

theorem outlogsAgain_w (v u t : Value) (ps qs ks : List (Value × Nums)) (W : World) (h : LL W v ps) (hq : LL W u qs) (hk : LL W t ks) (hm : ps.length ≤ 1125899906842624) (hm2 : qs.length ≤ 1125899906842624) (hm3 : ks.length ≤ 1125899906842624) :
    Fnc Try.prog 6 [v, u, t] W (fun r w' => r = .bool true ∧ Below W.heap.size W w') := by
  have hB := Below.refl W.heap.size W
  refine Fnc.enter (n := 144) Try.func6 (by kernel_rfl) rfl rfl rfl ?_
  refine Cw.seq ?_
  refine Cw.region ?_
  refine Lw.val (Ex.assign rfl) rfl ?_
  refine Lw.nil ?_
  refine Pw.thenN (Cw.out ?_)
  refine Cw.seq ?_
  refine Cw.seq ?_
  refine Cw.region ?_
  refine Lw.val (Ex.move rfl) rfl ?_
  refine Lw.callF rfl rfl (fit_c v ps W h hm) ?_
  rintro _ w ⟨rfl, hn⟩
  have hB := hB.trans (hn.mono (below_size hB))
  refine Lw.val (Ex.not rfl) rfl ?_
  refine Lw.val (Ex.move rfl) rfl ?_
  refine Lw.part 24 rfl ?_ ?_
  · intro g
    refine Lw.pass (dj := 24) rfl rfl rfl rfl ?_
    refine Lw.pass (dj := 24) rfl rfl rfl rfl ?_
    refine Lw.pass (dj := 24) rfl rfl rfl rfl ?_
    refine Lw.val (Ex.pickT rfl rfl) rfl ?_
    refine Lw.val (Ex.move rfl) rfl ?_
    refine Lw.pass (dj := 29) rfl rfl rfl rfl ?_
    refine Lw.pass (dj := 29) rfl rfl rfl rfl ?_
    refine Lw.pass (dj := 29) rfl rfl rfl rfl ?_
    refine Lw.val (Ex.pickT rfl rfl) rfl ?_
    refine Lw.nil ?_
    refine Pw.thenN (Cw.out ?_)
    refine Cw.condT rfl ?_
    refine Cw.seq ?_
    refine Cw.region ?_
    refine Lw.callF rfl rfl (lives_c w) ?_
    rintro _ w99 ⟨rfl, hn99⟩
    refine Lw.val (Ex.assign rfl) rfl ?_
    refine Lw.nil ?_
    refine Pw.thenN (Cw.out ?_)
    refine Cw.ret ?_
    refine Pw.thenR ?_
    refine Pw.ret1 rfl rfl ?_
    exact ⟨rfl, hB.trans (hn99.mono (below_size hB))⟩
  intro g
  have f1 : fitB ps = true := by simpa using g
  refine Lw.take (dj := 24) rfl rfl ?_
  refine Lw.val (Ex.move rfl) rfl ?_
  refine Lw.take (dj := 24) rfl rfl ?_
  refine Lw.callF rfl rfl (fit_c u qs w (hq.bs hB) hm2) ?_
  rintro _ w ⟨rfl, hn⟩
  have hB := hB.trans (hn.mono (below_size hB))
  refine Lw.take (dj := 24) rfl rfl ?_
  refine Lw.val (Ex.not rfl) rfl ?_
  refine Lw.val (Ex.pickF rfl rfl) rfl ?_
  refine Lw.val (Ex.move rfl) rfl ?_
  refine Lw.part 29 rfl ?_ ?_
  · intro g
    refine Lw.pass (dj := 29) rfl rfl rfl rfl ?_
    refine Lw.pass (dj := 29) rfl rfl rfl rfl ?_
    refine Lw.pass (dj := 29) rfl rfl rfl rfl ?_
    refine Lw.val (Ex.pickT rfl rfl) rfl ?_
    refine Lw.nil ?_
    refine Pw.thenN (Cw.out ?_)
    refine Cw.condT rfl ?_
    refine Cw.seq ?_
    refine Cw.region ?_
    refine Lw.callF rfl rfl (lives_c w) ?_
    rintro _ w99 ⟨rfl, hn99⟩
    refine Lw.val (Ex.assign rfl) rfl ?_
    refine Lw.nil ?_
    refine Pw.thenN (Cw.out ?_)
    refine Cw.ret ?_
    refine Pw.thenR ?_
    refine Pw.ret1 rfl rfl ?_
    exact ⟨rfl, hB.trans (hn99.mono (below_size hB))⟩
  intro g
  have f2 : fitB qs = true := by simpa using g
  refine Lw.take (dj := 29) rfl rfl ?_
  refine Lw.val (Ex.move rfl) rfl ?_
  refine Lw.take (dj := 29) rfl rfl ?_
  refine Lw.callF rfl rfl (fit_c t ks w (hk.bs hB) hm3) ?_
  rintro _ w ⟨rfl, hn⟩
  have hB := hB.trans (hn.mono (below_size hB))
  refine Lw.take (dj := 29) rfl rfl ?_
  refine Lw.val (Ex.not rfl) rfl ?_
  refine Lw.val (Ex.pickF rfl rfl) rfl ?_
  refine Lw.nil ?_
  refine Pw.thenN (Cw.out ?_)
  refine Cw.cond rfl ?_ ?_
  · intro g
    refine Cw.seq ?_
    refine Cw.region ?_
    refine Lw.callF rfl rfl (lives_c w) ?_
    rintro _ w99 ⟨rfl, hn99⟩
    refine Lw.val (Ex.assign rfl) rfl ?_
    refine Lw.nil ?_
    refine Pw.thenN (Cw.out ?_)
    refine Cw.ret ?_
    refine Pw.thenR ?_
    refine Pw.ret1 rfl rfl ?_
    exact ⟨rfl, hB.trans (hn99.mono (below_size hB))⟩
  intro g
  have f3 : fitB ks = true := by simpa using g
  obtain ⟨x1, m1⟩ := fitB_ok f1
  obtain ⟨x2, m2⟩ := fitB_ok f2
  obtain ⟨x3, m3⟩ := fitB_ok f3
  have z0 := below_size hB
  refine Cw.skip ?_
  refine Pw.thenN (Cw.out ?_)
  refine Cw.seq ?_
  refine Cw.region ?_
  refine Lw.callF rfl rfl (dnew_c 700 w (by omega) (by omega)) ?_
  rintro _ w1 ⟨hn1, A, rfl, hD⟩
  have z1 := hn1.size
  have hB1 := hB.trans (hn1.mono z0)
  obtain ⟨l0, hl0⟩ : ∃ l0, l0 = List.replicate 700 zer := ⟨_, rfl⟩
  have ll0 : l0.length = 700 := by rw [hl0, List.length_replicate]
  have on0 : OnDisk l0 [] := by rw [hl0]; exact onDisk_new (by decide)
  rw [← hl0] at hD
  clear hl0
  refine Lw.val (Ex.move rfl) rfl ?_
  refine Lw.val (Ex.extract (i := 0) rfl rfl) rfl ?_
  refine Lw.val (Ex.extract (i := 1) rfl rfl) rfl ?_
  refine Lw.val (Ex.assign rfl) rfl ?_
  refine Lw.val (Ex.assign rfl) rfl ?_
  refine Lw.nil ?_
  refine Pw.thenN (Cw.out ?_)
  refine Cw.seq ?_
  refine Cw.region ?_
  refine Lw.val (Ex.move rfl) rfl ?_
  refine Lw.callF rfl rfl (open1_c A _ l0 [] w1 hD on0 (by omega)) ?_
  rintro _ w2 ⟨hn2, L, rfl, hL⟩
  have z2 := hn2.size
  have hB2 := hB1.trans (hn2.mono (by omega))
  have hL := hL.wide (T := Nw W w2) (fun b e => e.elim (fun e => ⟨by omega, by omega⟩) (fun e => ⟨by omega, e.2⟩)) (fun b e => e.2)
  have st := stN_two f1 f2
  have st3 := (stN_two f1 f3).2
  refine Lw.val (Ex.move rfl) rfl ?_
  refine Lw.val (Ex.extract (i := 0) rfl rfl) rfl ?_
  refine Lw.val (Ex.extract (i := 1) rfl rfl) rfl ?_
  refine Lw.val (Ex.assign rfl) rfl ?_
  refine Lw.val (Ex.assign rfl) rfl ?_
  refine Lw.nil ?_
  refine Pw.thenN (Cw.out ?_)
  refine Cw.seq ?_
  refine Cw.seq ?_
  refine Cw.region ?_
  refine Lw.val (Ex.move rfl) rfl ?_
  refine Lw.val (Ex.neq rfl rfl) rfl ?_
  refine Lw.val (Ex.move rfl) rfl ?_
  refine Lw.know 46 (v' := .bool false) rfl (congrArg Value.bool (rfl)) ?_
  refine Lw.take (dj := 46) rfl rfl ?_
  refine Lw.val (Ex.move rfl) rfl ?_
  refine Lw.take (dj := 46) rfl rfl ?_
  refine Lw.val (Ex.neq rfl rfl) rfl ?_
  refine Lw.val (Ex.pickF rfl rfl) rfl ?_
  refine Lw.val (Ex.move rfl) rfl ?_
  refine Lw.know 50 (v' := .bool false) rfl (congrArg Value.bool (rfl)) ?_
  refine Lw.take (dj := 50) rfl rfl ?_
  refine Lw.val (Ex.move rfl) rfl ?_
  refine Lw.take (dj := 50) rfl rfl ?_
  refine Lw.val (Ex.move rfl) rfl ?_
  refine Lw.take (dj := 50) rfl rfl ?_
  refine Lw.callF rfl rfl (added_c L A (Nw W w2) l0 [] v ps W w2 hL h hB2 (fun b e => e.1) x1 (by simp; omega) (by rw [List.nil_append]; omega)) ?_
  rintro _ w3 ⟨rfl, hC3, l1, hL, ll1, -⟩
  rw [List.nil_append] at hL
  have z3 := hC3.size
  have hB3 := hC3.to_below (fun b e => e.1) (below_size hB2)
  have hB3 := hB2.trans hB3
  have hL := hL.nw (by omega) z3
  have ll1 : l1.length = 700 := by omega
  refine Lw.take (dj := 50) rfl rfl ?_
  refine Lw.val (Ex.not rfl) rfl ?_
  refine Lw.val (Ex.pickF rfl rfl) rfl ?_
  refine Lw.nil ?_
  refine Pw.thenN (Cw.out ?_)
  refine Cw.condB rfl false (rfl) ?_
  refine Cw.skip ?_
  refine Pw.thenN (Cw.out ?_)
  refine Cw.seq ?_
  refine Cw.region ?_
  refine Lw.val (Ex.move rfl) rfl ?_
  refine Lw.callF rfl rfl (fail1_c A (Nw W w3) l1 0#64 (-1) w3 hL.log.disk) ?_
  rintro _ w4 ⟨hn4, A1, rfl, hD1⟩
  have z4 := hn4.size
  have hL := hL.bs hn4
  have hB4 := hB3.trans (hn4.mono (by omega))
  refine Lw.val (Ex.move rfl) rfl ?_
  refine Lw.val (Ex.extract (i := 0) rfl rfl) rfl ?_
  refine Lw.val (Ex.extract (i := 1) rfl rfl) rfl ?_
  refine Lw.val (Ex.assign rfl) rfl ?_
  refine Lw.val (Ex.assign rfl) rfl ?_
  refine Lw.nil ?_
  refine Pw.thenN (Cw.out ?_)
  refine Cw.seq ?_
  refine Cw.region ?_
  refine Lw.val (Ex.move rfl) rfl ?_
  refine Lw.callF rfl rfl (fail1_c A (Nw W w3) l1 0#64 (-1) w4 hL.log.disk) ?_
  rintro _ w5 ⟨hn5, A2, rfl, hD2⟩
  have z5 := hn5.size
  have hL := hL.bs hn5
  have hD1 := hD1.bs hn5
  have hB5 := hB4.trans (hn5.mono (by omega))
  refine Lw.val (Ex.move rfl) rfl ?_
  refine Lw.val (Ex.extract (i := 0) rfl rfl) rfl ?_
  refine Lw.val (Ex.extract (i := 1) rfl rfl) rfl ?_
  refine Lw.val (Ex.assign rfl) rfl ?_
  refine Lw.val (Ex.assign rfl) rfl ?_
  refine Lw.nil ?_
  refine Pw.thenN (Cw.out ?_)
  refine Cw.seq ?_
  refine Cw.seq ?_
  refine Cw.region ?_
  refine Lw.val (Ex.move rfl) rfl ?_
  refine Lw.val (Ex.neq rfl rfl) rfl ?_
  refine Lw.val (Ex.move rfl) rfl ?_
  refine Lw.know 68 (v' := .bool false) rfl (congrArg Value.bool (rfl)) ?_
  refine Lw.take (dj := 68) rfl rfl ?_
  refine Lw.val (Ex.move rfl) rfl ?_
  refine Lw.take (dj := 68) rfl rfl ?_
  refine Lw.val (Ex.neq rfl rfl) rfl ?_
  refine Lw.val (Ex.pickF rfl rfl) rfl ?_
  refine Lw.nil ?_
  refine Pw.thenN (Cw.out ?_)
  refine Cw.condB rfl false (rfl) ?_
  refine Cw.skip ?_
  refine Pw.thenN (Cw.out ?_)
  refine Cw.seq ?_
  refine Cw.region ?_
  refine Lw.val (Ex.move rfl) rfl ?_
  refine Lw.callF rfl rfl (open1_c A1 _ l1 (nums2 ps) w5 hD1 hL.on (by omega)) ?_
  rintro _ w6 ⟨hn6, L1, rfl, hL1⟩
  have z6 := hn6.size
  have hL := hL.bs hn6
  have hD2 := hD2.bs hn6
  have hB6 := hB5.trans (hn6.mono (by omega))
  refine Lw.val (Ex.move rfl) rfl ?_
  refine Lw.val (Ex.extract (i := 0) rfl rfl) rfl ?_
  refine Lw.val (Ex.extract (i := 1) rfl rfl) rfl ?_
  refine Lw.val (Ex.assign rfl) rfl ?_
  refine Lw.val (Ex.assign rfl) rfl ?_
  refine Lw.nil ?_
  refine Pw.thenN (Cw.out ?_)
  refine Cw.seq ?_
  refine Cw.region ?_
  refine Lw.val (Ex.move rfl) rfl ?_
  refine Lw.callF rfl rfl (open1_c A2 _ l1 (nums2 ps) w6 hD2 hL.on (by omega)) ?_
  rintro _ w7 ⟨hn7, L2, rfl, hL2⟩
  have z7 := hn7.size
  have hL := hL.bs hn7
  have hL1 := hL1.bs hn7
  have hB7 := hB6.trans (hn7.mono (by omega))
  obtain ⟨S0, hS0, hL⟩ : ∃ S0, (∀ b, S0 b → b < w3.heap.size) ∧ LogIs w7 S0 L A l1 (nums2 ps) := ⟨_, fun b e => e.2, hL⟩
  obtain ⟨S1, S2, hS1, hS2, hS12, hL1, hL2⟩ : ∃ S1 S2, (∀ b, S1 b → w3.heap.size ≤ b ∧ b < w7.heap.size) ∧ (∀ b, S2 b → w3.heap.size ≤ b ∧ b < w7.heap.size) ∧ (∀ b, S1 b → ¬ S2 b) ∧ LogIs w7 S1 L1 A1 l1 (nums2 ps) ∧ LogIs w7 S2 L2 A2 l1 (nums2 ps) := by
    refine ⟨_, _, fun b e => ?_, fun b e => ?_, fun b e1 e2 => ?_, hL1, hL2⟩
    · rcases e with e | e <;> omega
    · rcases e with e | e <;> omega
    · rcases e1 with e1 | e1 <;> rcases e2 with e2 | e2 <;> omega
  clear hD hD1 hD2
  have s_v := h.sl.bs hB7
  have s_u := hq.sl.bs hB7
  have ep : ((nums2 ps).length : Int) = (ps.length : Int) := by rw [nums2_len]
  refine Lw.val (Ex.move rfl) rfl ?_
  refine Lw.val (Ex.extract (i := 0) rfl rfl) rfl ?_
  refine Lw.val (Ex.extract (i := 1) rfl rfl) rfl ?_
  refine Lw.val (Ex.assign rfl) rfl ?_
  refine Lw.val (Ex.assign rfl) rfl ?_
  refine Lw.nil ?_
  refine Pw.thenN (Cw.out ?_)
  refine Cw.seq ?_
  refine Cw.seq ?_
  refine Cw.region ?_
  refine Lw.val (Ex.move rfl) rfl ?_
  refine Lw.val (Ex.neq rfl rfl) rfl ?_
  refine Lw.val (Ex.move rfl) rfl ?_
  refine Lw.know 84 (v' := .bool false) rfl (congrArg Value.bool (rfl)) ?_
  refine Lw.take (dj := 84) rfl rfl ?_
  refine Lw.val (Ex.move rfl) rfl ?_
  refine Lw.take (dj := 84) rfl rfl ?_
  refine Lw.val (Ex.neq rfl rfl) rfl ?_
  refine Lw.val (Ex.pickF rfl rfl) rfl ?_
  refine Lw.val (Ex.move rfl) rfl ?_
  refine Lw.know 88 (v' := .bool false) rfl (congrArg Value.bool (rfl)) ?_
  refine Lw.take (dj := 88) rfl rfl ?_
  refine Lw.val (Ex.move rfl) rfl ?_
  refine Lw.take (dj := 88) rfl rfl ?_
  refine Lw.val (Ex.move rfl) rfl ?_
  refine Lw.take (dj := 88) rfl rfl ?_
  refine Lw.val (Ex.lenS st_22 rfl (by assumption)) rfl ?_
  refine Lw.take (dj := 88) rfl rfl ?_
  refine Lw.val (Ex.move rfl) rfl ?_
  refine Lw.take (dj := 88) rfl rfl ?_
  have a1 := added_c L1 A1 S1 l1 (nums2 ps) u qs W w7 hL1 hq hB7 (fun b e => by have := hS1 b e; omega) x2 (by rw [nums2_len]; omega) (by omega)
  rw [ep] at a1
  refine Lw.callF rfl rfl (a1) ?_
  rintro _ w8 ⟨rfl, hC8, l2, hL1, ll2, -⟩
  have z8 := hC8.size
  have hL := hL.chg hC8 (fun b e e2 => by have := hS0 b e; have := hS1 b e2; omega)
  have hL2 := hL2.chg hC8 (fun b e e2 => hS12 b e2 e)
  have hB8 := hB7.trans (hC8.to_below (fun b e => by have := hS1 b e; omega) (by omega))
  have s_v := h.sl.bs hB8
  refine Lw.take (dj := 88) rfl rfl ?_
  refine Lw.val (Ex.not rfl) rfl ?_
  refine Lw.val (Ex.pickF rfl rfl) rfl ?_
  refine Lw.val (Ex.move rfl) rfl ?_
  refine Lw.know 96 (v' := .bool false) rfl (congrArg Value.bool (rfl)) ?_
  refine Lw.take (dj := 96) rfl rfl ?_
  refine Lw.val (Ex.move rfl) rfl ?_
  refine Lw.take (dj := 96) rfl rfl ?_
  refine Lw.val (Ex.move rfl) rfl ?_
  refine Lw.take (dj := 96) rfl rfl ?_
  refine Lw.val (Ex.lenS st_22 rfl (by assumption)) rfl ?_
  refine Lw.take (dj := 96) rfl rfl ?_
  refine Lw.val (Ex.move rfl) rfl ?_
  refine Lw.take (dj := 96) rfl rfl ?_
  have a2 := added_c L2 A2 S2 l1 (nums2 ps) t ks W w8 hL2 hk hB8 (fun b e => by have := hS2 b e; omega) x3 (by rw [nums2_len]; omega) (by omega)
  rw [ep] at a2
  refine Lw.callF rfl rfl (a2) ?_
  rintro _ w9 ⟨rfl, hC9, l3, hL2, ll3, -⟩
  have z9 := hC9.size
  have hL := hL.chg hC9 (fun b e e2 => by have := hS0 b e; have := hS2 b e2; omega)
  have hL1 := hL1.chg hC9 (fun b e e2 => e.elim (fun e => hS12 b e e2) (fun e => by have := hS2 b e2; omega))
  have hB9 := hB8.trans (hC9.to_below (fun b e => by have := hS2 b e; omega) (by omega))
  refine Lw.take (dj := 96) rfl rfl ?_
  refine Lw.val (Ex.not rfl) rfl ?_
  refine Lw.val (Ex.pickF rfl rfl) rfl ?_
  refine Lw.nil ?_
  refine Pw.thenN (Cw.out ?_)
  refine Cw.condB rfl false (rfl) ?_
  refine Cw.skip ?_
  refine Pw.thenN (Cw.out ?_)
  refine Cw.seq ?_
  refine Cw.region ?_
  refine Lw.val (Ex.move rfl) rfl ?_
  refine Lw.callF rfl rfl (open1_c A1 _ l2 (nums2 ps ++ nums2 qs) w9 hL1.log.disk hL1.on (by omega)) ?_
  rintro _ w10 ⟨hn10, L3, rfl, hL3⟩
  have z10 := hn10.size
  have hL := hL.bs hn10
  have hL2 := hL2.bs hn10
  have hB10 := hB9.trans (hn10.mono (by omega))
  refine Lw.val (Ex.move rfl) rfl ?_
  refine Lw.val (Ex.extract (i := 0) rfl rfl) rfl ?_
  refine Lw.val (Ex.extract (i := 1) rfl rfl) rfl ?_
  refine Lw.val (Ex.assign rfl) rfl ?_
  refine Lw.val (Ex.assign rfl) rfl ?_
  refine Lw.nil ?_
  refine Pw.thenN (Cw.out ?_)
  refine Cw.seq ?_
  refine Cw.region ?_
  refine Lw.val (Ex.move rfl) rfl ?_
  refine Lw.callF rfl rfl (open1_c A2 _ l3 (nums2 ps ++ nums2 ks) w10 hL2.log.disk hL2.on (by omega)) ?_
  rintro _ w11 ⟨hn11, L4, rfl, hL4⟩
  have z11 := hn11.size
  have hL := hL.bs hn11
  have hL3 := hL3.bs hn11
  have hB11 := hB10.trans (hn11.mono (by omega))
  refine Lw.val (Ex.move rfl) rfl ?_
  refine Lw.val (Ex.extract (i := 0) rfl rfl) rfl ?_
  refine Lw.val (Ex.extract (i := 1) rfl rfl) rfl ?_
  refine Lw.val (Ex.assign rfl) rfl ?_
  refine Lw.val (Ex.assign rfl) rfl ?_
  refine Lw.nil ?_
  refine Pw.thenN (Cw.out ?_)
  refine Cw.seq ?_
  refine Cw.region ?_
  refine Lw.val (Ex.move rfl) rfl ?_
  refine Lw.val (Ex.eql rfl rfl) rfl ?_
  refine Lw.val (Ex.move rfl) rfl ?_
  refine Lw.know 116 (v' := .bool true) rfl (congrArg Value.bool (rfl)) ?_
  refine Lw.take (dj := 116) rfl rfl ?_
  refine Lw.val (Ex.move rfl) rfl ?_
  refine Lw.take (dj := 116) rfl rfl ?_
  refine Lw.val (Ex.eql rfl rfl) rfl ?_
  refine Lw.val (Ex.pickT rfl rfl) rfl ?_
  refine Lw.val (Ex.move rfl) rfl ?_
  refine Lw.know 120 (v' := .bool true) rfl (congrArg Value.bool (rfl)) ?_
  refine Lw.take (dj := 120) rfl rfl ?_
  refine Lw.val (Ex.move rfl) rfl ?_
  refine Lw.take (dj := 120) rfl rfl ?_
  refine Lw.val (Ex.move rfl) rfl ?_
  refine Lw.take (dj := 120) rfl rfl ?_
  refine Lw.callF rfl rfl (told_c L A S0 l1 _ v ps w11 hL (h.bs hB11)) ?_
  rintro _ w ⟨rfl, hn⟩
  rw [decide_eq_true (rfl : nums2 ps = nums2 ps)]
  have hL3 := hL3.bs hn
  have hL4 := hL4.bs hn
  have hB := hB11.trans (hn.mono (by omega))
  have z := below_size hB
  refine Lw.val (Ex.pickT rfl rfl) rfl ?_
  refine Lw.val (Ex.move rfl) rfl ?_
  refine Lw.know 125 (v' := .bool true) rfl (congrArg Value.bool (rfl)) ?_
  refine Lw.take (dj := 125) rfl rfl ?_
  refine Lw.val (Ex.move rfl) rfl ?_
  refine Lw.take (dj := 125) rfl rfl ?_
  refine Lw.val (Ex.move rfl) rfl ?_
  refine Lw.take (dj := 125) rfl rfl ?_
  have hv := h.bs hB
  have hu := hq.bs hB
  have hl1 := hq.sl.le
  refine Lw.valW (Xw.append2 (base := w.heap.size) (k := 0) (m := ps.length) (xs := []) st_22 it_34 rfl (by decide) rfl rfl ⟨rfl, .inl ⟨rfl, rfl⟩⟩ hv.sl hv.ones (by omega) (by omega) (Nat.le_refl _)) rfl ?_
  rintro v1 w' ⟨o_v, hn, -⟩
  rw [List.nil_append, Nat.zero_add] at o_v
  have z' := hn.size
  have hu' := hu.bs hn
  refine Lw.take (dj := 125) rfl rfl ?_
  refine Lw.val (Ex.move rfl) rfl ?_
  refine Lw.take (dj := 125) rfl rfl ?_
  refine Lw.valW (Xw.append2 (base := w.heap.size) st_22 it_34 rfl (by decide) rfl rfl o_v hu'.sl hu'.ones (by omega) (by omega) z') rfl ?_
  rintro v2 w ⟨o_v2, hn2, -⟩
  rw [← List.map_append] at o_v2
  have hn := hn.trans hn2
  have ll := hv.app hu hn o_v2
  have hL3 := hL3.bs hn
  have hL4 := hL4.bs hn
  have hB := hB.trans (hn.mono z)
  have z := below_size hB
  refine Lw.take (dj := 125) rfl rfl ?_
  refine Lw.callF rfl rfl (told_c L3 A1 _ l2 _ v2 (ps ++ qs) w hL3 ll) ?_
  rintro _ w ⟨rfl, hn⟩
  rw [nums2_app, decide_eq_true rfl]
  have hL3 := hL3.bs hn
  have hL4 := hL4.bs hn
  have hB := hB.trans (hn.mono z)
  have z := below_size hB
  refine Lw.val (Ex.pickT rfl rfl) rfl ?_
  refine Lw.val (Ex.move rfl) rfl ?_
  refine Lw.know 133 (v' := .bool true) rfl (congrArg Value.bool (rfl)) ?_
  refine Lw.take (dj := 133) rfl rfl ?_
  refine Lw.val (Ex.move rfl) rfl ?_
  refine Lw.take (dj := 133) rfl rfl ?_
  refine Lw.val (Ex.move rfl) rfl ?_
  refine Lw.take (dj := 133) rfl rfl ?_
  have hv := h.bs hB
  have hu := hk.bs hB
  have hl1 := hk.sl.le
  refine Lw.valW (Xw.append2 (base := w.heap.size) (k := 0) (m := ps.length) (xs := []) st_22 it_34 rfl (by decide) rfl rfl ⟨rfl, .inl ⟨rfl, rfl⟩⟩ hv.sl hv.ones (by omega) (by omega) (Nat.le_refl _)) rfl ?_
  rintro v1 w' ⟨o_v, hn, -⟩
  rw [List.nil_append, Nat.zero_add] at o_v
  have z' := hn.size
  have hu' := hu.bs hn
  refine Lw.take (dj := 133) rfl rfl ?_
  refine Lw.val (Ex.move rfl) rfl ?_
  refine Lw.take (dj := 133) rfl rfl ?_
  refine Lw.valW (Xw.append2 (base := w.heap.size) st_22 it_34 rfl (by decide) rfl rfl o_v hu'.sl hu'.ones (by omega) (by omega) z') rfl ?_
  rintro v2 w ⟨o_v2, hn2, -⟩
  rw [← List.map_append] at o_v2
  have hn := hn.trans hn2
  have ll := hv.app hu hn o_v2
  have hL3 := hL3.bs hn
  have hL4 := hL4.bs hn
  have hB := hB.trans (hn.mono z)
  have z := below_size hB
  refine Lw.take (dj := 133) rfl rfl ?_
  refine Lw.callF rfl rfl (told_c L4 A2 _ l3 _ v2 (ps ++ ks) w hL4 ll) ?_
  rintro _ w ⟨rfl, hn⟩
  rw [nums2_app, decide_eq_true rfl]
  have hL3 := hL3.bs hn
  have hL4 := hL4.bs hn
  have hB := hB.trans (hn.mono z)
  have z := below_size hB
  refine Lw.val (Ex.pickT rfl rfl) rfl ?_
  refine Lw.val (Ex.move rfl) rfl ?_
  refine Lw.know 141 (v' := .bool true) rfl (congrArg Value.bool (rfl)) ?_
  refine Lw.take (dj := 141) rfl rfl ?_
  refine Lw.callF rfl rfl (lives_c w) ?_
  rintro _ w ⟨rfl, hn⟩
  refine Lw.val (Ex.pickT rfl rfl) rfl ?_
  refine Lw.val (Ex.assign rfl) rfl ?_
  refine Lw.nil ?_
  refine Pw.thenN (Cw.out ?_)
  refine Cw.ret ?_
  refine Pw.ret1 rfl rfl ?_
  exact ⟨rfl, hB.trans (hn.mono z)⟩

set_option maxRecDepth 100000 in
set_option maxHeartbeats 2000000 in
theorem outlogsAgain_lifted (os : Os) (started : os.Started) (H : Type) (enc : TypeId × Value → H) :
    ReturnsInHanded {} Try.checked os 6 .any (Rows.outlogsAgainSpec.pre6 enc Try.prog Try.f6 Rows.outlogsAgainRow.domain false) (Rows.outlogsAgainSpec.post enc Try.prog Try.f6 false true false false) := by
  refine returnsInHanded_of_change_sized (C := Try.checked) own started (by kernel_rfl) Try.func6
    (ChangeSpec.witness6 (enc := enc) (C := Try.checked) false ⟨#[], #[.slice none 0 0, .slice none 0 0, .slice none 0 0], []⟩ 8 (by kernel_rfl) (by kernel_rfl) (by kernel_rfl) (by kernel_rfl)) ?_
  intro W base args ds gs before hval0 hW hcnd hsz0 _
  have hval : ∀ (j : Nat) t v, Try.f6.params[j]? = some t → args[j]? = some v → Value.okWide Try.prog W .any base t v := hval0
  have hW' := hW
  obtain ⟨p, q, hA0, hV, rfl, hfz, hnd⟩ := hW
  have hA : DataW.TrodAll enc Try.prog W 0 (fun _ => true) true Try.f6.params.toList args.toList ds p := hA0
  have hsz : (DataW.weightsEach Try.prog (Try.f6.params.toList ++ Rows.outlogsAgainSpec.plain.varTypes Try.prog) (ds ++ gs)).all (· ≤ reachBytes) = true := hsz0
  rw [Try.params6] at hA hval hsz
  obtain ⟨v0, vs0, d0, ds0, p0, q0, hargs, rfl, rfl, h0, r0⟩ := trodAll_cons hA
  obtain ⟨v1, vs1, d1, ds1, p1, q1, rfl, rfl, rfl, h1, r1⟩ := trodAll_cons r0
  obtain ⟨v2, vs2, d2, ds2, p2, q2, rfl, rfl, rfl, h2, r2⟩ := trodAll_cons r1
  obtain ⟨rfl, rfl, rfl⟩ := trodAll_nil r2
  obtain rfl : args = #[v0, v1, v2] := by cases args; simp_all
  obtain ⟨rfl, rfl⟩ := trodVars_none hV
  have k0 := h0
  have lt0 : ∀ x ∈ p0, x.block < W.heap.size := by obtain ⟨m, hm⟩ := k0; exact DataW.trod_lt m _ _ _ hm
  have i0 := in_of (j := 0) (t := 22) hsz rfl rfl h0
  have o0 := hval 0 22 v0 rfl rfl
  have k1 := h1
  have lt1 : ∀ x ∈ p1, x.block < W.heap.size := by obtain ⟨m, hm⟩ := k1; exact DataW.trod_lt m _ _ _ hm
  have i1 := in_of (j := 1) (t := 22) hsz rfl rfl h1
  have o1 := hval 1 22 v1 rfl rfl
  have k2 := h2
  have lt2 : ∀ x ∈ p2, x.block < W.heap.size := by obtain ⟨m, hm⟩ := k2; exact DataW.trod_lt m _ _ _ hm
  have i2 := in_of (j := 2) (t := 22) hsz rfl rfl h2
  have o2 := hval 2 22 v2 rfl rfl
  clear hA0 hval0 hsz0 hsz
  obtain ⟨ps, hl, hm⟩ := arg_ll o0 i0
  obtain ⟨qs, hl2, hm2⟩ := arg_ll o1 i1
  obtain ⟨ks, hl3, hm3⟩ := arg_ll o2 i2
  refine (law_calls (outlogsAgain_w v0 v1 v2 ps qs ks W hl hl2 hl3 hm hm2 hm3)).mono fun e W' ⟨he, bel⟩ => ?_
  subst he
  exact ⟨_, rfl, _, _, _, [], _, [], hW', trodAll_mk1 (shut_bool un_4 _), (trodAll_cons_mk (Below.trod laidOut (by kernel_rfl) (of_decide_eq_true (by kernel_rfl)) k0 bel lt0) (trodAll_cons_mk (Below.trod laidOut (by kernel_rfl) (of_decide_eq_true (by kernel_rfl)) k1 bel lt1) (trodAll_cons_mk (Below.trod laidOut (by kernel_rfl) (of_decide_eq_true (by kernel_rfl)) k2 bel lt2) trodAll_mk0))), rfl, bel.frame _, fun h => by cases h⟩

/-- The statement. -/
theorem outlogsAgain_proved : Rows.OutlogsAgainSaid :=
  OpenClaim.holds_of_wide 6 Try.f6 rfl rfl rfl rfl rfl rfl rfl ⟨rfl, rfl, rfl, rfl, rfl⟩ rfl rfl rfl rfl rfl (by kernel_rfl) Try.func6 (by kernel_rfl)
    (of_decide_eq_true (by kernel_rfl)) (by unfold Func.isWrapper; first | (rw [if_pos (by decide +kernel)]; kernel_rfl) | (rw [if_neg (by decide +kernel)]; exact ⟨rfl, rfl⟩))
    (fun os started H enc _ => outlogsAgain_lifted os started H enc)
#print axioms outlogsAgain_proved
end Go.Proofs.Ytiaojbbgjlpikaa
