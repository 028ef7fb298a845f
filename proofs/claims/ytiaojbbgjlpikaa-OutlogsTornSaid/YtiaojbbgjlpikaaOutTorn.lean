/- A record whose sectors, or count, were not all kept, or torn, is there wholly, or not at all: for any lists; no condition. -/
import Derived.Test.YtiaojbbgjlpikaaOutTear
import Derived.Test.YtiaojbbgjlpikaaOutSure
namespace Go.Proofs.Ytiaojbbgjlpikaa
open Go Go.Dd Go.RowKit Go.ChangeShapes Go.WideShapes
set_option maxRecDepth 100000

theorem tfour_of {α : Type} {l : List α} (h : l.length = 4) : ∃ a b c d, l = [a, b, c, d] := by
  match l, h with
  | [a, b, c, d], _ => exact ⟨a, b, c, d, rfl⟩
theorem outlogsTorn_w (v u : Value) (ps : List (Value × Nums)) (xs : Nums) (kp : BitVec 64) (tn : BitVec 8) (W : World) (h : LL W v ps) (hx : SlT i32 W u xs) (hm : ps.length ≤ 1125899906842624) :
    Fnc Try.prog 5 [.agg #[v, u, u64 kp, i8v tn]] W (fun r w' => r = .bool true ∧ Below W.heap.size W w') := by
  have hB := Below.refl W.heap.size W
  obtain ⟨qs, hqs⟩ : ∃ qs : List (Value × Nums), qs = [(u, xs)] := ⟨_, rfl⟩
  have lqs : qs.length = 1 := by rw [hqs]; rfl
  have eqs : qs.map (·.1) = [u] := by rw [hqs]; rfl
  have nqs : nums2 qs = [xs] := by rw [hqs]; rfl
  have uq : ∀ p ∈ qs, SlT i32 W p.1 p.2 := fun p hp => by
    rw [hqs] at hp
    rw [List.mem_singleton.1 hp]; exact hx
  have one1 : [u].all (·.oneCell') = true := by rw [List.all_cons, hx.one']; rfl
  refine Fnc.enter (n := 164) Try.func5 (by kernel_rfl) rfl rfl rfl ?_
  refine Cw.seq ?_
  refine Cw.region ?_
  refine Lw.boxV (cs := [v, u, u64 kp, i8v tn]) rfl rfl rfl ?_
  rintro A_z w eA_z b_z hn -
  replace hB := hB.bs hn
  clear hn
  refine Lw.val (Ex.assign rfl) rfl ?_
  refine Lw.nil ?_
  refine Pw.thenN (Cw.out ?_)
  refine Cw.seq ?_
  refine Cw.region ?_
  refine Lw.val (Ex.fieldAddr (q := 0) Try.underlying52 rfl (sz_22 _) rfl) rfl ?_
  refine Lw.val (Ex.ldB (ag_22 _) rfl (by assumption) rfl) rfl ?_
  refine Lw.val (Ex.assign rfl) rfl ?_
  refine Lw.nil ?_
  refine Pw.thenN (Cw.out ?_)
  refine Cw.seq ?_
  refine Cw.region ?_
  refine Lw.val (Ex.fieldAddr (q := 0) Try.underlying52 rfl (sz_34 _) rfl) rfl ?_
  refine Lw.val (Ex.ldB (ag_34 _) rfl (by assumption) rfl) rfl ?_
  refine Lw.val (Ex.assign rfl) rfl ?_
  refine Lw.nil ?_
  refine Pw.thenN (Cw.out ?_)
  refine Cw.seq ?_
  refine Cw.region ?_
  refine Lw.val (Ex.fieldAddr (q := 0) Try.underlying52 rfl (sz_43 _) rfl) rfl ?_
  refine Lw.val (Ex.ldB (ag_43 _) rfl (by assumption) rfl) rfl ?_
  refine Lw.val (Ex.assign rfl) rfl ?_
  refine Lw.nil ?_
  refine Pw.thenN (Cw.out ?_)
  refine Cw.seq ?_
  refine Cw.region ?_
  refine Lw.val (Ex.fieldAddr (q := 0) Try.underlying52 rfl (sz_44 _) rfl) rfl ?_
  refine Lw.val (Ex.ldB (ag_44 _) rfl (by assumption) rfl) rfl ?_
  refine Lw.val (Ex.assign rfl) rfl ?_
  refine Lw.nil ?_
  refine Pw.thenN (Cw.out ?_)
  refine Cw.seq ?_
  refine Cw.seq ?_
  refine Cw.region ?_
  refine Lw.val (Ex.move rfl) rfl ?_
  refine Lw.callF rfl rfl (fit_c v ps w (h.bs hB) hm) ?_
  rintro _ w ⟨rfl, hn⟩
  have hB := hB.trans (hn.mono (below_size hB))
  refine Lw.val (Ex.not rfl) rfl ?_
  refine Lw.val (Ex.move rfl) rfl ?_
  refine Lw.part 33 rfl ?_ ?_
  · intro g
    refine Lw.pass (dj := 33) rfl rfl rfl rfl ?_
    refine Lw.pass (dj := 33) rfl rfl rfl rfl ?_
    refine Lw.pass (dj := 33) rfl rfl rfl rfl ?_
    refine Lw.pass (dj := 33) rfl rfl rfl rfl ?_
    refine Lw.val (Ex.pickT rfl rfl) rfl ?_
    refine Lw.nil ?_
    refine Pw.thenN (Cw.out ?_)
    refine Cw.condT rfl ?_
    refine Cw.seq ?_
    refine Cw.region ?_
    refine Lw.callF rfl rfl (lives_c w) ?_
    rintro _ w99 ⟨rfl, hn99⟩
    refine Lw.val (Ex.assign rfl) rfl ?_
    refine Lw.nil ?_
    refine Pw.thenN (Cw.out ?_)
    refine Cw.ret ?_
    refine Pw.thenR ?_
    refine Pw.ret1 rfl rfl ?_
    exact ⟨rfl, hB.trans (hn99.mono (below_size hB))⟩
  intro g
  have f1 : fitB ps = true := by simpa using g
  refine Lw.take (dj := 33) rfl rfl ?_
  refine Lw.val (Ex.move rfl) rfl ?_
  refine Lw.take (dj := 33) rfl rfl ?_
  refine Lw.valW (Xw.lit (vs := [u]) st_22 it_34 rfl rfl rfl one1 rfl) rfl ?_
  rintro t w' ⟨o_t, -, hn, -⟩
  have hB := hB.trans (hn.mono (below_size hB))
  have o_t : w'.ownsRow w.heap.size 34 1 t qs.length (qs.map (·.1)) := by rw [eqs, lqs]; exact o_t
  refine Lw.take (dj := 33) rfl rfl ?_
  refine Lw.callF rfl rfl (fit_c t qs w' ⟨own_slT o_t, fun p hp => (uq p hp).bs hB⟩ (by omega)) ?_
  rintro _ w ⟨rfl, hn⟩
  have hB := hB.trans (hn.mono (below_size hB))
  refine Lw.take (dj := 33) rfl rfl ?_
  refine Lw.val (Ex.not rfl) rfl ?_
  refine Lw.val (Ex.pickF rfl rfl) rfl ?_
  refine Lw.nil ?_
  refine Pw.thenN (Cw.out ?_)
  refine Cw.cond rfl ?_ ?_
  · intro g
    refine Cw.seq ?_
    refine Cw.region ?_
    refine Lw.callF rfl rfl (lives_c w) ?_
    rintro _ w99 ⟨rfl, hn99⟩
    refine Lw.val (Ex.assign rfl) rfl ?_
    refine Lw.nil ?_
    refine Pw.thenN (Cw.out ?_)
    refine Cw.ret ?_
    refine Pw.thenR ?_
    refine Pw.ret1 rfl rfl ?_
    exact ⟨rfl, hB.trans (hn99.mono (below_size hB))⟩
  intro g
  have f2 : fitB qs = true := by simpa using g
  obtain ⟨x1, m1⟩ := fitB_ok f1
  obtain ⟨x2, -⟩ := fitB_ok f2
  have z0 := below_size hB
  refine Cw.skip ?_
  refine Pw.thenN (Cw.out ?_)
  refine Cw.seq ?_
  refine Cw.region ?_
  refine Lw.callF rfl rfl (dnew_c 600 w (by omega) (by omega)) ?_
  rintro _ w1 ⟨hn1, A, rfl, hD⟩
  have z1 := hn1.size
  have hB1 := hB.trans (hn1.mono z0)
  obtain ⟨l0, hl0⟩ : ∃ l0, l0 = List.replicate 600 zer := ⟨_, rfl⟩
  have ll0 : l0.length = 600 := by rw [hl0, List.length_replicate]
  have on0 : OnDisk l0 [] := by rw [hl0]; exact onDisk_new (by decide)
  rw [← hl0] at hD
  clear hl0
  refine Lw.val (Ex.move rfl) rfl ?_
  refine Lw.val (Ex.extract (i := 0) rfl rfl) rfl ?_
  refine Lw.val (Ex.extract (i := 1) rfl rfl) rfl ?_
  refine Lw.val (Ex.assign rfl) rfl ?_
  refine Lw.val (Ex.assign rfl) rfl ?_
  refine Lw.nil ?_
  refine Pw.thenN (Cw.out ?_)
  refine Cw.seq ?_
  refine Cw.region ?_
  refine Lw.val (Ex.move rfl) rfl ?_
  refine Lw.callF rfl rfl (open1_c A _ l0 [] w1 hD on0 (by omega)) ?_
  rintro _ w2 ⟨hn2, L, rfl, hL⟩
  have z2 := hn2.size
  have hB2 := hB1.trans (hn2.mono (by omega))
  have hL := hL.wide (T := Nw W w2) (fun b e => e.elim (fun e => ⟨by omega, by omega⟩) (fun e => ⟨by omega, e.2⟩)) (fun b e => e.2)
  have st := stN_two f1 f2
  refine Lw.val (Ex.move rfl) rfl ?_
  refine Lw.val (Ex.extract (i := 0) rfl rfl) rfl ?_
  refine Lw.val (Ex.extract (i := 1) rfl rfl) rfl ?_
  refine Lw.val (Ex.assign rfl) rfl ?_
  refine Lw.val (Ex.assign rfl) rfl ?_
  refine Lw.nil ?_
  refine Pw.thenN (Cw.out ?_)
  refine Cw.seq ?_
  refine Cw.seq ?_
  refine Cw.region ?_
  refine Lw.val (Ex.move rfl) rfl ?_
  refine Lw.val (Ex.neq rfl rfl) rfl ?_
  refine Lw.val (Ex.move rfl) rfl ?_
  refine Lw.know 51 (v' := .bool false) rfl (congrArg Value.bool (rfl)) ?_
  refine Lw.take (dj := 51) rfl rfl ?_
  refine Lw.val (Ex.move rfl) rfl ?_
  refine Lw.take (dj := 51) rfl rfl ?_
  refine Lw.val (Ex.neq rfl rfl) rfl ?_
  refine Lw.val (Ex.pickF rfl rfl) rfl ?_
  refine Lw.val (Ex.move rfl) rfl ?_
  refine Lw.know 55 (v' := .bool false) rfl (congrArg Value.bool (rfl)) ?_
  refine Lw.take (dj := 55) rfl rfl ?_
  refine Lw.val (Ex.move rfl) rfl ?_
  refine Lw.take (dj := 55) rfl rfl ?_
  refine Lw.val (Ex.move rfl) rfl ?_
  refine Lw.take (dj := 55) rfl rfl ?_
  refine Lw.callF rfl rfl (added_c L A (Nw W w2) l0 [] v ps W w2 hL h hB2 (fun b e => e.1) x1 (by simp; omega) (by rw [List.nil_append]; omega)) ?_
  rintro _ w3 ⟨rfl, hC3, l1, hL, ll1, -⟩
  rw [List.nil_append] at hL
  have z3 := hC3.size
  have hB3 := hC3.to_below (fun b e => e.1) (below_size hB2)
  have hB3 := hB2.trans hB3
  have hL := hL.nw (by omega) z3
  have ll1 : l1.length = 600 := by omega
  have on1 := hL.on
  have hv := h.bs hB3
  have z3b := below_size hB3
  have hvl := hv.sl.le
  refine Lw.take (dj := 55) rfl rfl ?_
  refine Lw.val (Ex.not rfl) rfl ?_
  refine Lw.val (Ex.pickF rfl rfl) rfl ?_
  refine Lw.nil ?_
  refine Pw.thenN (Cw.out ?_)
  refine Cw.condB rfl false (rfl) ?_
  refine Cw.skip ?_
  refine Pw.thenN (Cw.out ?_)
  refine Cw.seq ?_
  refine Cw.region ?_
  refine Lw.val (Ex.move rfl) rfl ?_
  refine Lw.valW (Xw.append2 (base := w3.heap.size) (k := 0) (m := ps.length) (xs := []) st_22 it_34 rfl (by decide) rfl rfl ⟨rfl, .inl ⟨rfl, rfl⟩⟩ hv.sl hv.ones (by omega) (by omega) (Nat.le_refl _)) rfl ?_
  rintro v1 w4 ⟨o_v1, hn4, -⟩
  rw [List.nil_append, Nat.zero_add] at o_v1
  have z4 := hn4.size
  refine Lw.val (Ex.move rfl) rfl ?_
  refine Lw.valW (Xw.lit (vs := [u]) st_22 it_34 rfl rfl rfl one1 rfl) rfl ?_
  rintro t1 w5 ⟨o_t1, -, hn5, -⟩
  have z5 := hn5.size
  have o_v1 := own_bs o_v1 hn5
  refine Lw.valW (Xw.append2 (base := w3.heap.size) st_22 it_34 rfl (by decide) rfl rfl o_v1 (own_sl o_t1) one1 (by omega) (by omega) (by omega)) rfl ?_
  rintro v2 w6 ⟨o_v2, hn6, -⟩
  rw [← eqs, ← List.map_append] at o_v2
  have z6 := hn6.size
  have hn36 := (hn4.trans (hn5.mono z4)).trans hn6
  have hL := hL.bs hn36
  have hB6 := hB3.trans (hn36.mono z3b)
  have v2b := own_block o_v2
  refine Lw.val (Ex.assign rfl) rfl ?_
  refine Lw.nil ?_
  refine Pw.thenN (Cw.out ?_)
  refine Cw.seq ?_
  refine Cw.region ?_
  refine Lw.val (Ex.move rfl) rfl ?_
  refine Lw.callF rfl rfl (fail1_c A (Nw W w3) l1 0#64 (-1) w6 hL.log.disk) ?_
  rintro _ w7 ⟨hn7, A1, rfl, hD1⟩
  have z7 := hn7.size
  have hL := hL.bs hn7
  have o_v2 := own_bs o_v2 hn7
  have hB7 := hB6.trans (hn7.mono (by omega))
  have ep : ((nums2 ps).length : Int) = (ps.length : Int) := by rw [nums2_len]
  have s_v := h.sl.bs hB7
  refine Lw.val (Ex.move rfl) rfl ?_
  refine Lw.val (Ex.extract (i := 0) rfl rfl) rfl ?_
  refine Lw.val (Ex.extract (i := 1) rfl rfl) rfl ?_
  refine Lw.val (Ex.assign rfl) rfl ?_
  refine Lw.val (Ex.assign rfl) rfl ?_
  refine Lw.nil ?_
  refine Pw.thenN (Cw.out ?_)
  refine Cw.seq ?_
  refine Cw.seq ?_
  refine Cw.region ?_
  refine Lw.val (Ex.move rfl) rfl ?_
  refine Lw.val (Ex.neq rfl rfl) rfl ?_
  refine Lw.val (Ex.move rfl) rfl ?_
  refine Lw.know 73 (v' := .bool false) rfl (congrArg Value.bool (rfl)) ?_
  refine Lw.take (dj := 73) rfl rfl ?_
  refine Lw.val (Ex.move rfl) rfl ?_
  refine Lw.take (dj := 73) rfl rfl ?_
  refine Lw.val (Ex.move rfl) rfl ?_
  refine Lw.take (dj := 73) rfl rfl ?_
  refine Lw.val (Ex.lenS st_22 rfl (by assumption)) rfl ?_
  refine Lw.take (dj := 73) rfl rfl ?_
  refine Lw.val (Ex.move rfl) rfl ?_
  refine Lw.take (dj := 73) rfl rfl ?_
  refine Lw.valW (Xw.lit (vs := [u]) st_22 it_34 rfl rfl rfl one1 rfl) rfl ?_
  rintro t2 w8 ⟨o_t2, -, hn8, -⟩
  have o_t2 : w8.ownsRow w7.heap.size 34 1 t2 qs.length (qs.map (·.1)) := by rw [eqs, lqs]; exact o_t2
  have z8 := hn8.size
  have t2b := own_block o_t2
  have hL := hL.bs hn8
  have hD1 := hD1.bs hn8
  have o_v2 := own_bs o_v2 hn8
  have hB8 := hB7.trans (hn8.mono (by omega))
  have a1 := addedG_c L A (Nw W w3) l1 (nums2 ps) t2 qs w8 hL (fun w' hC => ⟨own_slT (own_chg o_t2 hC (fun b e e2 => by have := t2b b e; have := e2.2; omega)), fun p hp => (uq p hp).bs (hB8.trans (hC.to_below (fun b e => e.1) (by omega)))⟩) x2 (by rw [nums2_len]; omega) (by rw [nqs] at *; omega)
  rw [ep] at a1
  refine Lw.take (dj := 73) rfl rfl ?_
  refine Lw.callF rfl rfl (a1) ?_
  rintro _ w9 ⟨rfl, hC9, l2, hL, ll2, hag⟩
  rw [nqs] at hL
  have z9 := hC9.size
  have on2 := hL.on
  have hD1 := hD1.chg hC9 (fun b e e2 => by have := e2.2; omega)
  have o_v2 := own_chg o_v2 hC9 (fun b e e2 => by have := v2b b e; have := e2.2; omega)
  have hB9 := hB8.trans (hC9.to_below (fun b e => e.1) (by omega))
  obtain ⟨S0, hS0, hS0b, hL⟩ : ∃ S0, (∀ b, S0 b → b < w9.heap.size ∧ (b < w3.heap.size ∨ w8.heap.size ≤ b)) ∧ (∀ b, S0 b → W.heap.size ≤ b) ∧ LogIs w9 S0 L A l2 (nums2 ps ++ [xs]) := ⟨_, fun b e => e.elim (fun e => ⟨by have := e.2; omega, .inl e.2⟩) (fun e => ⟨e.2, .inr e.1⟩), fun b e => e.elim (fun e => e.1) (fun e => by omega), hL⟩
  obtain ⟨S1, hS1, hD1⟩ : ∃ S1, (∀ b, S1 b → w6.heap.size ≤ b ∧ b < w7.heap.size) ∧ DiskAt w9 S1 A1 ⟨l1, l1, []⟩ := ⟨_, fun b e => e, hD1⟩
  clear hD
  have ll2 : l2.length = 600 := by omega
  refine Lw.take (dj := 73) rfl rfl ?_
  refine Lw.val (Ex.not rfl) rfl ?_
  refine Lw.val (Ex.pickF rfl rfl) rfl ?_
  refine Lw.nil ?_
  refine Pw.thenN (Cw.out ?_)
  refine Cw.condB rfl false (rfl) ?_
  refine Cw.skip ?_
  refine Pw.thenN (Cw.out ?_)
  refine Cw.seq ?_
  refine Cw.seq ?_
  refine Cw.region ?_
  refine Lw.val (Ex.assign rfl) rfl ?_
  refine Lw.nil ?_
  refine Pw.thenN (Cw.out ?_)
  refine Cw.block ?_
  refine Cw.loop (S := Nat) (fun z => [(3, v), (5, u64 kp), (6, i8v tn), (7, .pointer (some ⟨A, 0, none⟩)), (11, v2), (12, .pointer (some ⟨A1, 0, none⟩)), (14, .int .i64 ((z + 1 : Nat) : Int))]) (fun z w' => z ≤ 599 ∧ Below W.heap.size W w' ∧ w9.heap.size ≤ w'.heap.size ∧ LogIs w' S0 L A l2 (nums2 ps ++ [xs]) ∧ w'.ownsRow w3.heap.size 34 1 v2 (ps.length + 1) ((ps ++ qs).map (·.1)) ∧ ∃ Sx, (∀ b, Sx b → (w6.heap.size ≤ b ∧ b < w7.heap.size) ∨ w9.heap.size ≤ b) ∧ DiskAt w' Sx A1 ⟨l1, mixS l1 l2 z, wtsS l2 z⟩) (fun z => 599 - z) (0) ⟨rfl, rfl, rfl, rfl, rfl, rfl, rfl, trivial⟩ ?_ ?_
  · exact ⟨by omega, hB9, Nat.le_refl _, hL, o_v2, S1, fun b e => .inl (hS1 b e), hD1⟩
  clear hL hD1 o_v2 hS1
  rintro z w ⟨hz, hB, zz, hL, o_v2, Sx, hSx, hDx⟩
  refine Cw.seq ?_
  refine Cw.seq ?_
  refine Cw.region ?_
  refine Lw.val (Ex.move rfl) rfl ?_
  refine Lw.val (Ex.lss rfl rfl) rfl ?_
  refine Lw.nil ?_
  refine Pw.thenN (Cw.out ?_)
  refine Cw.cond rfl ?_ ?_
  · intro g
    have hz' : z < 599 := by have := of_decide_eq_true g; omega
    obtain ⟨b, hb⟩ : ∃ b, b = l2.getD (z + 1) [] := ⟨_, rfl⟩
    have eb : l2[z + 1]'(by omega) = b := by rw [hb, List.getD_eq_getElem?_getD, List.getElem?_eq_getElem (by omega)]; rfl
    have l64 : b.length = 64 := by rw [← eb]; exact on2.s64 _ (List.getElem_mem _)
    refine Cw.skip ?_
    refine Pw.thenN (Cw.out ?_)
    refine Cw.seq ?_
    refine Cw.block ?_
    refine Cw.seq ?_
    refine Cw.region ?_
    refine Lw.val (Ex.move rfl) rfl ?_
    refine Lw.val (Ex.move rfl) rfl ?_
    refine Lw.callF rfl rfl (read_c A S0 ⟨l2, l2, []⟩ (z + 1) w hL.log.disk (show z + 1 < l2.length by omega)) ?_
    rintro _ wa ⟨hna, x, rfl, hxr⟩
    have za := hna.size
    rw [show (⟨l2, l2, []⟩ : Dsk).seen[z + 1]'(show z + 1 < l2.length by omega) = b from eb] at hxr
    have s_x : SlT b8 wa x b := by have := hxr.sl; unfold SlT; rwa [l64]
    have hL := hL.bs hna
    have o_v2 := own_bs o_v2 hna
    have hDx := hDx.bs hna
    have hB := hB.trans (hna.mono (by omega))
    refine Lw.val (Ex.move rfl) rfl ?_
    refine Lw.val (Ex.extract (i := 0) rfl rfl) rfl ?_
    refine Lw.val (Ex.extract (i := 1) rfl rfl) rfl ?_
    refine Lw.val (Ex.assign rfl) rfl ?_
    refine Lw.val (Ex.assign rfl) rfl ?_
    refine Lw.nil ?_
    refine Pw.thenN (Cw.out ?_)
    refine Cw.region ?_
    refine Lw.val (Ex.move rfl) rfl ?_
    refine Lw.val (Ex.move rfl) rfl ?_
    refine Lw.val (Ex.move rfl) rfl ?_
    refine Lw.callF rfl rfl (write_c A1 Sx ⟨l1, mixS l1 l2 z, wtsS l2 z⟩ (z + 1) x b wa hDx s_x (show z + 1 < (mixS l1 l2 z).length by rw [mixS_len]; omega) (by omega) (show (wtsS l2 z).length ≤ 1000000 by rw [wtsS_len]; omega)) ?_
    rintro _ wb ⟨rfl, hCb, hDb⟩
    have zb := hCb.size
    have hL := hL.chg hCb (fun k e e2 => by have := hS0 k e; have := hSx k e2; omega)
    have o_v2 := own_chg o_v2 hCb (fun k e e2 => by have := v2b k e; have := hSx k e2; omega)
    have hB := hB.trans (hCb.to_below (fun k e => by have := hSx k e; omega) (by omega))
    rw [pad_64 l64] at hDb
    have hDb : DiskAt wb (gro Sx wa wb) A1 ⟨l1, mixS l1 l2 (z + 1), wtsS l2 (z + 1)⟩ := by
      rw [wtsS_succ, mixS, ← hb]; exact hDb
    refine Lw.nil ?_
    refine Pw.blkN ?_
    refine Pw.thenN (Cw.out ?_)
    refine Cw.region ?_
    refine Lw.val (Ex.move rfl) rfl ?_
    refine Lw.val (Ex.addI rfl rfl (by omega)) rfl ?_
    refine Lw.val (Ex.assign rfl) rfl ?_
    refine Lw.nil ?_
    exact Pw.thenN (Pw.next (z + 1) ⟨rfl, rfl, rfl, rfl, rfl, rfl, rfl, trivial⟩ (⟨by omega, hB, by omega, hL, o_v2, _, fun k e => e.elim (hSx k) (fun e => .inr (by omega)), hDb⟩) (by omega))
  intro g
  have hz' : z = 599 := by have := of_decide_eq_false g; omega
  subst hz'
  have t1 := tear_first kp tn.toInt on1 on2 (by omega) hag 599 (by omega)
  have t2on := mix_on on1 on2 (by omega) hag 599 (by omega)
  have t3on := mix_all on1 on2 (by omega) 599 (by omega)
  have t4 := tear_count kp tn.toInt t2on on2
  have lm : (mixS l1 l2 599).length = 600 := by rw [mixS_len]; exact ll1
  have lf : (failL kp tn.toInt l1 (wtsS l2 599)).length = 600 := by rw [failL_len']; exact ll1
  obtain ⟨M, hM⟩ : ∃ M, M = mixS l1 l2 599 := ⟨_, rfl⟩
  obtain ⟨F, hF⟩ : ∃ F, F = failL kp tn.toInt l1 (wtsS l2 599) := ⟨_, rfl⟩
  rw [← hM] at t2on t3on t4 lm hDx
  rw [← hF] at t1 lf
  have hfl := fail_c A1 Sx ⟨l1, M, wtsS l2 599⟩ kp tn.toInt w hDx
  rw [show failL kp tn.toInt (⟨l1, M, wtsS l2 599⟩ : Dsk).sure (⟨l1, M, wtsS l2 599⟩ : Dsk).waits = F from hF.symm] at hfl
  refine Cw.exit ?_
  refine Pw.thenE ?_
  refine Pw.thenE ?_
  refine Pw.blkHit ?_
  refine Pw.thenN (Cw.out ?_)
  refine Cw.seq ?_
  refine Cw.region ?_
  refine Lw.val (Ex.move rfl) rfl ?_
  refine Lw.val (Ex.move rfl) rfl ?_
  refine Lw.val (Ex.move rfl) rfl ?_
  refine Lw.val (Ex.convI64 us_44 un_3 rfl (i8_bd tn)) rfl ?_
  refine Lw.callF rfl rfl (hfl) ?_
  rintro _ wc ⟨hnc, A2, rfl, hD2⟩
  have zc := hnc.size
  have hL := hL.bs hnc
  have o_v2 := own_bs o_v2 hnc
  have hDx := hDx.bs hnc
  have hB := hB.trans (hnc.mono (by omega))
  refine Lw.val (Ex.move rfl) rfl ?_
  refine Lw.val (Ex.extract (i := 0) rfl rfl) rfl ?_
  refine Lw.val (Ex.extract (i := 1) rfl rfl) rfl ?_
  refine Lw.val (Ex.assign rfl) rfl ?_
  refine Lw.val (Ex.assign rfl) rfl ?_
  refine Lw.nil ?_
  refine Pw.thenN (Cw.out ?_)
  refine Cw.seq ?_
  refine Cw.region ?_
  refine Lw.val (Ex.move rfl) rfl ?_
  refine Lw.callF rfl rfl (open1_c A2 _ F (nums2 ps) wc hD2 t1 (by omega)) ?_
  rintro _ wd ⟨hnd, L2, rfl, hL2⟩
  have zd := hnd.size
  have hL := hL.bs hnd
  have o_v2 := own_bs o_v2 hnd
  have hDx := hDx.bs hnd
  have hB := hB.trans (hnd.mono (by omega))
  refine Lw.val (Ex.move rfl) rfl ?_
  refine Lw.val (Ex.extract (i := 0) rfl rfl) rfl ?_
  refine Lw.val (Ex.extract (i := 1) rfl rfl) rfl ?_
  refine Lw.val (Ex.assign rfl) rfl ?_
  refine Lw.val (Ex.assign rfl) rfl ?_
  refine Lw.nil ?_
  refine Pw.thenN (Cw.out ?_)
  refine Cw.seq ?_
  refine Cw.seq ?_
  refine Cw.region ?_
  refine Lw.val (Ex.move rfl) rfl ?_
  refine Lw.val (Ex.neq rfl rfl) rfl ?_
  refine Lw.val (Ex.move rfl) rfl ?_
  refine Lw.know 111 (v' := .bool false) rfl (congrArg Value.bool (rfl)) ?_
  refine Lw.take (dj := 111) rfl rfl ?_
  refine Lw.val (Ex.move rfl) rfl ?_
  refine Lw.take (dj := 111) rfl rfl ?_
  refine Lw.val (Ex.neq rfl rfl) rfl ?_
  refine Lw.val (Ex.pickF rfl rfl) rfl ?_
  refine Lw.val (Ex.move rfl) rfl ?_
  refine Lw.know 115 (v' := .bool false) rfl (congrArg Value.bool (rfl)) ?_
  refine Lw.take (dj := 115) rfl rfl ?_
  refine Lw.val (Ex.move rfl) rfl ?_
  refine Lw.take (dj := 115) rfl rfl ?_
  refine Lw.val (Ex.move rfl) rfl ?_
  refine Lw.take (dj := 115) rfl rfl ?_
  refine Lw.callF rfl rfl (told_c L2 A2 _ F _ v ps wd hL2 (h.bs hB)) ?_
  rintro _ we ⟨rfl, hne⟩
  rw [decide_eq_true (rfl : nums2 ps = nums2 ps)]
  have ze := hne.size
  have hL := hL.bs hne
  have o_v2 := own_bs o_v2 hne
  have hDx := hDx.bs hne
  have hB := hB.trans (hne.mono (by omega))
  refine Lw.take (dj := 115) rfl rfl ?_
  refine Lw.val (Ex.not rfl) rfl ?_
  refine Lw.val (Ex.pickF rfl rfl) rfl ?_
  refine Lw.nil ?_
  refine Pw.thenN (Cw.out ?_)
  refine Cw.condB rfl false (rfl) ?_
  refine Cw.skip ?_
  refine Pw.thenN (Cw.out ?_)
  refine Cw.seq ?_
  refine Cw.region ?_
  refine Lw.val (Ex.move rfl) rfl ?_
  refine Lw.callF rfl rfl (sync_c A1 Sx ⟨l1, M, wtsS l2 599⟩ we hDx) ?_
  rintro _ wf ⟨rfl, hCf, hDx⟩
  have zf := hCf.size
  have hL := hL.chg hCf (fun k e e2 => by have := hS0 k e; have := hSx k e2; omega)
  have o_v2 := own_chg o_v2 hCf (fun k e e2 => by have := v2b k e; have := hSx k e2; omega)
  have hB := hB.trans (hCf.to_below (fun k e => by have := hSx k e; omega) (by omega))
  obtain ⟨Sy, hSy, hDx⟩ : ∃ Sy, (∀ b, Sy b → (w6.heap.size ≤ b ∧ b < w7.heap.size) ∨ w9.heap.size ≤ b) ∧ DiskAt wf Sy A1 ⟨M, M, []⟩ := ⟨_, fun k e => e.elim (hSx k) (fun e => .inr (by omega)), hDx⟩
  obtain ⟨b, hb⟩ : ∃ b, b = l2.getD 0 [] := ⟨_, rfl⟩
  have eb : l2[0]'(by omega) = b := by rw [hb, List.getD_eq_getElem?_getD, List.getElem?_eq_getElem (by omega)]; rfl
  have l64 : b.length = 64 := by rw [← eb]; exact on2.s64 _ (List.getElem_mem _)
  refine Lw.nil ?_
  refine Pw.thenN (Cw.out ?_)
  refine Cw.seq ?_
  refine Cw.region ?_
  refine Lw.val (Ex.move rfl) rfl ?_
  refine Lw.callF rfl rfl (read_c A S0 ⟨l2, l2, []⟩ 0 wf hL.log.disk (show 0 < l2.length by omega)) ?_
  rintro _ wg ⟨hng, x, rfl, hxr⟩
  have zg := hng.size
  rw [show (⟨l2, l2, []⟩ : Dsk).seen[0]'(show 0 < l2.length by omega) = b from eb] at hxr
  have s_x : SlT b8 wg x b := by have := hxr.sl; unfold SlT; rwa [l64]
  have o_v2 := own_bs o_v2 hng
  have hDx := hDx.bs hng
  have hB := hB.trans (hng.mono (by omega))
  refine Lw.val (Ex.move rfl) rfl ?_
  refine Lw.val (Ex.extract (i := 0) rfl rfl) rfl ?_
  refine Lw.val (Ex.extract (i := 1) rfl rfl) rfl ?_
  refine Lw.val (Ex.assign rfl) rfl ?_
  refine Lw.val (Ex.assign rfl) rfl ?_
  refine Lw.nil ?_
  refine Pw.thenN (Cw.out ?_)
  refine Cw.seq ?_
  refine Cw.seq ?_
  refine Cw.region ?_
  refine Lw.val (Ex.move rfl) rfl ?_
  refine Lw.val (Ex.move rfl) rfl ?_
  refine Lw.callF rfl rfl (write_c A1 Sy ⟨M, M, []⟩ 0 x b wg hDx s_x (show 0 < M.length by omega) (by omega) (show 0 ≤ 1000000 by omega)) ?_
  rintro _ wh ⟨rfl, hCh, hDx⟩
  have zh := hCh.size
  have o_v2 := own_chg o_v2 hCh (fun k e e2 => by have := v2b k e; have := hSy k e2; omega)
  have hB := hB.trans (hCh.to_below (fun k e => by have := hSy k e; omega) (by omega))
  rw [pad_64 l64, hb] at hDx
  replace hDx : DiskAt wh (gro Sy wg wh) A1 ⟨M, M.set 0 (l2.getD 0 []), [(0, l2.getD 0 [])]⟩ := hDx
  have hfl := fail_c A1 _ ⟨M, M.set 0 (l2.getD 0 []), [(0, l2.getD 0 [])]⟩ kp tn.toInt wh hDx
  refine Lw.val (Ex.neq rfl rfl) rfl ?_
  refine Lw.nil ?_
  refine Pw.thenN (Cw.out ?_)
  refine Cw.condB rfl false (rfl) ?_
  refine Cw.skip ?_
  refine Pw.thenN (Cw.out ?_)
  refine Cw.seq ?_
  refine Cw.region ?_
  refine Lw.val (Ex.move rfl) rfl ?_
  refine Lw.val (Ex.move rfl) rfl ?_
  refine Lw.val (Ex.move rfl) rfl ?_
  refine Lw.val (Ex.convI64 us_44 un_3 rfl (i8_bd tn)) rfl ?_
  refine Lw.callF rfl rfl (hfl) ?_
  rintro _ wi ⟨hni, A3, rfl, hD3⟩
  have zi := hni.size
  have o_v2 := own_bs o_v2 hni
  have hB := hB.trans (hni.mono (by omega))
  obtain ⟨F2, hF2⟩ : ∃ F2, F2 = failL kp tn.toInt M [(0, l2.getD 0 [])] := ⟨_, rfl⟩
  rw [← hF2] at t4
  replace hD3 : DiskAt wi (fun b => wh.heap.size ≤ b ∧ b < wi.heap.size) A3 ⟨F2, F2, []⟩ := by rw [hF2]; exact hD3
  obtain ⟨rs, hrs, onF⟩ : ∃ rs, (rs = nums2 ps ∨ rs = nums2 ps ++ [xs]) ∧ OnDisk F2 rs := by
    rcases t4 with e | e
    · exact ⟨_, .inl rfl, e ▸ t2on⟩
    · exact ⟨_, .inr rfl, e ▸ t3on⟩
  have lF2 : F2.length = 600 := by rw [hF2, failL_len']; exact lm
  refine Lw.val (Ex.move rfl) rfl ?_
  refine Lw.val (Ex.extract (i := 0) rfl rfl) rfl ?_
  refine Lw.val (Ex.extract (i := 1) rfl rfl) rfl ?_
  refine Lw.val (Ex.assign rfl) rfl ?_
  refine Lw.val (Ex.assign rfl) rfl ?_
  refine Lw.nil ?_
  refine Pw.thenN (Cw.out ?_)
  refine Cw.seq ?_
  refine Cw.region ?_
  refine Lw.val (Ex.move rfl) rfl ?_
  refine Lw.callF rfl rfl (open1_c A3 _ F2 rs wi hD3 onF (by omega)) ?_
  rintro _ wj ⟨hnj, L3, rfl, hL3⟩
  have zj := hnj.size
  have o_v2 := own_bs o_v2 hnj
  have hB := hB.trans (hnj.mono (by omega))
  refine Lw.val (Ex.move rfl) rfl ?_
  refine Lw.val (Ex.extract (i := 0) rfl rfl) rfl ?_
  refine Lw.val (Ex.extract (i := 1) rfl rfl) rfl ?_
  refine Lw.val (Ex.assign rfl) rfl ?_
  refine Lw.val (Ex.assign rfl) rfl ?_
  refine Lw.nil ?_
  refine Pw.thenN (Cw.out ?_)
  refine Cw.seq ?_
  refine Cw.region ?_
  refine Lw.val (Ex.move rfl) rfl ?_
  refine Lw.val (Ex.eql rfl rfl) rfl ?_
  refine Lw.val (Ex.move rfl) rfl ?_
  refine Lw.know 147 (v' := .bool true) rfl (congrArg Value.bool (rfl)) ?_
  refine Lw.take (dj := 147) rfl rfl ?_
  refine Lw.val (Ex.move rfl) rfl ?_
  refine Lw.take (dj := 147) rfl rfl ?_
  refine Lw.val (Ex.eql rfl rfl) rfl ?_
  refine Lw.val (Ex.pickT rfl rfl) rfl ?_
  refine Lw.val (Ex.move rfl) rfl ?_
  refine Lw.know 151 (v' := .bool true) rfl (congrArg Value.bool (rfl)) ?_
  refine Lw.take (dj := 151) rfl rfl ?_
  refine Lw.val (Ex.move rfl) rfl ?_
  refine Lw.take (dj := 151) rfl rfl ?_
  refine Lw.val (Ex.move rfl) rfl ?_
  refine Lw.take (dj := 151) rfl rfl ?_
  refine Lw.callF rfl rfl (told_c L3 A3 _ F2 rs v ps wj hL3 (h.bs hB)) ?_
  rintro _ wk ⟨rfl, hnk⟩
  have zk := hnk.size
  have hL3 := hL3.bs hnk
  have o_v2 := own_bs o_v2 hnk
  have hB := hB.trans (hnk.mono (by omega))
  by_cases e : rs = nums2 ps
  · rw [decide_eq_true e]
    refine Lw.take (dj := 151) rfl rfl ?_
    refine Lw.val (Ex.move rfl) rfl ?_
    refine Lw.know 155 (v' := .bool true) rfl (congrArg Value.bool (rfl)) ?_
    refine Lw.pass (dj := 155) rfl rfl rfl rfl ?_
    refine Lw.pass (dj := 155) rfl rfl rfl rfl ?_
    refine Lw.pass (dj := 155) rfl rfl rfl rfl ?_
    refine Lw.take (dj := 151) rfl rfl ?_
    refine Lw.val (Ex.pickT rfl rfl) rfl ?_
    refine Lw.val (Ex.pickT rfl rfl) rfl ?_
    refine Lw.val (Ex.move rfl) rfl ?_
    refine Lw.take (dj := 161) rfl rfl ?_
    refine Lw.know 161 (v' := .bool true) rfl (congrArg Value.bool (rfl)) ?_
    refine Lw.callF rfl rfl (lives_c wk) ?_
    rintro _ w99 ⟨rfl, hn99⟩
    refine Lw.val (Ex.pickT rfl rfl) rfl ?_
    refine Lw.val (Ex.assign rfl) rfl ?_
    refine Lw.nil ?_
    refine Pw.thenN (Cw.out ?_)
    refine Cw.ret ?_
    refine Pw.ret1 rfl rfl ?_
    exact ⟨rfl, hB.trans (hn99.mono (below_size hB))⟩
  · have e2 := hrs.resolve_left e
    rw [decide_eq_false e]
    have hLL : LL wk v2 (ps ++ qs) := ⟨own_slT o_v2, fun p hp => (List.mem_append.1 hp).elim (fun hp => (h.each p hp).bs hB) (fun hp => (uq p hp).bs hB)⟩
    refine Lw.take (dj := 151) rfl rfl ?_
    refine Lw.val (Ex.move rfl) rfl ?_
    refine Lw.know 155 (v' := .bool false) rfl (congrArg Value.bool (rfl)) ?_
    refine Lw.take (dj := 155) rfl rfl ?_
    refine Lw.val (Ex.move rfl) rfl ?_
    refine Lw.take (dj := 155) rfl rfl ?_
    refine Lw.val (Ex.move rfl) rfl ?_
    refine Lw.take (dj := 155) rfl rfl ?_
    refine Lw.callF rfl rfl (told_c L3 A3 _ F2 rs v2 (ps ++ qs) wk hL3 hLL) ?_
    rintro _ wl ⟨rfl, hnl⟩
    have hB := hB.trans (hnl.mono (below_size hB))
    rw [decide_eq_true (show rs = nums2 (ps ++ qs) by rw [nums2_app, nqs]; exact e2)]
    refine Lw.take (dj := 151) rfl rfl ?_
    refine Lw.val (Ex.pickF rfl rfl) rfl ?_
    refine Lw.val (Ex.pickT rfl rfl) rfl ?_
    refine Lw.val (Ex.move rfl) rfl ?_
    refine Lw.know 161 (v' := .bool true) rfl (congrArg Value.bool (rfl)) ?_
    refine Lw.take (dj := 161) rfl rfl ?_
    refine Lw.callF rfl rfl (lives_c wl) ?_
    rintro _ w99 ⟨rfl, hn99⟩
    refine Lw.val (Ex.pickT rfl rfl) rfl ?_
    refine Lw.val (Ex.assign rfl) rfl ?_
    refine Lw.nil ?_
    refine Pw.thenN (Cw.out ?_)
    refine Cw.ret ?_
    refine Pw.ret1 rfl rfl ?_
    exact ⟨rfl, hB.trans (hn99.mono (below_size hB))⟩

set_option maxRecDepth 100000 in
set_option maxHeartbeats 2000000 in
theorem outlogsTorn_lifted (os : Os) (started : os.Started) (H : Type) (enc : TypeId × Value → H) :
    ReturnsInHanded {} Try.checked os 5 .any (Rows.outlogsTornSpec.pre6 enc Try.prog Try.f5 Rows.outlogsTornRow.domain false) (Rows.outlogsTornSpec.post enc Try.prog Try.f5 false true false false) := by
  refine returnsInHanded_of_change_sized (C := Try.checked) own started (by kernel_rfl) Try.func5
    (ChangeSpec.witness6 (enc := enc) (C := Try.checked) false ⟨#[], #[.agg #[.slice none 0 0, .slice none 0 0, .int .u64 0, .int .i8 0]], []⟩ 8 (by kernel_rfl) (by kernel_rfl) (by kernel_rfl) (by kernel_rfl)) ?_
  intro W base args ds gs before hval0 hW hcnd hsz0 _
  have hval : ∀ (j : Nat) t v, Try.f5.params[j]? = some t → args[j]? = some v → Value.okWide Try.prog W .any base t v := hval0
  have hW' := hW
  obtain ⟨p, q, hA0, hV, rfl, hfz, hnd⟩ := hW
  have hA : DataW.TrodAll enc Try.prog W 0 (fun _ => true) true Try.f5.params.toList args.toList ds p := hA0
  have hsz : (DataW.weightsEach Try.prog (Try.f5.params.toList ++ Rows.outlogsTornSpec.plain.varTypes Try.prog) (ds ++ gs)).all (· ≤ reachBytes) = true := hsz0
  rw [Try.params5] at hA hval hsz
  obtain ⟨v0, vs0, d0, ds0, p0, q0, hargs, rfl, rfl, h0, r0⟩ := trodAll_cons hA
  obtain ⟨rfl, rfl, rfl⟩ := trodAll_nil r0
  obtain rfl : args = #[v0] := by cases args; simp_all
  obtain ⟨rfl, rfl⟩ := trodVars_none hV
  have k0 := h0
  have lt0 : ∀ x ∈ p0, x.block < W.heap.size := by obtain ⟨m, hm⟩ := k0; exact DataW.trod_lt m _ _ _ hm
  have i0 := in_of (j := 0) (t := 52) hsz rfl rfl h0
  have o0 := hval 0 52 v0 rfl rfl
  clear hA0 hval0 hsz0 hsz
  obtain ⟨cs, rfl, hin⟩ := arg_struct Try.underlying52 o0 i0
  obtain ⟨hlen, hel⟩ := hin.struct Try.underlying52
  have c5 : Try.prog.cellsOf 52 = 4 := by kernel_rfl
  have c1 : Try.prog.cellsOf 22 = 1 := by kernel_rfl
  have c2 : Try.prog.cellsOf 34 = 1 := by kernel_rfl
  have c3 : Try.prog.cellsOf 43 = 1 := by kernel_rfl
  have c4 : Try.prog.cellsOf 44 = 1 := by kernel_rfl
  rw [c5] at hlen
  obtain ⟨u0, u1, u2, u3, rfl⟩ := tfour_of hlen
  obtain ⟨a, ps, e0, hl, hm⟩ := in_ll (hel 0 _ rfl)
  obtain ⟨b, xs, e1, hl2, -⟩ := (hel 1 _ rfl).slT un_34 (by kernel_rfl) (fun cs h => In.num (BitVec.ofInt 32) i32 (fun _ h => wf_i32 h) un_21 h)
  obtain ⟨kp, e3⟩ := In.num (BitVec.ofInt 64) u64 (fun _ h => wf_u64 h) un_43 (hel 2 _ rfl)
  obtain ⟨tn, e4⟩ := In.num (BitVec.ofInt 8) i8v (fun _ h => wf_i8 h) un_44 (hel 3 _ rfl)
  simp [c1, c2, c3, c4] at e0 e1 e3 e4
  subst e0 e1 e3 e4
  refine (law_calls (outlogsTorn_w u0 u1 ps xs kp tn W hl hl2 hm)).mono fun e W' ⟨he, bel⟩ => ?_
  subst he
  exact ⟨_, rfl, _, _, _, [], _, [], hW', trodAll_mk1 (shut_bool un_4 _), (trodAll_cons_mk (Below.trod laidOut (by kernel_rfl) (of_decide_eq_true (by kernel_rfl)) k0 bel lt0) trodAll_mk0), rfl, bel.frame _, fun h => by cases h⟩

/-- The statement. -/
theorem outlogsTorn_proved : Rows.OutlogsTornSaid :=
  OpenClaim.holds_of_wide 5 Try.f5 rfl rfl rfl rfl rfl rfl rfl ⟨rfl, rfl, rfl, rfl, rfl⟩ rfl rfl rfl rfl rfl (by kernel_rfl) Try.func5 (by kernel_rfl)
    (of_decide_eq_true (by kernel_rfl)) (by unfold Func.isWrapper; first | (rw [if_pos (by decide +kernel)]; kernel_rfl) | (rw [if_neg (by decide +kernel)]; exact ⟨rfl, rfl⟩))
    (fun os started H enc _ => outlogsTorn_lifted os started H enc)
#print axioms outlogsTorn_proved
end Go.Proofs.Ytiaojbbgjlpikaa
