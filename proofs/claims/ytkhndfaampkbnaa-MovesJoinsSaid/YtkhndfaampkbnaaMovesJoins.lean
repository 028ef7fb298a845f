/- Joined one after another, or all at once: the same; sums along the direction go with it: for any tensors, any direction; no condition. -/
import Derived.Test.YtkhndfaampkbnaaMovesArg
namespace Go.Proofs.Ytkhndfaampkbnaa
open Go Go.Dd Go.RowKit Go.ChangeShapes Go.WideShapes Go.ChangeAt

theorem idxG {P : Program} {n : Nat} {E : List (Nat × Value)} {w : World} {t e ty : TypeId} {x y : Operand} {v : Value} {sz c : Nat} {k : IntKind} {m : Int} (hu : STy P t e sz) (hx : ev E x = some v) (hy : ev E y = some (.int k m)) (h : Shp v c) (j : Nat) (hm : m = (j : Int)) (hj : j < c) :
    Ex P n E (.indexAddr t x y) ty w (elemPtr v (j * sz)) := fun a ha _ _ _ _ => by
  obtain ⟨ao, cap, rfl, hc, _, hn⟩ := h
  subst hm
  cases ao with
  | none => have := hn rfl; omega
  | some ad =>
    have h1 : (0 : Int) ≤ (j : Int) ∧ (j : Int) < (c : Int) := by omega
    simp [execOp, ha.ev hx, ha.ev hy, Instr.indexAt, asIntOf, run_underlying hu.u, h1, hj, hu.s w, elemPtr]
set_option maxHeartbeats 2000000 in
theorem movesJoins_w (v : Value) (ts : List T4) (d : BitVec 8) (W : World) (h : Tens W v ts) (f : ∀ t ∈ ts, few t) :
    Fnc Try.prog 6 [v, b8 d] W (fun r w' => r = .bool true ∧ Below W.heap.size W w') := by
  have hB := Below.refl W.heap.size W
  have hv := h.1
  refine Fnc.enter (n := 148) Try.func6 (by kernel_rfl) rfl rfl rfl ?_
  refine Cw.seq ?_
  refine Cw.region ?_
  refine Lw.val (Ex.assign rfl) rfl ?_
  refine Lw.nil ?_
  refine Pw.thenN (Cw.out ?_)
  refine Cw.seq ?_
  refine Cw.seq ?_
  refine Cw.region ?_
  refine Lw.callF rfl rfl (alive_c _) ?_
  rintro _ w ⟨rfl, hn⟩
  replace hB := hB.bs hn
  replace h := h.bs hn
  replace hv := hv.bs hn
  clear hn
  refine Lw.val (Ex.not rfl) rfl ?_
  refine Lw.val (Ex.move rfl) rfl ?_
  refine Lw.know 20 (v' := .bool false) rfl (congrArg Value.bool (rfl)) ?_
  refine Lw.take (dj := 20) rfl rfl ?_
  refine Lw.val (Ex.move rfl) rfl ?_
  refine Lw.take (dj := 20) rfl rfl ?_
  refine Lw.val (Ex.lenS st_35 rfl (by assumption)) rfl ?_
  refine Lw.take (dj := 20) rfl rfl ?_
  refine Lw.val (Ex.gtr rfl rfl) rfl ?_
  refine Lw.val (Ex.pickF rfl rfl) rfl ?_
  refine Lw.val (Ex.move rfl) rfl ?_
  refine Lw.part 25 rfl ?_ ?_
  · intro _
    refine Lw.pass (dj := 25) rfl rfl rfl rfl ?_
    refine Lw.pass (dj := 25) rfl rfl rfl rfl ?_
    refine Lw.pass (dj := 25) rfl rfl rfl rfl ?_
    refine Lw.val (Ex.pickT rfl rfl) rfl ?_
    refine Lw.val (Ex.move rfl) rfl ?_
    refine Lw.pass (dj := 30) rfl rfl rfl rfl ?_
    refine Lw.pass (dj := 30) rfl rfl rfl rfl ?_
    refine Lw.pass (dj := 30) rfl rfl rfl rfl ?_
    refine Lw.pass (dj := 30) rfl rfl rfl rfl ?_
    refine Lw.pass (dj := 30) rfl rfl rfl rfl ?_
    refine Lw.val (Ex.pickT rfl rfl) rfl ?_
    refine Lw.nil ?_
    refine Pw.thenN (Cw.out ?_)
    refine Cw.condT rfl ?_
    refine Cw.seq ?_
    refine Cw.region ?_
    refine Lw.callF rfl rfl (alive_c _) ?_
    rintro _ w ⟨rfl, hn⟩
    replace hB := hB.bs hn
    replace h := h.bs hn
    replace hv := hv.bs hn
    clear hn
    refine Lw.val (Ex.assign rfl) rfl ?_
    refine Lw.nil ?_
    refine Pw.thenN (Cw.out ?_)
    refine Cw.ret ?_
    refine Pw.thenR ?_
    refine Pw.ret1 rfl rfl ?_
    exact ⟨rfl, hB⟩
  intro g1
  have g1 : ts.length ≤ 3 := by have := of_decide_eq_false g1; omega
  refine Lw.take (dj := 25) rfl rfl ?_
  refine Lw.val (Ex.move rfl) rfl ?_
  refine Lw.take (dj := 25) rfl rfl ?_
  refine Lw.val (Ex.lenS st_35 rfl (by assumption)) rfl ?_
  refine Lw.take (dj := 25) rfl rfl ?_
  refine Lw.val (Ex.eql rfl rfl) rfl ?_
  refine Lw.val (Ex.pickF rfl rfl) rfl ?_
  refine Lw.val (Ex.move rfl) rfl ?_
  refine Lw.part 30 rfl ?_ ?_
  · intro _
    refine Lw.pass (dj := 30) rfl rfl rfl rfl ?_
    refine Lw.pass (dj := 30) rfl rfl rfl rfl ?_
    refine Lw.pass (dj := 30) rfl rfl rfl rfl ?_
    refine Lw.pass (dj := 30) rfl rfl rfl rfl ?_
    refine Lw.pass (dj := 30) rfl rfl rfl rfl ?_
    refine Lw.val (Ex.pickT rfl rfl) rfl ?_
    refine Lw.nil ?_
    refine Pw.thenN (Cw.out ?_)
    refine Cw.condT rfl ?_
    refine Cw.seq ?_
    refine Cw.region ?_
    refine Lw.callF rfl rfl (alive_c _) ?_
    rintro _ w ⟨rfl, hn⟩
    replace hB := hB.bs hn
    replace h := h.bs hn
    replace hv := hv.bs hn
    clear hn
    refine Lw.val (Ex.assign rfl) rfl ?_
    refine Lw.nil ?_
    refine Pw.thenN (Cw.out ?_)
    refine Cw.ret ?_
    refine Pw.thenR ?_
    refine Pw.ret1 rfl rfl ?_
    exact ⟨rfl, hB⟩
  intro g2
  have hpos : 0 < ts.length := by have := of_decide_eq_false g2; omega
  clear g2
  obtain ⟨t, e0, m0, c1, c2⟩ := tens_at hpos
  have h_t := h.2 t m0
  have hvs := h.slice hpos
  have es := s0T_at hpos e0
  refine Lw.take (dj := 30) rfl rfl ?_
  refine Lw.val (Ex.move rfl) rfl ?_
  refine Lw.take (dj := 30) rfl rfl ?_
  refine Lw.val (Ex.idx st_35 rfl rfl hv 0 rfl hpos) rfl ?_
  refine Lw.take (dj := 30) rfl rfl ?_
  refine Lw.val (Ex.ldE (cs := [t.x, t.y]) (ag_25 _) (sz_25 _) rfl hv rfl (by decide) (two_cells c1 c2)) rfl ?_
  refine Lw.take (dj := 30) rfl rfl ?_
  refine Lw.callF rfl rfl (small_c t _ h_t (f t m0)) ?_
  rintro _ w ⟨rfl, hn⟩
  replace hB := hB.bs hn
  replace h := h.bs hn
  replace hv := hv.bs hn
  replace h_t := h_t.bs hn
  clear hn
  refine Lw.take (dj := 30) rfl rfl ?_
  refine Lw.val (Ex.not rfl) rfl ?_
  refine Lw.val (Ex.pickF rfl rfl) rfl ?_
  refine Lw.nil ?_
  refine Pw.thenN (Cw.out ?_)
  refine Cw.cond rfl ?_ ?_
  · intro _
    refine Cw.seq ?_
    refine Cw.region ?_
    refine Lw.callF rfl rfl (alive_c _) ?_
    rintro _ w ⟨rfl, hn⟩
    replace hB := hB.bs hn
    replace h := h.bs hn
    replace hv := hv.bs hn
    replace h_t := h_t.bs hn
    clear hn
    refine Lw.val (Ex.assign rfl) rfl ?_
    refine Lw.nil ?_
    refine Pw.thenN (Cw.out ?_)
    refine Cw.ret ?_
    refine Pw.thenR ?_
    refine Pw.ret1 rfl rfl ?_
    exact ⟨rfl, hB⟩
  intro g3
  have t_t : tok t.s t.l = true := (sml_ok (by simpa using g3)).1
  clear g3 f
  have S := (Shapes.ok_iff t.s).1 (tok_ok t_t).1
  have hn0 : 1 ≤ t.s.length := by omega
  obtain ⟨k, hk⟩ : ∃ k, k = d.toNat % t.s.length := ⟨_, rfl⟩
  have hkl : k < t.s.length := by rw [hk]; exact Nat.mod_lt _ hn0
  have h_t1 := h_t.1
  refine Cw.skip ?_
  refine Pw.thenN (Cw.out ?_)
  refine Cw.seq ?_
  refine Cw.region ?_
  refine Lw.val (Ex.move rfl) rfl ?_
  refine Lw.val (Ex.conv8_I us_5 un_3 rfl) rfl ?_
  refine Lw.val (Ex.move rfl) rfl ?_
  refine Lw.val (Ex.idx st_35 rfl rfl hv 0 rfl hpos) rfl ?_
  refine Lw.val (Ex.fieldAddrE Try.underlying25 rfl (sz_22 _) rfl hvs) rfl ?_
  refine Lw.val (Ex.ld (ag_22 _) rfl hv c1) rfl ?_
  refine Lw.val (Ex.lenS st_22 rfl (by assumption)) rfl ?_
  refine Lw.val ((Ex.remN rfl rfl hn0).as (congrArg (fun x : Nat => Value.int .i64 (x : Int)) hk.symm)) rfl ?_
  refine Lw.val (Ex.assign rfl) rfl ?_
  refine Lw.nil ?_
  refine Pw.thenN (Cw.out ?_)
  refine Cw.seq ?_
  refine Cw.region ?_
  refine Lw.val (Ex.move rfl) rfl ?_
  refine Lw.val (Ex.cutH (j := 1) st_35 rfl rfl hv hpos) rfl ?_
  refine Lw.val (Ex.move rfl) rfl ?_
  obtain ⟨J1, S1, L1⟩ := jo_one t_t hkl
  have e_1 : jnE [t] (k : Int) = 0 := jnE_iff.2 J1
  have hv1 : Tens w (cut v 2 0 1) [t] := ⟨by
    have := Sl.cut hv (Nat.zero_le 1) hpos
    have e : ((cellsOf ts).drop (0 * 2)).take ((1 - 0) * 2) = cellsOf [t] := by
      match ts, hpos, e0 with
      | a :: _, _, e0 => rw [e0]; rfl
    rw [e] at this
    exact this, fun u hu => by rw [List.mem_singleton.1 hu]; exact h_t⟩
  refine Lw.callF rfl rfl (mjoin_g (cut v 2 0 1) [t] (k : Int) w hv1) ?_
  rintro r w ⟨hn, one, rfl, h_one, -, hz⟩
  rw [e_1]
  obtain ⟨s_one, l_one⟩ := hz e_1
  rw [Int.toNat_natCast] at s_one l_one
  rw [S1] at s_one
  rw [L1] at l_one
  clear hz hv1
  replace hB := hB.bs hn
  replace h := h.bs hn
  replace hv := hv.bs hn
  replace h_t := h_t.bs hn
  replace h_t1 := h_t1.bs hn
  clear hn
  refine Lw.val (Ex.move rfl) rfl ?_
  refine Lw.val (Ex.extract (i := 0) rfl rfl) rfl ?_
  refine Lw.val (Ex.extract (i := 1) rfl rfl) rfl ?_
  refine Lw.boxed (cs := [one.x, one.y]) it_25 rfl rfl rfl rfl (fun _ => rfl) (h_one.one) ?_
  rintro A_one w eA_one b_one hn -
  replace hB := hB.bs hn
  replace h := h.bs hn
  replace hv := hv.bs hn
  replace h_t := h_t.bs hn
  replace h_t1 := h_t1.bs hn
  replace h_one := h_one.bs hn
  clear hn
  refine Lw.val (Ex.assign rfl) rfl ?_
  refine Lw.nil ?_
  refine Pw.thenN (Cw.out ?_)
  refine Cw.seq ?_
  refine Cw.region ?_
  refine Lw.val (Ex.move rfl) rfl ?_
  refine Lw.val (Ex.move rfl) rfl ?_
  refine Lw.callF rfl rfl (mjoin_g v ts (k : Int) _ h) ?_
  rintro r w ⟨hn, all, rfl, h_all, n_all, z_all⟩
  replace hB := hB.bs hn
  replace h := h.bs hn
  replace hv := hv.bs hn
  replace h_t := h_t.bs hn
  replace h_t1 := h_t1.bs hn
  replace h_one := h_one.bs hn
  replace b_one := b_one.bs hn
  clear hn
  refine Lw.val (Ex.move rfl) rfl ?_
  refine Lw.val (Ex.extract (i := 0) rfl rfl) rfl ?_
  refine Lw.val (Ex.extract (i := 1) rfl rfl) rfl ?_
  refine Lw.boxed (cs := [all.x, all.y]) it_25 rfl rfl rfl rfl (fun _ => rfl) (h_all.one) ?_
  rintro A_all w eA_all b_all hn -
  replace hB := hB.bs hn
  replace h := h.bs hn
  replace hv := hv.bs hn
  replace h_t := h_t.bs hn
  replace h_t1 := h_t1.bs hn
  replace h_one := h_one.bs hn
  replace b_one := b_one.bs hn
  replace h_all := h_all.bs hn
  clear hn
  refine Lw.val (Ex.assign rfl) rfl ?_
  refine Lw.nil ?_
  refine Pw.thenN (Cw.out ?_)
  refine Cw.seq ?_
  refine Cw.seq ?_
  have h_all2 := h_all.2
  obtain ⟨E, hE⟩ : ∃ E, E = jnE ts (k : Int) := ⟨_, rfl⟩
  rw [← hE] at z_all n_all ⊢
  refine Cw.tail 5 mixed (by kernel_rfl) ?_
  refine Qw.val (fun w1 hq => Ex.ldA (ag_25 _) (sz_25 _) rfl rfl (Blk.bs (by assumption) hq)) rfl ?_
  refine Qw.val (fun w1 hq => Ex.move rfl) rfl ?_
  refine Qw.val (fun w1 hq => Ex.move rfl) rfl ?_
  refine Qw.val (fun w1 hq => Ex.idx st_35 rfl rfl (Sl.bs hv hq) 0 rfl hpos) rfl ?_
  refine Qw.val (fun w1 hq => Ex.ldE (cs := [t.x, t.y]) (ag_25 _) (sz_25 _) rfl (Sl.bs hv hq) rfl (by decide) (two_cells c1 c2)) rfl ?_
  refine Qw.done (fun w9 hq => ?_)
  replace hB := hB.bs hq
  replace h := h.bs hq
  replace hv := hv.bs hq
  replace h_t := h_t.bs hq
  replace h_t1 := h_t1.bs hq
  replace h_one := h_one.bs hq
  replace b_one := b_one.bs hq
  replace h_all := h_all.bs hq
  replace b_all := b_all.bs hq
  replace h_all2 := h_all2.bs hq
  clear hq
  refine Lw.callF rfl rfl (is9_c one 0 t _ h_one h_t) ?_
  rintro _ w ⟨rfl, hn⟩
  replace hB := hB.bs hn
  replace h := h.bs hn
  replace hv := hv.bs hn
  replace h_t := h_t.bs hn
  replace h_t1 := h_t1.bs hn
  replace h_one := h_one.bs hn
  replace b_one := b_one.bs hn
  replace h_all := h_all.bs hn
  replace b_all := b_all.bs hn
  replace h_all2 := h_all2.bs hn
  clear hn
  refine Lw.val (Ex.not rfl) rfl ?_
  refine Lw.nil ?_
  refine Pw.thenN (Cw.out ?_)
  refine Cw.condB rfl false ((by rw [s_one, l_one]; simp)) ?_
  refine Cw.skip ?_
  refine Pw.thenN (Cw.out ?_)
  refine Cw.seq ?_
  refine Cw.seq ?_
  refine Cw.region ?_
  refine Lw.val (Ex.move rfl) rfl ?_
  refine Lw.val (Ex.neq rfl rfl) rfl ?_
  refine Lw.nil ?_
  refine Pw.thenN (Cw.out ?_)
  refine Cw.cond rfl ?_ ?_
  · intro g
    have g : E ≠ 0 := by simpa using g
    have l_a : all.l = [] := (n_all g).2
    refine Cw.seq ?_
    refine Cw.region ?_
    refine Lw.val (Ex.move rfl) rfl ?_
    refine Lw.val (Ex.eql rfl rfl) rfl ?_
    refine Lw.val (Ex.move rfl) rfl ?_
    refine Lw.part 70 rfl ?_ ?_
    · intro g2
      refine Lw.pass (dj := 70) rfl rfl rfl rfl ?_
      refine Lw.pass (dj := 70) rfl rfl rfl rfl ?_
      refine Lw.val (Ex.pickT rfl rfl) rfl ?_
      refine Lw.val (Ex.move rfl) rfl ?_
      refine Lw.take (dj := 74) rfl rfl ?_
      refine Lw.val (Ex.fieldAddr (q := 0) Try.underlying25 rfl (sz_23 _) rfl) rfl ?_
      refine Lw.take (dj := 74) rfl rfl ?_
      refine Lw.val (Ex.ldB (ag_23 _) rfl (by assumption) rfl) rfl ?_
      refine Lw.take (dj := 74) rfl rfl ?_
      refine Lw.val (Ex.lenS st_23 rfl (by assumption)) rfl ?_
      refine Lw.take (dj := 74) rfl rfl ?_
      refine Lw.val (Ex.eql rfl rfl) rfl ?_
      refine Lw.val (Ex.pickT rfl rfl) rfl ?_
      refine Lw.val (Ex.assign rfl) rfl ?_
      refine Lw.nil ?_
      refine Pw.thenN (Cw.out ?_)
      refine Cw.ret ?_
      refine Pw.thenR ?_
      refine Pw.ret1 rfl rfl ?_
      exact ⟨by simp [l_a], hB⟩
    intro g2
    have g2 : E ≠ 1 := by simpa using g2
    have g3 : E = 10 := by
      rcases jnE_cases ts (k : Int) with h | h | h <;> omega
    refine Lw.take (dj := 70) rfl rfl ?_
    refine Lw.val (Ex.move rfl) rfl ?_
    refine Lw.take (dj := 70) rfl rfl ?_
    refine Lw.val (Ex.eql rfl rfl) rfl ?_
    refine Lw.val (Ex.pickF rfl rfl) rfl ?_
    refine Lw.val (Ex.move rfl) rfl ?_
    refine Lw.know 74 (v' := .bool true) rfl (congrArg Value.bool ((decide_eq_true g3))) ?_
    refine Lw.take (dj := 74) rfl rfl ?_
    refine Lw.val (Ex.fieldAddr (q := 0) Try.underlying25 rfl (sz_23 _) rfl) rfl ?_
    refine Lw.take (dj := 74) rfl rfl ?_
    refine Lw.val (Ex.ldB (ag_23 _) rfl (by assumption) rfl) rfl ?_
    refine Lw.take (dj := 74) rfl rfl ?_
    refine Lw.val (Ex.lenS st_23 rfl (by assumption)) rfl ?_
    refine Lw.take (dj := 74) rfl rfl ?_
    refine Lw.val (Ex.eql rfl rfl) rfl ?_
    refine Lw.val (Ex.pickT rfl rfl) rfl ?_
    refine Lw.val (Ex.assign rfl) rfl ?_
    refine Lw.nil ?_
    refine Pw.thenN (Cw.out ?_)
    refine Cw.ret ?_
    refine Pw.thenR ?_
    refine Pw.ret1 rfl rfl ?_
    exact ⟨by simp [l_a], hB⟩
  intro g
  have g : E = 0 := by simpa using g
  obtain ⟨s_all, l_all⟩ := z_all g
  rw [Int.toNat_natCast] at s_all l_all
  have J := jnE_iff.1 (hE.symm.trans g)
  rw [es] at J
  clear z_all n_all
  refine Cw.skip ?_
  refine Pw.thenN (Cw.out ?_)
  refine Cw.seq ?_
  refine Cw.region ?_
  refine Lw.val (Ex.move rfl) rfl ?_
  refine Lw.val (Ex.idx st_35 rfl rfl hv 0 rfl hpos) rfl ?_
  refine Lw.val (Ex.ldE (cs := [t.x, t.y]) (ag_25 _) (sz_25 _) rfl hv rfl (by decide) (two_cells c1 c2)) rfl ?_
  refine Lw.boxed (cs := [t.x, t.y]) it_25 rfl rfl rfl rfl (fun _ => rfl) (h_t.one) ?_
  rintro A_s w8 eA_s b_s hn8 zhn8
  have hv8 := hv.bs hn8
  have h_t8 := h_t.bs hn8
  have zs8 := hn8.size
  refine Lw.nil ?_
  refine Pw.thenN (Cw.out ?_)
  refine Cw.seq ?_
  refine Cw.region ?_
  refine Lw.val (Ex.move rfl) rfl ?_
  refine Lw.val (Ex.idx st_35 rfl rfl hv8 0 rfl hpos) rfl ?_
  refine Lw.val (Ex.ldE (cs := [t.x, t.y]) (ag_25 _) (sz_25 _) rfl hv8 rfl (by decide) (two_cells c1 c2)) rfl ?_
  refine Lw.val (Ex.move rfl) rfl ?_
  have e_c := suE_ok t_t hkl
  refine Lw.callF rfl rfl (msum_c t (k : Int) w8 h_t8) ?_
  rintro r w9 ⟨hn9, hr⟩
  rw [e_c, Int.toNat_natCast] at hr
  obtain ⟨c, rfl, h_c, s_c, l_c, o_c⟩ := hr.yes
  have q_s8 := blk_lt b_s
  have zs9 := hn9.size
  have b_s := b_s.bs hn9
  refine Lw.val (Ex.move rfl) rfl ?_
  refine Lw.val (Ex.extract (i := 0) rfl rfl) rfl ?_
  refine Lw.val (Ex.extract (i := 1) rfl rfl) rfl ?_
  refine Lw.boxed (cs := [c.x, c.y]) it_25 rfl rfl rfl rfl (fun _ => rfl) (h_c.one) ?_
  rintro A_m w10 eA_m b_m hn10 zhn10
  have zs10 := hn10.size
  have b_s := b_s.bs hn10
  have h_c10 := h_c.bs hn10
  have hw10 := bt (bt hn8 hn9) hn10
  have oc1 := o_c A_s q_s8
  have oc2 : Off A_m c := off_at h_c (by omega)
  have ot1 : Off A_s t := off_at h_t (by omega)
  have ot2 : Off A_m t := off_at h_t (by omega)
  have hsm : A_s ≠ A_m := by omega
  have hws : w.heap.size ≤ A_s := by omega
  have hwm : w.heap.size ≤ A_m := by omega
  have tk1 : ts.take 1 = [t] := by
    match ts, hpos, e0 with
    | a :: _, _, e0 => rw [e0]; rfl
  have h_t10 := h_t.bs hw10
  clear hn8 hv8 h_t8 hn9 hn10 h_c eA_s eA_m hr o_c zs8 zs9 zs10
  refine Lw.val (Ex.assign rfl) rfl ?_
  refine Lw.nil ?_
  refine Pw.thenN (Cw.out ?_)
  refine Cw.seq ?_
  refine Cw.seq ?_
  refine Cw.region ?_
  refine Lw.val (Ex.assign rfl) rfl ?_
  refine Lw.nil ?_
  refine Pw.thenN (Cw.out ?_)
  refine Cw.block ?_
  refine Cw.loop (S := (Nat × T4 × T4)) (fun z => [(0, v), (5, .int .i64 (k : Int)), (8, .pointer (some ⟨A_all, 0, none⟩)), (10, .pointer (some ⟨A_s, 0, none⟩)), (11, .pointer (some ⟨A_m, 0, none⟩)), (12, .int .i64 0), (13, .int .i64 (z.1 : Int))]) (fun z w' => (1 ≤ z.1 ∧ z.1 ≤ ts.length) ∧ Below w.heap.size w w' ∧ (z.2.1.at w' ∧ Blk w' A_s 25 [z.2.1.x, z.2.1.y] ∧ Off A_m z.2.1) ∧ (z.2.2.at w' ∧ Blk w' A_m 25 [z.2.2.x, z.2.2.y] ∧ Off A_s z.2.2) ∧ (z.2.1.s = jnS (ts.take z.1) k ∧ z.2.1.l = jnL (ts.take z.1) k) ∧ (z.2.2.s = without t.s k ∧ z.2.2.l = suL (jnS (ts.take z.1) k) (jnL (ts.take z.1) k) k)) (fun z => ts.length - z.1) ((1, t, c)) ⟨rfl, rfl, rfl, rfl, rfl, rfl, rfl, trivial⟩ ?_ ?_
  · exact ⟨⟨Nat.le_refl 1, hpos⟩, hw10, ⟨h_t10, b_s, ot2⟩, ⟨h_c10, b_m, oc1⟩, ⟨by rw [tk1, S1], by rw [tk1, L1]⟩, s_c, by rw [tk1, S1, L1]; exact l_c⟩
  clear h_t10 b_s b_m h_c10 hw10 oc1 oc2 ot1 ot2 s_c l_c tk1
  rintro ⟨i, a, b⟩ w11 ⟨⟨hi1, hi⟩, hw, ⟨h_a, b_s, oa⟩, ⟨h_b, b_m, ob⟩, ⟨s_a, l_a⟩, s_b, l_b⟩
  dsimp only at hi1 hi h_a b_s oa h_b b_m ob s_a l_a s_b l_b ⊢
  have zw := hw.size
  have h11 := h.bs hw
  have hv11 := h11.1
  refine Cw.seq ?_
  refine Cw.seq ?_
  refine Cw.region ?_
  refine Lw.val (Ex.move rfl) rfl ?_
  refine Lw.val (Ex.move rfl) rfl ?_
  refine Lw.val (Ex.lenS st_35 rfl (by assumption)) rfl ?_
  refine Lw.val (Ex.lss rfl rfl) rfl ?_
  refine Lw.nil ?_
  refine Pw.thenN (Cw.out ?_)
  refine Cw.cond rfl ?_ ?_
  · intro g
    have hi' : i < ts.length := by have := of_decide_eq_true g; omega
    obtain ⟨u, eu, mu, k1, k2⟩ := tens_at hi'
    have e1 : ts.take (i + 1) = ts.take i ++ [u] := by rw [List.take_succ_eq_append_getElem hi', ← eu]
    have li : (ts.take i).length = i := by rw [List.length_take]; omega
    have JT := J.take (i := i + 1) (by omega) hi'
    rw [e1] at JT
    obtain ⟨J2, e_s, e_l⟩ := jo_two JT (by omega) s_a l_a
    rw [← e1] at e_s e_l
    have e_j : jnE [a, u] (k : Int) = 0 := jnE_iff.2 J2
    have h_u := h11.2 u mu
    have t_u := J.toks u mu
    have ku := (J.dim mu).2.2
    have e_m := suE_ok t_u ku
    refine Cw.skip ?_
    refine Pw.thenN (Cw.out ?_)
    refine Cw.seq ?_
    refine Cw.block ?_
    refine Cw.seq ?_
    refine Cw.any mixed (fun w12 hd _ => ?_)
    have h_a := h_a.bs hd
    have h_b := h_b.bs hd
    have b_s := b_s.bs hd
    have b_m := b_m.bs hd
    have h_u := h_u.bs hd
    have h12 := h11.bs hd
    have hw := bt hw hd
    clear hd
    refine Aw.take (i := 1) (NoP.thn (NoP.blk (NoP.thn (NoP.thn (NoP.blk (NoP.thn NoP.ret)))))) rfl (by kernel_rfl) (by kernel_rfl) (by kernel_rfl) (fun _ => Ex.move rfl) rfl ?_
    refine Aw.take (i := 2) (NoP.thn (NoP.blk (NoP.thn (NoP.thn (NoP.blk (NoP.thn NoP.ret)))))) rfl (by kernel_rfl) (by kernel_rfl) (by kernel_rfl) (fun _ => Ex.move rfl) rfl ?_
    refine Aw.take (i := 3) (NoP.thn (NoP.blk (NoP.thn (NoP.thn (NoP.blk (NoP.thn NoP.ret)))))) rfl (by kernel_rfl) (by kernel_rfl) (by kernel_rfl) (fun _ => idxG st_35 rfl rfl h12.1.shp i rfl hi') rfl ?_
    refine Aw.take (i := 6) (NoP.thn (NoP.blk (NoP.thn (NoP.thn (NoP.blk (NoP.thn NoP.ret)))))) rfl (by kernel_rfl) (by kernel_rfl) (by kernel_rfl) (fun _ => Ex.move rfl) rfl ?_
    refine Aw.two (i := 0) (j := 4) (by kernel_rfl) rfl rfl ?_ ?_
    · refine Lw.val (Ex.ldA (ag_25 _) (sz_25 _) rfl rfl (by assumption)) rfl ?_
      refine Aw.back ?_
      refine Aw.only (i := 4) (by kernel_rfl) rfl ?_
      refine Lw.val (Ex.ldE (cs := [u.x, u.y]) (ag_25 _) (sz_25 _) rfl h12.1 rfl (by decide) (two_cells k1 k2)) rfl ?_
      refine Aw.back ?_
      refine Aw.only (i := 5) (by kernel_rfl) rfl ?_
      refine Lw.valW (Xw.litA (vs := [(0, a.v), (1, u.v)]) (cs := cellsOf [a, u]) st_35 it_25 rfl (by decide) (by decide) (by decide) (by kernel_rfl) rfl) rfl ?_
      rintro y w13 ⟨ho, -, hn, -⟩
      have h_a := h_a.bs hn
      have h_b := h_b.bs hn
      have b_s := b_s.bs hn
      have b_m := b_m.bs hn
      have h_u := h_u.bs hn
      have hw := bt hw hn
      clear hn
      have hT : Tens w13 y [a, u] := ⟨own_sl ho, fun x hx => by
        rcases List.mem_cons.1 hx with rfl | hx
        · exact h_a
        · rw [List.mem_singleton.1 hx]; exact h_u⟩
      refine Aw.back ?_
      refine Aw.only (i := 7) (by kernel_rfl) rfl ?_
      refine Lw.callF rfl rfl (mjoin_c y [a, u] (k : Int) w13 hT) ?_
      rintro r w14 ⟨hn, hr⟩
      rw [e_j, Int.toNat_natCast] at hr
      obtain ⟨c, rfl, h_c, s_c, l_c, o_c⟩ := hr.yes
      have oc := o_c A_m (blk_lt b_m)
      have oc2 := o_c A_s (blk_lt b_s)
      have h_b := h_b.bs hn
      have b_s := b_s.bs hn
      have b_m := b_m.bs hn
      have hw := bt hw hn
      clear hn hr o_c h_a h_u ho
      refine Aw.back ?_
      refine Aw.take (i := 8) (NoP.thn (NoP.blk (NoP.thn (NoP.thn (NoP.blk (NoP.thn NoP.ret)))))) rfl (by kernel_rfl) (by kernel_rfl) (by kernel_rfl) (fun _ => Ex.move rfl) rfl ?_
      refine Aw.take (i := 9) (NoP.thn (NoP.blk (NoP.thn (NoP.thn (NoP.blk (NoP.thn NoP.ret)))))) rfl (by kernel_rfl) (by kernel_rfl) (by kernel_rfl) (fun _ => Ex.extract (i := 0) rfl rfl) rfl ?_
      refine Aw.take (i := 10) (NoP.thn (NoP.blk (NoP.thn (NoP.thn (NoP.blk (NoP.thn NoP.ret)))))) rfl (by kernel_rfl) (by kernel_rfl) (by kernel_rfl) (fun _ => Ex.extract (i := 1) rfl rfl) rfl ?_
      refine Aw.only (i := 11) (by kernel_rfl) rfl ?_
      refine Lw.unit (Xu.stA (cs := [c.x, c.y]) rfl rfl rfl rfl h_c.one b_s rfl) ?_
      rintro w15 ⟨b_s2, hg, -⟩
      have h_c := at_off h_c oc2 hg
      have h_b := at_off h_b ob hg
      have b_m := b_m.by hg (by rintro ⟨⟩; exact hsm rfl)
      have hw := hw.grown hg hw.size (by rintro _ ⟨⟩; exact hws)
      clear b_s hg
      have h15 := h.bs hw
      refine Aw.back ?_
      refine Aw.take (i := 12) (NoP.thn (NoP.blk (NoP.thn (NoP.thn (NoP.blk (NoP.thn NoP.ret)))))) rfl (by kernel_rfl) (by kernel_rfl) (by kernel_rfl) (fun _ => Ex.assign rfl) rfl ?_
      refine Aw.done (by kernel_rfl) ?_
      refine Pw.thenN (Cw.out ?_)
      refine Cw.seq ?_
      refine Cw.region ?_
      refine Lw.val (Ex.move rfl) rfl ?_
      refine Lw.val (Ex.move rfl) rfl ?_
      refine Lw.val (Ex.idx st_35 rfl rfl h15.1 i rfl hi') rfl ?_
      refine Lw.val (Ex.ldE (cs := [u.x, u.y]) (ag_25 _) (sz_25 _) rfl h15.1 rfl (by decide) (two_cells k1 k2)) rfl ?_
      refine Lw.val (Ex.move rfl) rfl ?_
      refine Lw.callF rfl rfl (msum_c u (k : Int) w15 (h15.2 u mu)) ?_
      rintro r w16 ⟨hn, hr⟩
      rw [e_m, Int.toNat_natCast] at hr
      obtain ⟨m, rfl, h_m, s_m, l_m, -⟩ := hr.yes
      have h_c := h_c.bs hn
      have h_b := h_b.bs hn
      have b_s2 := b_s2.bs hn
      have b_m := b_m.bs hn
      have hw := bt hw hn
      clear hn hr h15
      refine Lw.val (Ex.move rfl) rfl ?_
      refine Lw.val (Ex.extract (i := 0) rfl rfl) rfl ?_
      refine Lw.val (Ex.extract (i := 1) rfl rfl) rfl ?_
      refine Lw.boxed (cs := [m.x, m.y]) it_25 rfl rfl rfl rfl (fun _ => rfl) (h_m.one) ?_
      rintro A_e w17 eA_e b_e hn zhn
      have h_c := h_c.bs hn
      have h_b := h_b.bs hn
      have h_m := h_m.bs hn
      have b_s2 := b_s2.bs hn
      have b_m := b_m.bs hn
      have hw := bt hw hn
      clear hn
      refine Lw.val (Ex.assign rfl) rfl ?_
      refine Lw.nil ?_
      refine Pw.thenN (Cw.out ?_)
      refine Cw.seq ?_
      refine Cw.seq ?_
      refine Cw.region ?_
      refine Lw.val (Ex.move rfl) rfl ?_
      refine Lw.val (Ex.neq rfl rfl) rfl ?_
      refine Lw.val (Ex.move rfl) rfl ?_
      refine Lw.know 119 (v' := .bool false) rfl (congrArg Value.bool (rfl)) ?_
      refine Lw.take (dj := 119) rfl rfl ?_
      refine Lw.val (Ex.move rfl) rfl ?_
      refine Lw.take (dj := 119) rfl rfl ?_
      refine Lw.val (Ex.neq rfl rfl) rfl ?_
      refine Lw.val (Ex.pickF rfl rfl) rfl ?_
      refine Lw.nil ?_
      refine Pw.thenN (Cw.out ?_)
      refine Cw.condB rfl false (rfl) ?_
      refine Cw.skip ?_
      refine Pw.thenN (Cw.out ?_)
      refine Cw.region ?_
      refine Lw.val (Ex.ldA (ag_25 _) (sz_25 _) rfl rfl (by assumption)) rfl ?_
      refine Lw.val (Ex.ldA (ag_25 _) (sz_25 _) rfl rfl (by assumption)) rfl ?_
      have et : without u.s k = without t.s k := by rw [J.als u mu, without_set hkl]
      have t_b : tok b.s b.l = true := by
        have JU := J.take (i := i) hi1 hi
        have := su_tok (k := k) JU.jtok (by rw [JU.S, List.length_set]; exact hkl)
        rw [JU.S, without_set hkl, ← JU.S] at this
        rw [s_b, l_b]; exact this
      have t_m : tok m.s m.l = true := by rw [s_m, l_m]; exact su_tok t_u ku
      have e_n := e2_ok t_b t_m (by rw [s_m, s_b, et])
      refine Lw.callF rfl rfl (add_p b m w17 h_b h_m) ?_
      rintro r w18 ⟨hn, hr⟩
      rw [e_n] at hr
      obtain ⟨n, rfl, h_n, s_n, l_n, o_n⟩ := gets_yes hr
      have on := o_n A_m (blk_lt b_m)
      have on2 := o_n A_s (blk_lt b_s2)
      have h_c := h_c.bs hn
      have b_s2 := b_s2.bs hn
      have b_m := b_m.bs hn
      have hw := bt hw hn
      clear hn hr o_n
      refine Lw.val (Ex.move rfl) rfl ?_
      refine Lw.val (Ex.extract (i := 0) rfl rfl) rfl ?_
      refine Lw.val (Ex.extract (i := 1) rfl rfl) rfl ?_
      refine Lw.unit (Xu.stA (cs := [n.x, n.y]) rfl rfl rfl rfl h_n.one b_m rfl) ?_
      rintro w19 ⟨b_m2, hg, -⟩
      have h_c := at_off h_c oc hg
      have h_n := at_off h_n on hg
      have b_s2 := b_s2.by hg (by rintro ⟨⟩; exact hsm rfl)
      have hw := hw.grown hg hw.size (by rintro _ ⟨⟩; exact hwm)
      have l_n2 : n.l = suL (jnS (ts.take (i + 1)) k) (jnL (ts.take (i + 1)) k) k := by rw [e1, jo_sum JT (by omega), l_n, s_b, l_b, l_m]
      refine Lw.val (Ex.assign rfl) rfl ?_
      refine Lw.nil ?_
      refine Pw.blkN ?_
      refine Pw.thenN (Cw.out ?_)
      refine Cw.region ?_
      refine Lw.val (Ex.move rfl) rfl ?_
      refine Lw.val (Ex.addI rfl rfl (by omega)) rfl ?_
      refine Lw.val (Ex.assign rfl) rfl ?_
      refine Lw.nil ?_
      exact Pw.thenN (Pw.next ((i + 1, c, n)) ⟨rfl, rfl, rfl, rfl, rfl, rfl, rfl, trivial⟩ (⟨⟨by show 1 ≤ i + 1; omega, hi'⟩, hw, ⟨h_c, b_s2, oc⟩, ⟨h_n, b_m2, on2⟩, ⟨s_c.trans e_s, l_c.trans e_l⟩, s_n.trans s_b, l_n2⟩) (by simp only; omega))
    · refine Lw.val (Ex.ldE (cs := [u.x, u.y]) (ag_25 _) (sz_25 _) rfl h12.1 rfl (by decide) (two_cells k1 k2)) rfl ?_
      refine Aw.back ?_
      refine Aw.only (i := 0) (by kernel_rfl) rfl ?_
      refine Lw.val (Ex.ldA (ag_25 _) (sz_25 _) rfl rfl (by assumption)) rfl ?_
      refine Aw.back ?_
      refine Aw.only (i := 5) (by kernel_rfl) rfl ?_
      refine Lw.valW (Xw.litA (vs := [(0, a.v), (1, u.v)]) (cs := cellsOf [a, u]) st_35 it_25 rfl (by decide) (by decide) (by decide) (by kernel_rfl) rfl) rfl ?_
      rintro y w13 ⟨ho, -, hn, -⟩
      have h_a := h_a.bs hn
      have h_b := h_b.bs hn
      have b_s := b_s.bs hn
      have b_m := b_m.bs hn
      have h_u := h_u.bs hn
      have hw := bt hw hn
      clear hn
      have hT : Tens w13 y [a, u] := ⟨own_sl ho, fun x hx => by
        rcases List.mem_cons.1 hx with rfl | hx
        · exact h_a
        · rw [List.mem_singleton.1 hx]; exact h_u⟩
      refine Aw.back ?_
      refine Aw.only (i := 7) (by kernel_rfl) rfl ?_
      refine Lw.callF rfl rfl (mjoin_c y [a, u] (k : Int) w13 hT) ?_
      rintro r w14 ⟨hn, hr⟩
      rw [e_j, Int.toNat_natCast] at hr
      obtain ⟨c, rfl, h_c, s_c, l_c, o_c⟩ := hr.yes
      have oc := o_c A_m (blk_lt b_m)
      have oc2 := o_c A_s (blk_lt b_s)
      have h_b := h_b.bs hn
      have b_s := b_s.bs hn
      have b_m := b_m.bs hn
      have hw := bt hw hn
      clear hn hr o_c h_a h_u ho
      refine Aw.back ?_
      refine Aw.take (i := 8) (NoP.thn (NoP.blk (NoP.thn (NoP.thn (NoP.blk (NoP.thn NoP.ret)))))) rfl (by kernel_rfl) (by kernel_rfl) (by kernel_rfl) (fun _ => Ex.move rfl) rfl ?_
      refine Aw.take (i := 9) (NoP.thn (NoP.blk (NoP.thn (NoP.thn (NoP.blk (NoP.thn NoP.ret)))))) rfl (by kernel_rfl) (by kernel_rfl) (by kernel_rfl) (fun _ => Ex.extract (i := 0) rfl rfl) rfl ?_
      refine Aw.take (i := 10) (NoP.thn (NoP.blk (NoP.thn (NoP.thn (NoP.blk (NoP.thn NoP.ret)))))) rfl (by kernel_rfl) (by kernel_rfl) (by kernel_rfl) (fun _ => Ex.extract (i := 1) rfl rfl) rfl ?_
      refine Aw.only (i := 11) (by kernel_rfl) rfl ?_
      refine Lw.unit (Xu.stA (cs := [c.x, c.y]) rfl rfl rfl rfl h_c.one b_s rfl) ?_
      rintro w15 ⟨b_s2, hg, -⟩
      have h_c := at_off h_c oc2 hg
      have h_b := at_off h_b ob hg
      have b_m := b_m.by hg (by rintro ⟨⟩; exact hsm rfl)
      have hw := hw.grown hg hw.size (by rintro _ ⟨⟩; exact hws)
      clear b_s hg
      have h15 := h.bs hw
      refine Aw.back ?_
      refine Aw.take (i := 12) (NoP.thn (NoP.blk (NoP.thn (NoP.thn (NoP.blk (NoP.thn NoP.ret)))))) rfl (by kernel_rfl) (by kernel_rfl) (by kernel_rfl) (fun _ => Ex.assign rfl) rfl ?_
      refine Aw.done (by kernel_rfl) ?_
      refine Pw.thenN (Cw.out ?_)
      refine Cw.seq ?_
      refine Cw.region ?_
      refine Lw.val (Ex.move rfl) rfl ?_
      refine Lw.val (Ex.move rfl) rfl ?_
      refine Lw.val (Ex.idx st_35 rfl rfl h15.1 i rfl hi') rfl ?_
      refine Lw.val (Ex.ldE (cs := [u.x, u.y]) (ag_25 _) (sz_25 _) rfl h15.1 rfl (by decide) (two_cells k1 k2)) rfl ?_
      refine Lw.val (Ex.move rfl) rfl ?_
      refine Lw.callF rfl rfl (msum_c u (k : Int) w15 (h15.2 u mu)) ?_
      rintro r w16 ⟨hn, hr⟩
      rw [e_m, Int.toNat_natCast] at hr
      obtain ⟨m, rfl, h_m, s_m, l_m, -⟩ := hr.yes
      have h_c := h_c.bs hn
      have h_b := h_b.bs hn
      have b_s2 := b_s2.bs hn
      have b_m := b_m.bs hn
      have hw := bt hw hn
      clear hn hr h15
      refine Lw.val (Ex.move rfl) rfl ?_
      refine Lw.val (Ex.extract (i := 0) rfl rfl) rfl ?_
      refine Lw.val (Ex.extract (i := 1) rfl rfl) rfl ?_
      refine Lw.boxed (cs := [m.x, m.y]) it_25 rfl rfl rfl rfl (fun _ => rfl) (h_m.one) ?_
      rintro A_e w17 eA_e b_e hn zhn
      have h_c := h_c.bs hn
      have h_b := h_b.bs hn
      have h_m := h_m.bs hn
      have b_s2 := b_s2.bs hn
      have b_m := b_m.bs hn
      have hw := bt hw hn
      clear hn
      refine Lw.val (Ex.assign rfl) rfl ?_
      refine Lw.nil ?_
      refine Pw.thenN (Cw.out ?_)
      refine Cw.seq ?_
      refine Cw.seq ?_
      refine Cw.region ?_
      refine Lw.val (Ex.move rfl) rfl ?_
      refine Lw.val (Ex.neq rfl rfl) rfl ?_
      refine Lw.val (Ex.move rfl) rfl ?_
      refine Lw.know 119 (v' := .bool false) rfl (congrArg Value.bool (rfl)) ?_
      refine Lw.take (dj := 119) rfl rfl ?_
      refine Lw.val (Ex.move rfl) rfl ?_
      refine Lw.take (dj := 119) rfl rfl ?_
      refine Lw.val (Ex.neq rfl rfl) rfl ?_
      refine Lw.val (Ex.pickF rfl rfl) rfl ?_
      refine Lw.nil ?_
      refine Pw.thenN (Cw.out ?_)
      refine Cw.condB rfl false (rfl) ?_
      refine Cw.skip ?_
      refine Pw.thenN (Cw.out ?_)
      refine Cw.region ?_
      refine Lw.val (Ex.ldA (ag_25 _) (sz_25 _) rfl rfl (by assumption)) rfl ?_
      refine Lw.val (Ex.ldA (ag_25 _) (sz_25 _) rfl rfl (by assumption)) rfl ?_
      have et : without u.s k = without t.s k := by rw [J.als u mu, without_set hkl]
      have t_b : tok b.s b.l = true := by
        have JU := J.take (i := i) hi1 hi
        have := su_tok (k := k) JU.jtok (by rw [JU.S, List.length_set]; exact hkl)
        rw [JU.S, without_set hkl, ← JU.S] at this
        rw [s_b, l_b]; exact this
      have t_m : tok m.s m.l = true := by rw [s_m, l_m]; exact su_tok t_u ku
      have e_n := e2_ok t_b t_m (by rw [s_m, s_b, et])
      refine Lw.callF rfl rfl (add_p b m w17 h_b h_m) ?_
      rintro r w18 ⟨hn, hr⟩
      rw [e_n] at hr
      obtain ⟨n, rfl, h_n, s_n, l_n, o_n⟩ := gets_yes hr
      have on := o_n A_m (blk_lt b_m)
      have on2 := o_n A_s (blk_lt b_s2)
      have h_c := h_c.bs hn
      have b_s2 := b_s2.bs hn
      have b_m := b_m.bs hn
      have hw := bt hw hn
      clear hn hr o_n
      refine Lw.val (Ex.move rfl) rfl ?_
      refine Lw.val (Ex.extract (i := 0) rfl rfl) rfl ?_
      refine Lw.val (Ex.extract (i := 1) rfl rfl) rfl ?_
      refine Lw.unit (Xu.stA (cs := [n.x, n.y]) rfl rfl rfl rfl h_n.one b_m rfl) ?_
      rintro w19 ⟨b_m2, hg, -⟩
      have h_c := at_off h_c oc hg
      have h_n := at_off h_n on hg
      have b_s2 := b_s2.by hg (by rintro ⟨⟩; exact hsm rfl)
      have hw := hw.grown hg hw.size (by rintro _ ⟨⟩; exact hwm)
      have l_n2 : n.l = suL (jnS (ts.take (i + 1)) k) (jnL (ts.take (i + 1)) k) k := by rw [e1, jo_sum JT (by omega), l_n, s_b, l_b, l_m]
      refine Lw.val (Ex.assign rfl) rfl ?_
      refine Lw.nil ?_
      refine Pw.blkN ?_
      refine Pw.thenN (Cw.out ?_)
      refine Cw.region ?_
      refine Lw.val (Ex.move rfl) rfl ?_
      refine Lw.val (Ex.addI rfl rfl (by omega)) rfl ?_
      refine Lw.val (Ex.assign rfl) rfl ?_
      refine Lw.nil ?_
      exact Pw.thenN (Pw.next ((i + 1, c, n)) ⟨rfl, rfl, rfl, rfl, rfl, rfl, rfl, trivial⟩ (⟨⟨by show 1 ≤ i + 1; omega, hi'⟩, hw, ⟨h_c, b_s2, oc⟩, ⟨h_n, b_m2, on2⟩, ⟨s_c.trans e_s, l_c.trans e_l⟩, s_n.trans s_b, l_n2⟩) (by simp only; omega))
  intro g
  have hi' : i = ts.length := by have := of_decide_eq_false g; omega
  subst hi'
  rw [List.take_length] at s_a l_a l_b
  clear hi hi1 h11 hv11
  replace hB := hB.bs hw
  replace h := h.bs hw
  replace hv := hv.bs hw
  replace h_t := h_t.bs hw
  replace h_all := h_all.bs hw
  replace b_all := b_all.bs hw
  replace h_all2 := h_all2.bs hw
  clear hw
  have t_all : tok all.s all.l = true := by rw [s_all, l_all]; exact J.jtok
  have k_all : k < all.s.length := by rw [s_all, J.S, List.length_set]; exact hkl
  have e_x := suE_ok t_all k_all
  refine Cw.exit ?_
  refine Pw.thenE ?_
  refine Pw.thenE ?_
  refine Pw.blkHit ?_
  refine Pw.thenN (Cw.out ?_)
  refine Cw.seq ?_
  refine Cw.region ?_
  refine Lw.val (Ex.ldA (ag_25 _) (sz_25 _) rfl rfl (by assumption)) rfl ?_
  refine Lw.val (Ex.move rfl) rfl ?_
  refine Lw.callF rfl rfl (msum_g all (k : Int) _ h_all) ?_
  rintro r w ⟨hn, x, rfl, h_x, -, hz⟩
  rw [e_x]
  obtain ⟨s_x, l_x⟩ := hz e_x
  rw [Int.toNat_natCast] at s_x l_x
  clear hz
  replace hB := hB.bs hn
  replace h := h.bs hn
  replace hv := hv.bs hn
  replace h_t := h_t.bs hn
  replace h_all := h_all.bs hn
  replace b_all := b_all.bs hn
  replace h_all2 := h_all2.bs hn
  replace h_a := h_a.bs hn
  replace h_b := h_b.bs hn
  replace b_s := b_s.bs hn
  replace b_m := b_m.bs hn
  clear hn
  refine Lw.val (Ex.move rfl) rfl ?_
  refine Lw.val (Ex.extract (i := 0) rfl rfl) rfl ?_
  refine Lw.val (Ex.extract (i := 1) rfl rfl) rfl ?_
  refine Lw.boxed (cs := [x.x, x.y]) it_25 rfl rfl rfl rfl (fun _ => rfl) (h_x.one) ?_
  rintro A_x w eA_x b_x hn -
  replace hB := hB.bs hn
  replace h := h.bs hn
  replace hv := hv.bs hn
  replace h_t := h_t.bs hn
  replace h_all := h_all.bs hn
  replace b_all := b_all.bs hn
  replace h_all2 := h_all2.bs hn
  replace h_a := h_a.bs hn
  replace h_b := h_b.bs hn
  replace b_s := b_s.bs hn
  replace b_m := b_m.bs hn
  replace h_x := h_x.bs hn
  clear hn
  refine Lw.val (Ex.assign rfl) rfl ?_
  refine Lw.nil ?_
  refine Pw.thenN (Cw.out ?_)
  refine Cw.seq ?_
  refine Cw.region ?_
  refine Lw.val (Ex.ldA (ag_25 _) (sz_25 _) rfl rfl (by assumption)) rfl ?_
  refine Lw.val (Ex.ldA (ag_25 _) (sz_25 _) rfl rfl (by assumption)) rfl ?_
  refine Lw.callF rfl rfl (same_c _ _ _ _ _ _ _ _ _ h_a.1 h_a.2 h_all.1 h_all.2) ?_
  rintro _ w ⟨rfl, hn⟩
  replace hB := hB.bs hn
  replace h := h.bs hn
  replace hv := hv.bs hn
  replace h_t := h_t.bs hn
  replace h_all := h_all.bs hn
  replace b_all := b_all.bs hn
  replace h_all2 := h_all2.bs hn
  replace h_a := h_a.bs hn
  replace h_b := h_b.bs hn
  replace b_s := b_s.bs hn
  replace b_m := b_m.bs hn
  replace h_x := h_x.bs hn
  replace b_x := b_x.bs hn
  clear hn
  refine Lw.val (Ex.move rfl) rfl ?_
  refine Lw.know 138 (v' := .bool true) rfl (congrArg Value.bool ((by rw [s_a, l_a, s_all, l_all]; simp))) ?_
  refine Lw.take (dj := 138) rfl rfl ?_
  refine Lw.val (Ex.move rfl) rfl ?_
  refine Lw.take (dj := 138) rfl rfl ?_
  refine Lw.val (Ex.eql rfl rfl) rfl ?_
  refine Lw.val (Ex.pickT rfl rfl) rfl ?_
  refine Lw.val (Ex.move rfl) rfl ?_
  refine Lw.know 142 (v' := .bool true) rfl (congrArg Value.bool (rfl)) ?_
  refine Lw.take (dj := 142) rfl rfl ?_
  refine Lw.val (Ex.ldA (ag_25 _) (sz_25 _) rfl rfl (by assumption)) rfl ?_
  refine Lw.take (dj := 142) rfl rfl ?_
  refine Lw.val (Ex.move rfl) rfl ?_
  refine Lw.take (dj := 142) rfl rfl ?_
  refine Lw.val (Ex.ldA (ag_25 _) (sz_25 _) rfl rfl (by assumption)) rfl ?_
  refine Lw.take (dj := 142) rfl rfl ?_
  refine Lw.callF rfl rfl (is9_c x 0 b _ h_x h_b) ?_
  rintro _ w ⟨rfl, hn⟩
  replace hB := hB.bs hn
  replace h := h.bs hn
  replace hv := hv.bs hn
  replace h_t := h_t.bs hn
  replace h_all := h_all.bs hn
  replace b_all := b_all.bs hn
  replace h_all2 := h_all2.bs hn
  replace h_a := h_a.bs hn
  replace h_b := h_b.bs hn
  replace b_s := b_s.bs hn
  replace b_m := b_m.bs hn
  replace h_x := h_x.bs hn
  replace b_x := b_x.bs hn
  clear hn
  refine Lw.val (Ex.pickT rfl rfl) rfl ?_
  refine Lw.val (Ex.assign rfl) rfl ?_
  refine Lw.nil ?_
  refine Pw.thenN (Cw.out ?_)
  refine Cw.ret ?_
  refine Pw.ret1 rfl rfl ?_
  exact ⟨by rw [s_x, l_x, s_b, l_b, s_all, l_all, J.S, without_set hkl]; simp, hB⟩
set_option maxRecDepth 100000 in
set_option maxHeartbeats 2000000 in
theorem movesJoins_lifted (os : Os) (started : os.Started) (H : Type) (enc : TypeId × Value → H) :
    ReturnsInHanded {} Try.checked os 6 .any (Rows.movesJoinsSpec.pre6 enc Try.prog Try.f6 Rows.movesJoinsRow.domain false) (Rows.movesJoinsSpec.post enc Try.prog Try.f6 false true false false) := by
  refine returnsInHanded_of_change_sized (C := Try.checked) own started (by kernel_rfl) Try.func6
    (ChangeSpec.witness6 (enc := enc) (C := Try.checked) false ⟨#[], #[.slice none 0 0, .int .u8 0], []⟩ 8 (by kernel_rfl) (by kernel_rfl) (by kernel_rfl) (by kernel_rfl)) ?_
  intro W base args ds gs before hval0 hW hcnd hsz0 _
  have hval : ∀ (j : Nat) t v, Try.f6.params[j]? = some t → args[j]? = some v → Value.okWide Try.prog W .any base t v := hval0
  have hW' := hW
  obtain ⟨p, q, hA0, hV, rfl, hfz, hnd⟩ := hW
  have hA : DataW.TrodAll enc Try.prog W 0 (fun _ => true) true Try.f6.params.toList args.toList ds p := hA0
  have hsz : (DataW.weightsEach Try.prog (Try.f6.params.toList ++ Rows.movesJoinsSpec.plain.varTypes Try.prog) (ds ++ gs)).all (· ≤ reachBytes) = true := hsz0
  rw [Try.params6] at hA hval hsz
  obtain ⟨v0, vs0, d0, ds0, p0, q0, hargs, rfl, rfl, h0, r0⟩ := trodAll_cons hA
  obtain ⟨v1, vs1, d1, ds1, p1, q1, rfl, rfl, rfl, h1, r1⟩ := trodAll_cons r0
  obtain ⟨rfl, rfl, rfl⟩ := trodAll_nil r1
  obtain rfl : args = #[v0, v1] := by cases args; simp_all
  obtain ⟨rfl, rfl⟩ := trodVars_none hV
  have k0 := h0
  have lt0 : ∀ x ∈ p0, x.block < W.heap.size := by obtain ⟨m, hm⟩ := k0; exact DataW.trod_lt m _ _ _ hm
  have i0 := in_of (j := 0) (t := 35) hsz rfl rfl h0
  have o0 := hval 0 35 v0 rfl rfl
  have k1 := h1
  have lt1 : ∀ x ∈ p1, x.block < W.heap.size := by obtain ⟨m, hm⟩ := k1; exact DataW.trod_lt m _ _ _ hm
  have i1 := in_of (j := 1) (t := 5) hsz rfl rfl h1
  have o1 := hval 1 5 v1 rfl rfl
  clear hA0 hval0 hsz0 hsz
  obtain ⟨ts, ht, hf⟩ := arg_tens o0 i0
  obtain ⟨d, rfl⟩ := arg_num (BitVec.ofInt 8) b8 (fun _ h => wf_u8 h) un_5 o1 i1
  refine (law_calls (movesJoins_w v0 ts d W ht hf)).mono fun e W' ⟨he, bel⟩ => ?_
  subst he
  exact ⟨_, rfl, _, _, _, [], _, [], hW', trodAll_mk1 (shut_bool un_4 _), (trodAll_cons_mk (Below.trod laidOut (by kernel_rfl) (of_decide_eq_true (by kernel_rfl)) k0 bel lt0) (trodAll_cons_mk (Below.trod laidOut (by kernel_rfl) (of_decide_eq_true (by kernel_rfl)) k1 bel lt1) trodAll_mk0)), rfl, bel.frame _, fun h => by cases h⟩

/-- The statement. -/
theorem movesJoins_proved : Rows.MovesJoinsSaid :=
  OpenClaim.holds_of_wide 6 Try.f6 rfl rfl rfl rfl rfl rfl rfl ⟨rfl, rfl, rfl, rfl, rfl⟩ rfl rfl rfl rfl rfl (by kernel_rfl) Try.func6 (by kernel_rfl)
    (of_decide_eq_true (by kernel_rfl)) (by unfold Func.isWrapper; first | (rw [if_pos (by decide +kernel)]; kernel_rfl) | (rw [if_neg (by decide +kernel)]; exact ⟨rfl, rfl⟩))
    (fun os started H enc _ => movesJoins_lifted os started H enc)
#print axioms movesJoins_proved
end Go.Proofs.Ytkhndfaampkbnaa
