/- Joined along a direction is joined along the first, one behind the other, when this direction has come to the front: for any tensors, any direction; no condition. -/
import Derived.Test.YtkhndfaampkbnaaMovesTn
namespace Go.Proofs.Ytkhndfaampkbnaa
open Go Go.Dd Go.RowKit Go.ChangeShapes Go.WideShapes Go.ChangeAt

/-! ### The order, as it is made -/
def io (n i : Nat) : List Int := (List.range n).map fun j : Nat => if j < i then (j : Int) else 0
theorem io_length (n i : Nat) : (io n i).length = n := by simp [io]
theorem io_at {n i j : Nat} (h : j < n) : (io n i).getD j default = if j < i then (j : Int) else 0 := by simp [io, h]
theorem io_one (n : Nat) : io n 1 = List.replicate n 0 := by
  refine ext_getD (by rw [io_length, List.length_replicate]) fun j hj => ?_
  rw [io_length] at hj
  rw [io_at hj]
  simp [hj]
theorem io_set {n i : Nat} (h : i < n) : (io n i).set i (i : Int) = io n (i + 1) := by
  refine ext_getD (by rw [List.length_set, io_length, io_length]) fun j hj => ?_
  rw [List.length_set, io_length] at hj
  rw [set_at, io_at hj, io_at hj, io_length]
  by_cases e : j = i
  · rw [if_pos ⟨e, h⟩, if_pos (by omega), e]
  · rw [if_neg (by omega)]
    by_cases e2 : j < i
    · rw [if_pos e2, if_pos (by omega)]
    · rw [if_neg e2, if_neg (by omega)]
theorem io_end {n k : Nat} (h : k < n) : ((io n n).set 0 (k : Int)).set k 0 = swo n k := by
  refine ext_getD (by rw [List.length_set, List.length_set, io_length, swo_length]) fun j hj => ?_
  rw [List.length_set, List.length_set, io_length] at hj
  rw [set_at, set_at, io_at hj, swo_at hj, List.length_set, io_length]
  unfold sw
  by_cases e : j = k
  · subst e
    rw [if_pos ⟨rfl, h⟩]
    by_cases e0 : j = 0
    · subst e0; rfl
    · rw [if_neg e0, if_pos rfl]; rfl
  · rw [if_neg (by omega)]
    by_cases e0 : j = 0
    · rw [if_pos ⟨e0, by omega⟩, if_pos e0]
    · rw [if_neg (by omega), if_neg e0, if_neg e, if_pos hj]

/-! ### What stays while a list grows -/
theorem own_block_lt {w : World} {base : Nat} {e : TypeId} {sz n : Nat} {v : Value} {xs : List Value} (h : w.ownsRow base e sz v n xs) {A : Nat} (hA : v.ownBlock = some A) : A < w.heap.size := (own_block h A hA).2
def OffV (v : Value) (a : T4) : Prop := ∀ A, v.ownBlock = some A → Off A a
theorem offV_nil (a : T4) : OffV (.slice none 0 0) a := fun _ h => by cases h
theorem offV_grow {w : World} {v v' : Value} {a : T4} (h : OffV v a) (ha : a.at w) (hv : v'.ownBlock = v.ownBlock ∨ v'.ownBlock = some w.heap.size) : OffV v' a := fun A e => by
  rcases hv with hv | hv
  · exact h A (hv ▸ e)
  · rw [hv] at e
    cases e
    exact off_at ha (Nat.le_refl _)
theorem at_offV {w w' : World} {v : Value} {a : T4} (h : a.at w) (o : OffV v a) (g : w.grownBy w' v.ownBlock) : a.at w' :=
  ⟨Sl.stay h.1 fun b e hne => g.block b (Sl.blk h.1 hne b e) fun e2 => (o b e2.symm).1 (map_ne hne) e,
   Sl.stay h.2 fun b e hne => g.block b (Sl.blk h.2 hne b e) fun e2 => (o b e2.symm).2 (map_ne hne) e⟩
theorem AnsK.both {W w : World} {r : Value} {e : Int} {s : List Int} {l : List (BitVec 32)} (h : AnsK W w r e s l) : ∃ c : T4, r = .tuple #[c.v, .int .i64 e] ∧ c.at w ∧ (e = 0 → c.s = s ∧ c.l = l ∧ ∀ A, A < W.heap.size → Off A c) := by
  by_cases he : e = 0
  · subst he
    obtain ⟨c, h1, h2, h3, h4, h5⟩ := h.yes
    exact ⟨c, h1, h2, fun _ => ⟨h3, h4, h5⟩⟩
  · obtain ⟨c, h1, h2, -, -⟩ := h.gets
    exact ⟨c, h1, h2, fun h => absurd h he⟩
theorem tnE_ok {t : T4} {o : List Int} (h : tnE t o = 0) : tok t.s t.l = true ∧ o.length = t.s.length := by
  unfold tnE at h
  cases k1 : tok t.s t.l with
  | false => simp [k1] at h
  | true =>
    refine ⟨rfl, ?_⟩
    by_cases e : o.length = t.s.length
    · exact e
    · simp [e] at h
theorem tnE_yes {t : T4} {o : List Int} (h : tok t.s t.l = true) (hl : o.length = t.s.length) (ho : ordOk o = true) : tnE t o = 0 := by
  unfold tnE; rw [h, decide_eq_true hl, ho]; rfl

theorem cellsOf_append (a b : List T4) : cellsOf (a ++ b) = cellsOf a ++ cellsOf b := by
  induction a with
  | nil => rfl
  | cons t a ih => simp [cellsOf, ih]
set_option maxHeartbeats 2000000 in
theorem movesBehind_w (v : Value) (ts : List T4) (d : BitVec 8) (W : World) (h : Tens W v ts) (f : ∀ t ∈ ts, few t) :
    Fnc Try.prog 4 [v, b8 d] W (fun r w' => r = .bool true ∧ Below W.heap.size W w') := by
  have hB := Below.refl W.heap.size W
  have hv := h.1
  refine Fnc.enter (n := 129) Try.func4 (by kernel_rfl) rfl rfl rfl ?_
  refine Cw.seq ?_
  refine Cw.region ?_
  refine Lw.val (Ex.assign rfl) rfl ?_
  refine Lw.nil ?_
  refine Pw.thenN (Cw.out ?_)
  refine Cw.seq ?_
  refine Cw.seq ?_
  refine Cw.region ?_
  refine Lw.callF rfl rfl (alive_c _) ?_
  rintro _ w ⟨rfl, hn⟩
  replace hB := hB.bs hn
  replace h := h.bs hn
  replace hv := hv.bs hn
  clear hn
  refine Lw.val (Ex.not rfl) rfl ?_
  refine Lw.val (Ex.move rfl) rfl ?_
  refine Lw.know 22 (v' := .bool false) rfl (congrArg Value.bool (rfl)) ?_
  refine Lw.take (dj := 22) rfl rfl ?_
  refine Lw.val (Ex.move rfl) rfl ?_
  refine Lw.take (dj := 22) rfl rfl ?_
  refine Lw.val (Ex.lenS st_35 rfl (by assumption)) rfl ?_
  refine Lw.take (dj := 22) rfl rfl ?_
  refine Lw.val (Ex.gtr rfl rfl) rfl ?_
  refine Lw.val (Ex.pickF rfl rfl) rfl ?_
  refine Lw.val (Ex.move rfl) rfl ?_
  refine Lw.part 27 rfl ?_ ?_
  · intro _
    refine Lw.pass (dj := 27) rfl rfl rfl rfl ?_
    refine Lw.pass (dj := 27) rfl rfl rfl rfl ?_
    refine Lw.pass (dj := 27) rfl rfl rfl rfl ?_
    refine Lw.val (Ex.pickT rfl rfl) rfl ?_
    refine Lw.val (Ex.move rfl) rfl ?_
    refine Lw.pass (dj := 32) rfl rfl rfl rfl ?_
    refine Lw.pass (dj := 32) rfl rfl rfl rfl ?_
    refine Lw.pass (dj := 32) rfl rfl rfl rfl ?_
    refine Lw.pass (dj := 32) rfl rfl rfl rfl ?_
    refine Lw.pass (dj := 32) rfl rfl rfl rfl ?_
    refine Lw.val (Ex.pickT rfl rfl) rfl ?_
    refine Lw.nil ?_
    refine Pw.thenN (Cw.out ?_)
    refine Cw.condT rfl ?_
    refine Cw.seq ?_
    refine Cw.region ?_
    refine Lw.callF rfl rfl (alive_c _) ?_
    rintro _ w ⟨rfl, hn⟩
    replace hB := hB.bs hn
    replace h := h.bs hn
    replace hv := hv.bs hn
    clear hn
    refine Lw.val (Ex.assign rfl) rfl ?_
    refine Lw.nil ?_
    refine Pw.thenN (Cw.out ?_)
    refine Cw.ret ?_
    refine Pw.thenR ?_
    refine Pw.ret1 rfl rfl ?_
    exact ⟨rfl, hB⟩
  intro g1
  have g1 : ts.length ≤ 4 := by have := of_decide_eq_false g1; omega
  refine Lw.take (dj := 27) rfl rfl ?_
  refine Lw.val (Ex.move rfl) rfl ?_
  refine Lw.take (dj := 27) rfl rfl ?_
  refine Lw.val (Ex.lenS st_35 rfl (by assumption)) rfl ?_
  refine Lw.take (dj := 27) rfl rfl ?_
  refine Lw.val (Ex.eql rfl rfl) rfl ?_
  refine Lw.val (Ex.pickF rfl rfl) rfl ?_
  refine Lw.val (Ex.move rfl) rfl ?_
  refine Lw.part 32 rfl ?_ ?_
  · intro _
    refine Lw.pass (dj := 32) rfl rfl rfl rfl ?_
    refine Lw.pass (dj := 32) rfl rfl rfl rfl ?_
    refine Lw.pass (dj := 32) rfl rfl rfl rfl ?_
    refine Lw.pass (dj := 32) rfl rfl rfl rfl ?_
    refine Lw.pass (dj := 32) rfl rfl rfl rfl ?_
    refine Lw.val (Ex.pickT rfl rfl) rfl ?_
    refine Lw.nil ?_
    refine Pw.thenN (Cw.out ?_)
    refine Cw.condT rfl ?_
    refine Cw.seq ?_
    refine Cw.region ?_
    refine Lw.callF rfl rfl (alive_c _) ?_
    rintro _ w ⟨rfl, hn⟩
    replace hB := hB.bs hn
    replace h := h.bs hn
    replace hv := hv.bs hn
    clear hn
    refine Lw.val (Ex.assign rfl) rfl ?_
    refine Lw.nil ?_
    refine Pw.thenN (Cw.out ?_)
    refine Cw.ret ?_
    refine Pw.thenR ?_
    refine Pw.ret1 rfl rfl ?_
    exact ⟨rfl, hB⟩
  intro g2
  have hpos : 0 < ts.length := by have := of_decide_eq_false g2; omega
  clear g2
  obtain ⟨t, e0, m0, c1, c2⟩ := tens_at hpos
  have h_t := h.2 t m0
  have hvs := h.slice hpos
  have es := s0T_at hpos e0
  refine Lw.take (dj := 32) rfl rfl ?_
  refine Lw.val (Ex.move rfl) rfl ?_
  refine Lw.take (dj := 32) rfl rfl ?_
  refine Lw.val (Ex.idx st_35 rfl rfl hv 0 rfl hpos) rfl ?_
  refine Lw.take (dj := 32) rfl rfl ?_
  refine Lw.val (Ex.ldE (cs := [t.x, t.y]) (ag_25 _) (sz_25 _) rfl hv rfl (by decide) (two_cells c1 c2)) rfl ?_
  refine Lw.take (dj := 32) rfl rfl ?_
  refine Lw.callF rfl rfl (small_c t _ h_t (f t m0)) ?_
  rintro _ w ⟨rfl, hn⟩
  replace hB := hB.bs hn
  replace h := h.bs hn
  replace hv := hv.bs hn
  replace h_t := h_t.bs hn
  clear hn
  refine Lw.take (dj := 32) rfl rfl ?_
  refine Lw.val (Ex.not rfl) rfl ?_
  refine Lw.val (Ex.pickF rfl rfl) rfl ?_
  refine Lw.nil ?_
  refine Pw.thenN (Cw.out ?_)
  refine Cw.cond rfl ?_ ?_
  · intro _
    refine Cw.seq ?_
    refine Cw.region ?_
    refine Lw.callF rfl rfl (alive_c _) ?_
    rintro _ w ⟨rfl, hn⟩
    replace hB := hB.bs hn
    replace h := h.bs hn
    replace hv := hv.bs hn
    replace h_t := h_t.bs hn
    clear hn
    refine Lw.val (Ex.assign rfl) rfl ?_
    refine Lw.nil ?_
    refine Pw.thenN (Cw.out ?_)
    refine Cw.ret ?_
    refine Pw.thenR ?_
    refine Pw.ret1 rfl rfl ?_
    exact ⟨rfl, hB⟩
  intro g3
  have t_t : tok t.s t.l = true := (sml_ok (by simpa using g3)).1
  clear g3 f
  have S := (Shapes.ok_iff t.s).1 (tok_ok t_t).1
  obtain ⟨n, hn0⟩ : ∃ n, n = t.s.length := ⟨_, rfl⟩
  have hn1 : 1 ≤ n := by omega
  have hn4 : n ≤ 4 := by omega
  obtain ⟨k, hk⟩ : ∃ k, k = d.toNat % n := ⟨_, rfl⟩
  have hkl : k < n := by rw [hk]; exact Nat.mod_lt _ hn1
  have h_t1 := h_t.1
  refine Cw.skip ?_
  refine Pw.thenN (Cw.out ?_)
  refine Cw.seq ?_
  refine Cw.region ?_
  refine Lw.val (Ex.move rfl) rfl ?_
  refine Lw.val (Ex.idx st_35 rfl rfl hv 0 rfl hpos) rfl ?_
  refine Lw.val (Ex.fieldAddrE Try.underlying25 rfl (sz_22 _) rfl hvs) rfl ?_
  refine Lw.val (Ex.ld (ag_22 _) rfl hv c1) rfl ?_
  refine Lw.val ((Ex.lenS st_22 rfl h_t1).as (congrArg (fun x : Nat => Value.int .i64 (x : Int)) hn0.symm)) rfl ?_
  refine Lw.val (Ex.assign rfl) rfl ?_
  refine Lw.nil ?_
  refine Pw.thenN (Cw.out ?_)
  refine Cw.seq ?_
  refine Cw.region ?_
  refine Lw.val (Ex.move rfl) rfl ?_
  refine Lw.val (Ex.conv8_I us_5 un_3 rfl) rfl ?_
  refine Lw.val (Ex.move rfl) rfl ?_
  refine Lw.val ((Ex.remN rfl rfl hn1).as (congrArg (fun x : Nat => Value.int .i64 (x : Int)) hk.symm)) rfl ?_
  refine Lw.val (Ex.assign rfl) rfl ?_
  refine Lw.nil ?_
  refine Pw.thenN (Cw.out ?_)
  refine Cw.seq ?_
  refine Cw.region ?_
  refine Lw.val (Ex.move rfl) rfl ?_
  refine Lw.val (Ex.move rfl) rfl ?_
  refine Lw.callF rfl rfl (mjoin_g v ts (k : Int) _ h) ?_
  rintro r w ⟨hn, x, rfl, h_x, -, z_x⟩
  replace hB := hB.bs hn
  replace h := h.bs hn
  replace hv := hv.bs hn
  replace h_t := h_t.bs hn
  replace h_t1 := h_t1.bs hn
  clear hn
  refine Lw.val (Ex.move rfl) rfl ?_
  refine Lw.val (Ex.extract (i := 0) rfl rfl) rfl ?_
  refine Lw.val (Ex.extract (i := 1) rfl rfl) rfl ?_
  refine Lw.boxed (cs := [x.x, x.y]) it_25 rfl rfl rfl rfl (fun _ => rfl) (h_x.one) ?_
  rintro A_x w eA_x b_x hn -
  replace hB := hB.bs hn
  replace h := h.bs hn
  replace hv := hv.bs hn
  replace h_t := h_t.bs hn
  replace h_t1 := h_t1.bs hn
  replace h_x := h_x.bs hn
  clear hn
  refine Lw.val (Ex.assign rfl) rfl ?_
  refine Lw.nil ?_
  refine Pw.thenN (Cw.out ?_)
  refine Cw.seq ?_
  refine Cw.region ?_
  refine Lw.val (Ex.move rfl) rfl ?_
  obtain ⟨E, hE⟩ : ∃ E, E = jnE ts (k : Int) := ⟨_, rfl⟩
  rw [← hE] at z_x ⊢
  rename World => w0
  have zB := below_size hB
  refine Lw.valW (Xw.make (l := n) (c := n) st_22 it_3 rfl rfl rfl (Nat.le_refl _) (by omega) (by omega)) rfl ?_
  rintro y w1 ⟨hy, -, hn, -⟩
  replace hy : w1.ownsRow w0.heap.size 3 1 y n ((io n 1).map (Value.int .i64)) := by rw [io_one, ← rep_flat (enc := Value.int .i64) (z := 0)]; exact hy
  refine Lw.val (Ex.assign rfl) rfl ?_
  refine Lw.nil ?_
  refine Pw.thenN (Cw.out ?_)
  refine Cw.seq ?_
  refine Cw.seq ?_
  refine Cw.region ?_
  refine Lw.val (Ex.assign rfl) rfl ?_
  refine Lw.nil ?_
  refine Pw.thenN (Cw.out ?_)
  refine Cw.block ?_
  refine Cw.loop (S := Nat) (fun i => [(0, v), (5, .int .i64 (n : Int)), (6, .int .i64 (k : Int)), (7, .pointer (some ⟨A_x, 0, none⟩)), (8, .int .i64 E), (9, y), (10, .int .i64 (i : Int))]) (fun i w' => (1 ≤ i ∧ i ≤ n) ∧ Below w0.heap.size w0 w' ∧ w'.ownsRow w0.heap.size 3 1 y n ((io n i).map (Value.int .i64))) (fun i => n - i) (1) ⟨rfl, rfl, rfl, rfl, rfl, rfl, rfl, trivial⟩ ?_ ?_
  · exact ⟨⟨Nat.le_refl 1, hn1⟩, hn, hy⟩
  clear hy hn
  rintro i w2 ⟨⟨hi1, hi⟩, hw, hy⟩
  have zw := hw.size
  obtain ⟨L, hL⟩ : ∃ L, L = io n i := ⟨_, rfl⟩
  have lL : L.length = n := by rw [hL, io_length]
  rw [← hL, ← lL] at hy
  have s_y := own_slT hy
  refine Cw.seq ?_
  refine Cw.seq ?_
  refine Cw.region ?_
  refine Lw.val (Ex.move rfl) rfl ?_
  refine Lw.val (Ex.move rfl) rfl ?_
  refine Lw.val (Ex.lss rfl rfl) rfl ?_
  refine Lw.nil ?_
  refine Pw.thenN (Cw.out ?_)
  refine Cw.cond rfl ?_ ?_
  · intro g
    have hi' : i < n := by have := of_decide_eq_true g; omega
    refine Cw.skip ?_
    refine Pw.thenN (Cw.out ?_)
    refine Cw.seq ?_
    refine Cw.block ?_
    refine Cw.region ?_
    refine Lw.val (Ex.move rfl) rfl ?_
    refine Lw.val (Ex.move rfl) rfl ?_
    refine Lw.val (Ex.move rfl) rfl ?_
    refine Lw.val (Ex.idxT st_22 rfl rfl s_y i rfl (by omega)) rfl ?_
    refine Lw.unit (Xu.stO (sz_3 _) rfl rfl rfl hy (by rw [List.length_map]; omega)) ?_
    rintro w3 ⟨hy3, hg, -⟩
    rw [← List.map_set, lL, hL, io_set hi'] at hy3
    have hw3 := hw.grown hg hw.size (fun b e => (own_block hy b e).1)
    refine Lw.nil ?_
    refine Pw.blkN ?_
    refine Pw.thenN (Cw.out ?_)
    refine Cw.region ?_
    refine Lw.val (Ex.move rfl) rfl ?_
    refine Lw.val (Ex.addI rfl rfl (by omega)) rfl ?_
    refine Lw.val (Ex.assign rfl) rfl ?_
    refine Lw.nil ?_
    exact Pw.thenN (Pw.next (i + 1) ⟨rfl, rfl, rfl, rfl, rfl, rfl, rfl, trivial⟩ (⟨⟨by omega, hi'⟩, hw3, hy3⟩) (by omega))
  intro g
  have hi' : i = n := by have := of_decide_eq_false g; omega
  rw [hi'] at hL
  refine Cw.exit ?_
  refine Pw.thenE ?_
  refine Pw.thenE ?_
  refine Pw.blkHit ?_
  refine Pw.thenN (Cw.out ?_)
  refine Cw.seq ?_
  refine Cw.region ?_
  refine Lw.val (Ex.move rfl) rfl ?_
  refine Lw.val (Ex.move rfl) rfl ?_
  refine Lw.val (Ex.idxT st_22 rfl rfl s_y 0 rfl (by omega)) rfl ?_
  refine Lw.unit (Xu.stO (sz_3 _) rfl rfl rfl hy (by rw [List.length_map]; omega)) ?_
  rintro w3 ⟨hy3, hg, -⟩
  have hw := hw.grown hg hw.size (fun b e => (own_block hy b e).1)
  rw [← List.map_set] at hy3
  clear hg hy s_y
  obtain ⟨M, hM⟩ : ∃ M, M = L.set 0 (k : Int) := ⟨_, rfl⟩
  have lM : M.length = L.length := by rw [hM, List.length_set]
  rw [← hM, ← lM] at hy3
  have s_y := own_slT hy3
  refine Lw.nil ?_
  refine Pw.thenN (Cw.out ?_)
  refine Cw.seq ?_
  refine Cw.region ?_
  refine Lw.val (Ex.move rfl) rfl ?_
  refine Lw.val (Ex.move rfl) rfl ?_
  refine Lw.val (Ex.idxT st_22 rfl rfl s_y k rfl (by omega)) rfl ?_
  refine Lw.unit (Xu.stO (sz_3 _) rfl rfl rfl hy3 (by rw [List.length_map]; omega)) ?_
  rintro w ⟨hy, hg, -⟩
  have hw := hw.grown hg hw.size (fun b e => (own_block hy3 b e).1)
  obtain ⟨o, ho⟩ : ∃ o, o = swo n k := ⟨_, rfl⟩
  have lo : o.length = M.length := by rw [ho, swo_length, lM, lL]
  have eM : M.set k 0 = o := by rw [hM, hL, ho]; exact io_end hkl
  rw [← List.map_set, eM, ← lo] at hy
  have lo : o.length = n := by rw [ho, swo_length]
  have oo : ordOk o = true := by rw [ho]; exact swo_ok hn4 hkl
  have h_y := own_slT hy
  replace hB := hB.bs hw
  replace h := h.bs hw
  replace hv := hv.bs hw
  replace h_x := h_x.bs hw
  replace b_x := b_x.bs hw
  clear hw hg hy3 s_y
  clear h_t h_t1
  have z_w := Nat.le_refl w.heap.size
  refine Lw.nil ?_
  refine Pw.thenN (Cw.out ?_)
  refine Cw.seq ?_
  refine Cw.region ?_
  refine Lw.val (Ex.assign rfl) rfl ?_
  refine Lw.nil ?_
  refine Pw.thenN (Cw.out ?_)
  refine Cw.seq ?_
  refine Cw.region ?_
  refine Lw.val (Ex.assign rfl) rfl ?_
  refine Lw.nil ?_
  refine Pw.thenN (Cw.out ?_)
  refine Cw.seq ?_
  refine Cw.seq ?_
  refine Cw.region ?_
  refine Lw.val (Ex.assign rfl) rfl ?_
  refine Lw.nil ?_
  refine Pw.thenN (Cw.out ?_)
  refine Cw.block ?_
  refine Cw.loop (S := (Nat × Value × Value × List T4)) (fun z => [(0, v), (5, .int .i64 (n : Int)), (6, .int .i64 (k : Int)), (7, .pointer (some ⟨A_x, 0, none⟩)), (8, .int .i64 E), (9, y), (11, z.2.1), (12, z.2.2.1), (13, .int .i64 (z.1 : Int))]) (fun z w' => z.1 ≤ ts.length ∧ Below w.heap.size w w' ∧ w'.ownsRow w.heap.size 25 2 z.2.1 z.2.2.2.length (cellsOf z.2.2.2) ∧ (w'.ownsRow w.heap.size 21 1 z.2.2.1 (z.2.2.2.map (·.l)).flatten.length ((z.2.2.2.map (·.l)).flatten.map i32) ∧ (z.2.2.2.map (·.l)).flatten.length ≤ 4096 * z.1) ∧ Apt z.2.1 z.2.2.1 ∧ (∀ u ∈ z.2.2.2, u.at w' ∧ OffV z.2.1 u ∧ OffV z.2.2.1 u) ∧ Trn o (ts.take z.1) z.2.2.2 ∧ (∀ t ∈ ts.take z.1, tok t.s t.l = true ∧ t.s.length = n)) (fun z => ts.length - z.1) ((0, .slice none 0 0, .slice none 0 0, [])) ⟨rfl, rfl, rfl, rfl, rfl, rfl, rfl, rfl, rfl, trivial⟩ ?_ ?_
  · exact ⟨Nat.zero_le _, Below.refl _ _, World.ownsRow_nil _ _ _ _, ⟨World.ownsRow_nil _ _ _ _, by simp⟩, (fun b h => by cases h), (fun u hu => by simp at hu), rfl, fun t ht => by simp at ht⟩
  rintro ⟨i, v1, v2, us⟩ w3 ⟨hi, hw, hv1, ⟨hv2, hF⟩, hap, hus, hT, hK⟩
  dsimp only at hi hv1 hv2 hF hap hus hT hK ⊢
  have zw := hw.size
  have h3 := h.bs hw
  have hv3 := h3.1
  have h_y3 := h_y.bs hw
  refine Cw.seq ?_
  refine Cw.seq ?_
  refine Cw.region ?_
  refine Lw.val (Ex.move rfl) rfl ?_
  refine Lw.val (Ex.move rfl) rfl ?_
  refine Lw.val (Ex.lenS st_35 rfl (by assumption)) rfl ?_
  refine Lw.val (Ex.lss rfl rfl) rfl ?_
  refine Lw.nil ?_
  refine Pw.thenN (Cw.out ?_)
  refine Cw.cond rfl ?_ ?_
  · intro g
    have hi' : i < ts.length := by have := of_decide_eq_true g; omega
    obtain ⟨u, eu, mu, k1, k2⟩ := tens_at hi'
    have e1 : ts.take (i + 1) = ts.take i ++ [u] := by rw [List.take_succ_eq_append_getElem hi', ← eu]
    have lu := trn_len hT
    rw [List.length_take] at lu
    refine Cw.skip ?_
    refine Pw.thenN (Cw.out ?_)
    refine Cw.seq ?_
    refine Cw.block ?_
    refine Cw.seq ?_
    refine Cw.region ?_
    refine Lw.val (Ex.move rfl) rfl ?_
    refine Lw.val (Ex.move rfl) rfl ?_
    refine Lw.val (Ex.idx st_35 rfl rfl h3.1 i rfl hi') rfl ?_
    refine Lw.val (Ex.ldE (cs := [u.x, u.y]) (ag_25 _) (sz_25 _) rfl h3.1 rfl (by decide) (two_cells k1 k2)) rfl ?_
    refine Lw.val (Ex.move rfl) rfl ?_
    refine Lw.callF rfl rfl (mturn_c u y o w3 (h3.2 u mu) h_y3) ?_
    rintro r w4 ⟨hn, hr⟩
    obtain ⟨c, rfl, h_c, hz⟩ := hr.both
    have hw := bt hw hn
    have hv13 := hv1
    have hv23 := hv2
    have hv1 := own_bs hv1 hn
    have hv2 := own_bs hv2 hn
    have zn := hn.size
    have hv15 := hv1
    have hv25 := hv2
    clear hr
    refine Lw.val (Ex.move rfl) rfl ?_
    refine Lw.val (Ex.extract (i := 0) rfl rfl) rfl ?_
    refine Lw.val (Ex.extract (i := 1) rfl rfl) rfl ?_
    refine Lw.boxed (cs := [c.x, c.y]) it_25 rfl rfl rfl rfl (fun _ => rfl) (h_c.one) ?_
    rintro A_c w5 eA_c b_c hn5 zhn5
    have hw := bt hw hn5
    have h_c := h_c.bs hn5
    have hv1 := own_bs hv1 hn5
    have hv2 := own_bs hv2 hn5
    obtain ⟨G, hG⟩ : ∃ G, G = tnE u o := ⟨_, rfl⟩
    rw [← hG] at hz ⊢
    refine Lw.val (Ex.assign rfl) rfl ?_
    refine Lw.nil ?_
    refine Pw.thenN (Cw.out ?_)
    refine Cw.seq ?_
    refine Cw.seq ?_
    refine Cw.region ?_
    refine Lw.val (Ex.move rfl) rfl ?_
    refine Lw.val (Ex.neq rfl rfl) rfl ?_
    refine Lw.nil ?_
    refine Pw.thenN (Cw.out ?_)
    refine Cw.cond rfl ?_ ?_
    · intro g2
      have g2 : G ≠ 0 := by simpa using g2
      have g3 : E ≠ 0 := fun e => by
        have J := jnE_iff.1 (hE.symm.trans e)
        rw [es] at J
        have := J.als u mu
        exact g2 (hG.trans (tnE_yes (J.toks u mu) (by rw [lo, this, List.length_set, hn0]) oo))
      refine Cw.seq ?_
      refine Cw.region ?_
      refine Lw.val (Ex.move rfl) rfl ?_
      refine Lw.val (Ex.neq rfl rfl) rfl ?_
      refine Lw.val (Ex.assign rfl) rfl ?_
      refine Lw.nil ?_
      refine Pw.thenN (Cw.out ?_)
      refine Cw.ret ?_
      refine Pw.thenR ?_
      refine Pw.blkR ?_
      refine Pw.thenR ?_
      refine Pw.thenR ?_
      refine Pw.blkR ?_
      refine Pw.thenR ?_
      refine Pw.ret1 rfl rfl ?_
      exact ⟨by simp [g3], hB.trans (hw.mono (below_size hB))⟩
    intro g2
    have g2 : G = 0 := by simpa using g2
    obtain ⟨s_c, l_c, o_c⟩ := hz g2
    obtain ⟨t_u, l_u⟩ := tnE_ok (hG.symm.trans g2)
    have off1 : OffV v1 c := fun A e => o_c A (own_block_lt hv13 e)
    have off2 : OffV v2 c := fun A e => o_c A (own_block_lt hv23 e)
    have hus5 : ∀ u ∈ us, u.at w5 ∧ OffV v1 u ∧ OffV v2 u := fun u hu => ⟨((hus u hu).1.bs hn).bs hn5, (hus u hu).2⟩
    have hlc := (tok_ok (tu_tok (n := n) (k := k) t_u (by rw [← l_u, lo]) hkl)).2
    rw [← ho, ← l_c] at hlc
    have hsz := Shapes.size_le (turn u.s o)
    have hlc4 : c.l.length ≤ 4096 := by omega
    have zw5 := hw.size
    refine Cw.skip ?_
    refine Pw.thenN (Cw.out ?_)
    refine Cw.seq ?_
    refine Cw.region ?_
    refine Lw.val (Ex.move rfl) rfl ?_
    refine Lw.val (Ex.ldA (ag_25 _) (sz_25 _) rfl rfl (by assumption)) rfl ?_
    refine Lw.valW (Xw.litA (vs := [(0, c.v)]) (cs := cellsOf [c]) st_35 it_25 rfl (by decide) (by decide) (by decide) (by kernel_rfl) rfl) rfl ?_
    rintro q w6 ⟨hq6, -, hn6, -⟩
    have hw := bt hw hn6
    have h_c := h_c.bs hn6
    have hv1 := own_bs hv1 hn6
    have hv2 := own_bs hv2 hn6
    have b_c := b_c.bs hn6
    have hus6 : ∀ u ∈ us, u.at w6 ∧ OffV v1 u ∧ OffV v2 u := fun u hu => ⟨(hus5 u hu).1.bs hn6, (hus5 u hu).2⟩
    have nAc : some A_c ≠ v1.ownBlock := fun e => by have := own_block_lt hv15 e.symm; omega
    have nAc2 : some A_c ≠ v2.ownBlock := fun e => by have := own_block_lt hv25 e.symm; omega
    have zw6 := hw.size
    refine Lw.valW (Xw.append2 (base := w.heap.size) st_35 it_25 rfl (by decide) rfl rfl hv1 (own_sl hq6) (by simp [cellsOf, h_c.1.one', h_c.2.one']) (by omega) (by omega) zw6) rfl ?_
    rintro v3 w7 ⟨hv3', hb7, hg7, hc7⟩
    have hw7 := hw.trans hb7
    have zw7 := hw7.size
    have h_c7 := at_offV h_c off1 hg7
    have hv27 := hap.keep hv2 hg7
    have b_c7 := b_c.by hg7 nAc
    have hus7 : ∀ u ∈ us, u.at w7 ∧ OffV v3 u ∧ OffV v2 u := fun u hu => ⟨at_offV (hus6 u hu).1 (hus6 u hu).2.1 hg7, offV_grow (hus6 u hu).2.1 (hus6 u hu).1 hc7, (hus6 u hu).2.2⟩
    have off3 : OffV v3 c := offV_grow off1 h_c hc7
    have hap7 : Apt v3 v2 := hap.grow hv2 hc7
    clear hw hb7 hg7 hv1 hv2 h_c b_c hus6 hus5
    refine Lw.val (Ex.assign rfl) rfl ?_
    refine Lw.nil ?_
    refine Pw.thenN (Cw.out ?_)
    refine Cw.region ?_
    refine Lw.val (Ex.move rfl) rfl ?_
    refine Lw.val (Ex.fieldAddr (q := 0) Try.underlying25 rfl (sz_23 _) rfl) rfl ?_
    refine Lw.val (Ex.ldB (ag_23 _) rfl (by assumption) rfl) rfl ?_
    refine Lw.valW (Xw.append2 (base := w.heap.size) st_23 it_21 rfl (by decide) rfl rfl hv27 h_c7.2 (one_map (fun _ => rfl) _) (by omega) (by omega) zw7) rfl ?_
    rintro v4 w8 ⟨hv4, hb8, hg8, hc8⟩
    have hw8 := hw7.trans hb8
    have h_c8 := at_offV h_c7 off2 hg8
    have hv38 := hap7.symm.keep hv3' hg8
    have hap8 : Apt v3 v4 := (hap7.symm.grow hv3' hc8).symm
    have hus8 : ∀ u ∈ us ++ [c], u.at w8 ∧ OffV v3 u ∧ OffV v4 u := fun u hu => by
      rcases List.mem_append.1 hu with hu | hu
      · exact ⟨at_offV (hus7 u hu).1 (hus7 u hu).2.2 hg8, (hus7 u hu).2.1, offV_grow (hus7 u hu).2.2 (hus7 u hu).1 hc8⟩
      · rw [List.mem_singleton.1 hu]; exact ⟨h_c8, off3, offV_grow off2 h_c7 hc8⟩
    have ef : ((us ++ [c]).map (·.l)).flatten = (us.map (·.l)).flatten ++ c.l := by simp
    have a1 : w8.ownsRow w.heap.size 25 2 v3 (us ++ [c]).length (cellsOf (us ++ [c])) := by rw [List.length_append, cellsOf_append]; exact hv38
    have a2 : w8.ownsRow w.heap.size 21 1 v4 ((us ++ [c]).map (·.l)).flatten.length (((us ++ [c]).map (·.l)).flatten.map i32) := by rw [ef, List.length_append, List.map_append]; exact hv4
    have a3 : ((us ++ [c]).map (·.l)).flatten.length ≤ 4096 * (i + 1) := by rw [ef, List.length_append]; omega
    have a4 : Trn o (ts.take (i + 1)) (us ++ [c]) := by rw [e1]; exact trn_snoc hT s_c l_c
    have a5 : ∀ t ∈ ts.take (i + 1), tok t.s t.l = true ∧ t.s.length = n := fun t ht => by
      rw [e1] at ht
      rcases List.mem_append.1 ht with ht | ht
      · exact hK t ht
      · rw [List.mem_singleton.1 ht]; exact ⟨t_u, by rw [← l_u, lo]⟩
    refine Lw.val (Ex.assign rfl) rfl ?_
    refine Lw.nil ?_
    refine Pw.blkN ?_
    refine Pw.thenN (Cw.out ?_)
    refine Cw.region ?_
    refine Lw.val (Ex.move rfl) rfl ?_
    refine Lw.val (Ex.addI rfl rfl (by omega)) rfl ?_
    refine Lw.val (Ex.assign rfl) rfl ?_
    refine Lw.nil ?_
    exact Pw.thenN (Pw.next ((i + 1, v3, v4, us ++ [c])) ⟨rfl, rfl, rfl, rfl, rfl, rfl, rfl, rfl, rfl, trivial⟩ (⟨hi', hw8, a1, ⟨a2, a3⟩, hap8, hus8, a4, a5⟩) (by simp only; omega))
  intro g
  have hi' : i = ts.length := by have := of_decide_eq_false g; omega
  subst hi'
  rw [List.take_length] at hT hK
  have hmT : Tens w3 v1 us := ⟨own_sl hv1, fun u hu => (hus u hu).1⟩
  have h_v2 := own_slT hv2
  have lu := trn_len hT
  have fw : 1 ≤ us.length ∧ us.length ≤ 4 := by omega
  have eU : s0T us = turn t.s o := by rw [s0T_trn hT hpos, es]
  have iU : jnE us 0 = 0 ↔ Jo 0 (s0T us) us := jnE_iff (k := 0)
  rw [eU] at iU
  have ns := hn0.symm
  have hEF : (E = 0 ∧ jnE us 0 = 0) ∨ (E = 10 ∧ jnE us 0 = 10) := by
    have x1 := jnE_two (ts := ts) (k := k) ⟨hpos, g1⟩ (fun t ht => (hK t ht).1) (by rw [es]; omega)
    have x2 : jnE us 0 = 0 ∨ jnE us 0 = 10 := jnE_two (k := 0) fw (fun u hu => by
      obtain ⟨t, ht, e1, e2⟩ := trn_mem hT hu
      rw [e1, e2, ho]
      exact tu_tok (hK t ht).1 (hK t ht).2 hkl) (by rw [eU, ho, tn_length]; omega)
    rw [← hE] at x1
    rcases x1 with h1 | h1
    · have J := jnE_iff.1 (hE.symm.trans h1)
      rw [es] at J
      refine .inl ⟨h1, iU.2 ?_⟩
      rw [ho] at hT ⊢
      exact jo_turn ns hT J
    · refine .inr ⟨h1, ?_⟩
      rcases x2 with h2 | h2
      · have J := iU.1 h2
        rw [ho] at hT J
        have J2 := jo_back ns hkl hT es hK J
        have : jnE ts (k : Int) = 0 := jnE_iff.2 (by rw [es]; exact J2)
        omega
      · exact h2
  clear g hi h3 hv3
  replace hB := hB.bs hw
  replace h := h.bs hw
  replace hv := hv.bs hw
  replace h_x := h_x.bs hw
  replace b_x := b_x.bs hw
  replace h_y := h_y.bs hw
  clear hw
  refine Cw.exit ?_
  refine Pw.thenE ?_
  refine Pw.thenE ?_
  refine Pw.blkHit ?_
  refine Pw.thenN (Cw.out ?_)
  refine Cw.seq ?_
  refine Cw.region ?_
  refine Lw.val (Ex.move rfl) rfl ?_
  refine Lw.callF rfl rfl (mjoin_g v1 us 0 _ hmT) ?_
  rintro r w ⟨hn, c, rfl, h_c, -, z_c⟩
  replace hB := hB.bs hn
  replace h := h.bs hn
  replace hv := hv.bs hn
  replace h_x := h_x.bs hn
  replace b_x := b_x.bs hn
  replace h_y := h_y.bs hn
  replace h_v2 := h_v2.bs hn
  clear hn
  refine Lw.val (Ex.move rfl) rfl ?_
  refine Lw.val (Ex.extract (i := 0) rfl rfl) rfl ?_
  refine Lw.val (Ex.extract (i := 1) rfl rfl) rfl ?_
  refine Lw.boxed (cs := [c.x, c.y]) it_25 rfl rfl rfl rfl (fun _ => rfl) (h_c.one) ?_
  rintro A_c w eA_c b_c hn -
  replace hB := hB.bs hn
  replace h := h.bs hn
  replace hv := hv.bs hn
  replace h_x := h_x.bs hn
  replace b_x := b_x.bs hn
  replace h_y := h_y.bs hn
  replace h_v2 := h_v2.bs hn
  replace h_c := h_c.bs hn
  clear hn
  refine Lw.val (Ex.assign rfl) rfl ?_
  refine Lw.nil ?_
  refine Pw.thenN (Cw.out ?_)
  refine Cw.seq ?_
  refine Cw.seq ?_
  refine Cw.region ?_
  refine Lw.val (Ex.move rfl) rfl ?_
  refine Lw.val (Ex.neq rfl rfl) rfl ?_
  refine Lw.val (Ex.move rfl) rfl ?_
  have h_c2 := h_c.2
  rcases hEF with ⟨q1, q2⟩ | ⟨q1, q2⟩
  · rw [q1, q2]
    obtain ⟨s_x, l_x⟩ := z_x q1
    obtain ⟨s_c, l_c⟩ := z_c q2
    rw [Int.toNat_natCast] at s_x l_x
    have J := jnE_iff.1 (hE.symm.trans q1)
    rw [es] at J
    have JU := iU.1 q2
    have hT2 := hT
    rw [ho] at hT2
    obtain ⟨n1, n2⟩ := jn_turn ns hT2 J
    have t_c : tok c.s c.l = true := by rw [s_c, l_c]; exact JU.jtok
    have lc : c.s.length = n := by
      have : c.s = jnS us 0 := s_c
      rw [this, JU.S, List.length_set, ho, tn_length]
    have e_z := tnE_yes t_c (by rw [lo, lc]) oo
    have flat : c.l = (us.map (·.l)).flatten := by
      have := jo_flat JU us.length fw.1 (Nat.le_refl _)
      rw [List.take_length] at this
      rw [l_c]; exact this
    refine Lw.know 106 (v' := .bool false) rfl (congrArg Value.bool (rfl)) ?_
    refine Lw.take (dj := 106) rfl rfl ?_
    refine Lw.val (Ex.move rfl) rfl ?_
    refine Lw.take (dj := 106) rfl rfl ?_
    refine Lw.val (Ex.neq rfl rfl) rfl ?_
    refine Lw.val (Ex.pickF rfl rfl) rfl ?_
    refine Lw.nil ?_
    refine Pw.thenN (Cw.out ?_)
    refine Cw.condB rfl false (rfl) ?_
    refine Cw.skip ?_
    refine Pw.thenN (Cw.out ?_)
    refine Cw.seq ?_
    refine Cw.region ?_
    refine Lw.val (Ex.ldA (ag_25 _) (sz_25 _) rfl rfl (by assumption)) rfl ?_
    refine Lw.val (Ex.move rfl) rfl ?_
    refine Lw.callF rfl rfl (mturn_g c y o _ h_c h_y) ?_
    rintro r w ⟨hn, z, rfl, h_z, -, hz⟩
    rw [e_z]
    obtain ⟨s_z, l_z⟩ := hz e_z
    replace hB := hB.bs hn
    replace h := h.bs hn
    replace hv := hv.bs hn
    replace h_x := h_x.bs hn
    replace b_x := b_x.bs hn
    replace h_y := h_y.bs hn
    replace h_v2 := h_v2.bs hn
    replace h_c := h_c.bs hn
    replace b_c := b_c.bs hn
    replace h_c2 := h_c2.bs hn
    clear hn
    refine Lw.val (Ex.move rfl) rfl ?_
    refine Lw.val (Ex.extract (i := 0) rfl rfl) rfl ?_
    refine Lw.val (Ex.extract (i := 1) rfl rfl) rfl ?_
    refine Lw.boxed (cs := [z.x, z.y]) it_25 rfl rfl rfl rfl (fun _ => rfl) (h_z.one) ?_
    rintro A_z w eA_z b_z hn -
    replace hB := hB.bs hn
    replace h := h.bs hn
    replace hv := hv.bs hn
    replace h_x := h_x.bs hn
    replace b_x := b_x.bs hn
    replace h_y := h_y.bs hn
    replace h_v2 := h_v2.bs hn
    replace h_c := h_c.bs hn
    replace b_c := b_c.bs hn
    replace h_c2 := h_c2.bs hn
    replace h_z := h_z.bs hn
    clear hn
    refine Lw.val (Ex.assign rfl) rfl ?_
    refine Lw.nil ?_
    refine Pw.thenN (Cw.out ?_)
    refine Cw.seq ?_
    refine Cw.region ?_
    refine Lw.val (Ex.fieldAddr (q := 0) Try.underlying25 rfl (sz_23 _) rfl) rfl ?_
    refine Lw.val (Ex.ldB (ag_23 _) rfl (by assumption) rfl) rfl ?_
    refine Lw.val (Ex.move rfl) rfl ?_
    refine Lw.callF rfl rfl (sameNumbers_c c.y v2 _ _ _ h_c2 h_v2) ?_
    rintro _ w ⟨rfl, hn⟩
    replace hB := hB.bs hn
    replace h := h.bs hn
    replace hv := hv.bs hn
    replace h_x := h_x.bs hn
    replace b_x := b_x.bs hn
    replace h_y := h_y.bs hn
    replace h_v2 := h_v2.bs hn
    replace h_c := h_c.bs hn
    replace b_c := b_c.bs hn
    replace h_c2 := h_c2.bs hn
    replace h_z := h_z.bs hn
    replace b_z := b_z.bs hn
    clear hn
    refine Lw.val (Ex.move rfl) rfl ?_
    refine Lw.know 123 (v' := .bool true) rfl (congrArg Value.bool ((decide_eq_true flat))) ?_
    refine Lw.take (dj := 123) rfl rfl ?_
    refine Lw.val (Ex.ldA (ag_25 _) (sz_25 _) rfl rfl (by assumption)) rfl ?_
    refine Lw.take (dj := 123) rfl rfl ?_
    refine Lw.val (Ex.move rfl) rfl ?_
    refine Lw.take (dj := 123) rfl rfl ?_
    refine Lw.val (Ex.ldA (ag_25 _) (sz_25 _) rfl rfl (by assumption)) rfl ?_
    refine Lw.take (dj := 123) rfl rfl ?_
    refine Lw.callF rfl rfl (is9_c z 0 x _ h_z h_x) ?_
    rintro _ w ⟨rfl, hn⟩
    replace hB := hB.bs hn
    replace h := h.bs hn
    replace hv := hv.bs hn
    replace h_x := h_x.bs hn
    replace b_x := b_x.bs hn
    replace h_y := h_y.bs hn
    replace h_v2 := h_v2.bs hn
    replace h_c := h_c.bs hn
    replace b_c := b_c.bs hn
    replace h_c2 := h_c2.bs hn
    replace h_z := h_z.bs hn
    replace b_z := b_z.bs hn
    clear hn
    refine Lw.val (Ex.pickT rfl rfl) rfl ?_
    refine Lw.val (Ex.assign rfl) rfl ?_
    refine Lw.nil ?_
    refine Pw.thenN (Cw.out ?_)
    refine Cw.ret ?_
    refine Pw.ret1 rfl rfl ?_
    have z1 : z.s = x.s := by rw [s_z, s_c, s_x, ho]; exact n1
    have z2 : z.l = x.l := by rw [l_z, s_c, l_c, l_x, ho]; exact n2
    exact ⟨by rw [z1, z2]; simp, hB⟩
  · rw [q1, q2]
    refine Lw.know 106 (v' := .bool true) rfl (congrArg Value.bool (rfl)) ?_
    refine Lw.pass (dj := 106) rfl rfl rfl rfl ?_
    refine Lw.pass (dj := 106) rfl rfl rfl rfl ?_
    refine Lw.val (Ex.pickT rfl rfl) rfl ?_
    refine Lw.nil ?_
    refine Pw.thenN (Cw.out ?_)
    refine Cw.condT rfl ?_
    refine Cw.seq ?_
    refine Cw.region ?_
    refine Lw.val (Ex.move rfl) rfl ?_
    refine Lw.val (Ex.move rfl) rfl ?_
    refine Lw.val (Ex.eql rfl rfl) rfl ?_
    refine Lw.val (Ex.assign rfl) rfl ?_
    refine Lw.nil ?_
    refine Pw.thenN (Cw.out ?_)
    refine Cw.ret ?_
    refine Pw.thenR ?_
    refine Pw.ret1 rfl rfl ?_
    exact ⟨rfl, hB⟩
set_option maxRecDepth 100000 in
set_option maxHeartbeats 2000000 in
theorem movesBehind_lifted (os : Os) (started : os.Started) (H : Type) (enc : TypeId × Value → H) :
    ReturnsInHanded {} Try.checked os 4 .any (Rows.movesBehindSpec.pre6 enc Try.prog Try.f4 Rows.movesBehindRow.domain false) (Rows.movesBehindSpec.post enc Try.prog Try.f4 false true false false) := by
  refine returnsInHanded_of_change_sized (C := Try.checked) own started (by kernel_rfl) Try.func4
    (ChangeSpec.witness6 (enc := enc) (C := Try.checked) false ⟨#[], #[.slice none 0 0, .int .u8 0], []⟩ 8 (by kernel_rfl) (by kernel_rfl) (by kernel_rfl) (by kernel_rfl)) ?_
  intro W base args ds gs before hval0 hW hcnd hsz0 _
  have hval : ∀ (j : Nat) t v, Try.f4.params[j]? = some t → args[j]? = some v → Value.okWide Try.prog W .any base t v := hval0
  have hW' := hW
  obtain ⟨p, q, hA0, hV, rfl, hfz, hnd⟩ := hW
  have hA : DataW.TrodAll enc Try.prog W 0 (fun _ => true) true Try.f4.params.toList args.toList ds p := hA0
  have hsz : (DataW.weightsEach Try.prog (Try.f4.params.toList ++ Rows.movesBehindSpec.plain.varTypes Try.prog) (ds ++ gs)).all (· ≤ reachBytes) = true := hsz0
  rw [Try.params4] at hA hval hsz
  obtain ⟨v0, vs0, d0, ds0, p0, q0, hargs, rfl, rfl, h0, r0⟩ := trodAll_cons hA
  obtain ⟨v1, vs1, d1, ds1, p1, q1, rfl, rfl, rfl, h1, r1⟩ := trodAll_cons r0
  obtain ⟨rfl, rfl, rfl⟩ := trodAll_nil r1
  obtain rfl : args = #[v0, v1] := by cases args; simp_all
  obtain ⟨rfl, rfl⟩ := trodVars_none hV
  have k0 := h0
  have lt0 : ∀ x ∈ p0, x.block < W.heap.size := by obtain ⟨m, hm⟩ := k0; exact DataW.trod_lt m _ _ _ hm
  have i0 := in_of (j := 0) (t := 35) hsz rfl rfl h0
  have o0 := hval 0 35 v0 rfl rfl
  have k1 := h1
  have lt1 : ∀ x ∈ p1, x.block < W.heap.size := by obtain ⟨m, hm⟩ := k1; exact DataW.trod_lt m _ _ _ hm
  have i1 := in_of (j := 1) (t := 5) hsz rfl rfl h1
  have o1 := hval 1 5 v1 rfl rfl
  clear hA0 hval0 hsz0 hsz
  obtain ⟨ts, ht, hf⟩ := arg_tens o0 i0
  obtain ⟨d, rfl⟩ := arg_num (BitVec.ofInt 8) b8 (fun _ h => wf_u8 h) un_5 o1 i1
  refine (law_calls (movesBehind_w v0 ts d W ht hf)).mono fun e W' ⟨he, bel⟩ => ?_
  subst he
  exact ⟨_, rfl, _, _, _, [], _, [], hW', trodAll_mk1 (shut_bool un_4 _), (trodAll_cons_mk (Below.trod laidOut (by kernel_rfl) (of_decide_eq_true (by kernel_rfl)) k0 bel lt0) (trodAll_cons_mk (Below.trod laidOut (by kernel_rfl) (of_decide_eq_true (by kernel_rfl)) k1 bel lt1) trodAll_mk0)), rfl, bel.frame _, fun h => by cases h⟩

/-- The statement. -/
theorem movesBehind_proved : Rows.MovesBehindSaid :=
  OpenClaim.holds_of_wide 4 Try.f4 rfl rfl rfl rfl rfl rfl rfl ⟨rfl, rfl, rfl, rfl, rfl⟩ rfl rfl rfl rfl rfl (by kernel_rfl) Try.func4 (by kernel_rfl)
    (of_decide_eq_true (by kernel_rfl)) (by unfold Func.isWrapper; first | (rw [if_pos (by decide +kernel)]; kernel_rfl) | (rw [if_neg (by decide +kernel)]; exact ⟨rfl, rfl⟩))
    (fun os started H enc _ => movesBehind_lifted os started H enc)
#print axioms movesBehind_proved
end Go.Proofs.Ytkhndfaampkbnaa
