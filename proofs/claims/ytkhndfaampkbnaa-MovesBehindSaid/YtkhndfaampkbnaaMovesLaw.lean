/- What the statements on moves share. -/
import Derived.Test.YtkhndfaampkbnaaMovesJoin
import Derived.Test.YtkhndfaampkbnaaMovesSum
import Derived.Test.YtkhndfaampkbnaaTwins
import Derived.Test.YtkhndfaampkbnaaTensorsLaw
import Derived.Test.YtkhndfaampkbnaaOpen
import Derived.Test.YtkhndfaampkbnaaRows
namespace Go.Proofs.Ytkhndfaampkbnaa
open Go Go.Dd Go.RowKit Go.ChangeShapes Go.WideShapes Go.ChangeAt

theorem own : ownKnob Try.prog.godebug = none := by kernel_rfl
theorem laidOut : laidOutB Try.prog = true := by kernel_rfl
/-- Lists that are not longer than any machine's. -/
def few (a : T4) : Prop := a.s.length ≤ 1125899906842624 ∧ a.l.length ≤ 1125899906842624
theorem tsz_bd {s : List Int} {l : List (BitVec 32)} (h1 : s.length ≤ 1125899906842624) (h2 : l.length ≤ 1125899906842624) : 0 ≤ tsz s l ∧ tsz s l ≤ 4503599627370496 := by unfold tsz; split <;> omega

theorem mshape_g (t : T4) (u : Value) (s : List Int) (W : World) (h_t : t.at W) (h_u : SlT (Value.int .i64) W u s) :
    Fnc Try.prog 9 [t.v, u] W (fun r w' => Below W.heap.size W w' ∧ GetsK w' r (mvE t s) s t.l) :=
  (mshape_c t u s W h_t h_u).mono fun _ _ h => ⟨h.1, h.2.gets⟩
theorem mturn_g (t : T4) (v : Value) (o : List Int) (W : World) (h_t : t.at W) (h_v : SlT (Value.int .i64) W v o) :
    Fnc Try.prog 14 [t.v, v] W (fun r w' => Below W.heap.size W w' ∧ GetsK w' r (tnE t o) (turn t.s o) (tuL t.s t.l o)) :=
  (mturn_c t v o W h_t h_v).mono fun _ _ h => ⟨h.1, h.2.gets⟩
theorem mjoin_g (v : Value) (ts : List T4) (al : Int) (W : World) (h : Tens W v ts) :
    Fnc Try.prog 13 [v, .int .i64 al] W (fun r w' => Below W.heap.size W w' ∧ GetsK w' r (jnE ts al) (jnS ts al.toNat) (jnL ts al.toNat)) :=
  (mjoin_c v ts al W h).mono fun _ _ h => ⟨h.1, h.2.gets⟩
theorem msum_g (t : T4) (al : Int) (W : World) (h_t : t.at W) :
    Fnc Try.prog 15 [t.v, .int .i64 al] W (fun r w' => Below W.heap.size W w' ∧ GetsK w' r (suE t al) (without t.s al.toNat) (suL t.s t.l al.toNat)) :=
  (msum_c t al W h_t).mono fun _ _ h => ⟨h.1, h.2.gets⟩

theorem of9_c (u v : Value) (s : List Int) (l : List (BitVec 32)) (W : World) (h_u : SlT (Value.int .i64) W u s) (h_v : SlT i32 W v l) : Fnc Try.prog 17 [u, v] W (fun r w' => ∃ a : T4, r = a.v ∧ a.s = s ∧ a.l = l ∧ a.at w' ∧ Below W.heap.size W w') := by
  have hB := Below.refl W.heap.size W
  have hu0 := h_u
  have hv0 := h_v
  refine Fnc.enter (n := 8) Try.func17 (by kernel_rfl) rfl rfl rfl ?_
  refine Cw.seq ?_
  refine Cw.region ?_
  refine Lw.newA it_25 rfl ?_
  rintro A_r w eA_r b_r hn -
  replace hB := hB.bs hn
  replace h_u := h_u.bs hn
  replace h_v := h_v.bs hn
  clear hn
  refine Lw.nil ?_
  refine Pw.thenN (Cw.out ?_)
  refine Cw.seq ?_
  refine Cw.region ?_
  refine Lw.val (Ex.move rfl) rfl ?_
  refine Lw.val (Ex.move rfl) rfl ?_
  have z := below_size hB
  refine Lw.val (Ex.build (vs := [(0, u), (1, v)]) (cs := [u, v]) rfl (bt_ten _ _ h_u.one h_v.one)) rfl ?_
  refine Lw.unit (Xu.stA (cs := [u, v]) rfl rfl rfl rfl (by simp [h_u.one', h_v.one']) b_r rfl) ?_
  rintro w3 ⟨b, hg, -⟩
  have hne : ∀ {α : Type} {enc : α → Value} {x : Value} {l : List α}, SlT enc W x l → SlT enc w x l → SlT enc w3 x l := fun h0 h1 => Sl.stay h1 fun k e hk => hg.block k (Sl.blk h1 hk k e) fun e2 => by
    have := Sl.blk h0 hk k e
    cases e2
    omega
  refine Lw.nil ?_
  refine Pw.thenN (Cw.out ?_)
  refine Cw.ret ?_
  refine Pw.retC rfl rfl (by assumption) (Try.underlying25) rfl rfl rfl ?_
  exact ⟨⟨u, v, s, l⟩, rfl, rfl, rfl, ⟨hne hu0 h_u, hne hv0 h_v⟩, hB.grown hg (below_size hB) (by rintro _ ⟨⟩; omega)⟩
theorem is9_c (a : T4) (e : Int) (b : T4) (W : World) (h_a : a.at W) (h_b : b.at W) : Fnc Try.prog 12 [a.v, .int .i64 e, b.v] W (fun r w' => r = .bool (decide (e = 0) && (decide (a.s = b.s) && decide (a.l = b.l))) ∧ Below W.heap.size W w') := by
  have hB := Below.refl W.heap.size W
  refine Fnc.enter (n := 14) Try.func12 (by kernel_rfl) rfl rfl rfl ?_
  refine Cw.seq ?_
  refine Cw.region ?_
  refine Lw.boxV (cs := [a.x, a.y]) rfl rfl rfl ?_
  rintro A_a w eA_a b_a hn -
  replace hB := hB.bs hn
  replace h_a := h_a.bs hn
  replace h_b := h_b.bs hn
  clear hn
  refine Lw.boxV (cs := [b.x, b.y]) rfl rfl rfl ?_
  rintro A_b w eA_b b_b hn -
  replace hB := hB.bs hn
  replace h_a := h_a.bs hn
  replace h_b := h_b.bs hn
  replace b_a := b_a.bs hn
  clear hn
  refine Lw.val (Ex.assign rfl) rfl ?_
  refine Lw.nil ?_
  refine Pw.thenN (Cw.out ?_)
  refine Cw.seq ?_
  refine Cw.region ?_
  refine Lw.val (Ex.move rfl) rfl ?_
  refine Lw.val (Ex.eql rfl rfl) rfl ?_
  refine Lw.val (Ex.move rfl) rfl ?_
  refine Lw.part 9 rfl ?_ ?_
  · intro g
    refine Lw.take (dj := 9) rfl rfl ?_
    refine Lw.val (Ex.ldA (ag_25 _) (sz_25 _) rfl rfl (by assumption)) rfl ?_
    refine Lw.take (dj := 9) rfl rfl ?_
    refine Lw.val (Ex.ldA (ag_25 _) (sz_25 _) rfl rfl (by assumption)) rfl ?_
    refine Lw.take (dj := 9) rfl rfl ?_
    refine Lw.callF rfl rfl (same_c _ _ _ _ _ _ _ _ _ h_a.1 h_a.2 h_b.1 h_b.2) ?_
    rintro _ w ⟨rfl, hn⟩
    replace hB := hB.bs hn
    replace h_a := h_a.bs hn
    replace h_b := h_b.bs hn
    replace b_a := b_a.bs hn
    replace b_b := b_b.bs hn
    clear hn
    refine Lw.val (Ex.pickT rfl rfl) rfl ?_
    refine Lw.val (Ex.assign rfl) rfl ?_
    refine Lw.nil ?_
    refine Pw.thenN (Cw.out ?_)
    refine Cw.ret ?_
    refine Pw.ret1 rfl rfl ?_
    exact ⟨by rw [g]; rfl, hB⟩
  intro g
  refine Lw.pass (dj := 9) rfl rfl rfl rfl ?_
  refine Lw.pass (dj := 9) rfl rfl rfl rfl ?_
  refine Lw.pass (dj := 9) rfl rfl rfl rfl ?_
  refine Lw.val (Ex.pickF rfl rfl) rfl ?_
  refine Lw.val (Ex.assign rfl) rfl ?_
  refine Lw.nil ?_
  refine Pw.thenN (Cw.out ?_)
  refine Cw.ret ?_
  refine Pw.ret1 rfl rfl ?_
  exact ⟨by rw [g]; rfl, hB⟩
def sml (a : T4) : Bool := !bey 0 [tsz a.s a.l] && tok a.s a.l
theorem small_c (a : T4) (W : World) (h_a : a.at W) (f : few a) : Fnc Try.prog 8 [a.v] W (fun r w' => r = .bool (sml a) ∧ Below W.heap.size W w') := by
  have hB := Below.refl W.heap.size W
  refine Fnc.enter (n := 12) Try.func8 (by kernel_rfl) rfl rfl rfl ?_
  refine Cw.seq ?_
  refine Cw.region ?_
  refine Lw.boxV (cs := [a.x, a.y]) rfl rfl rfl ?_
  rintro A_a w eA_a b_a hn -
  replace hB := hB.bs hn
  replace h_a := h_a.bs hn
  clear hn
  refine Lw.val (Ex.assign rfl) rfl ?_
  refine Lw.nil ?_
  refine Pw.thenN (Cw.out ?_)
  refine Cw.seq ?_
  refine Cw.region ?_
  refine Lw.val (Ex.ldA (ag_25 _) (sz_25 _) rfl rfl (by assumption)) rfl ?_
  refine Lw.callF rfl rfl (tsize_c a w h_a f.1 f.2) ?_
  rintro _ w ⟨rfl, hn⟩
  replace hB := hB.bs hn
  replace h_a := h_a.bs hn
  replace b_a := b_a.bs hn
  clear hn
  refine Lw.valW (Xw.lit (vs := [tsz a.s a.l].map (Value.int .i64)) st_22 it_3 rfl rfl rfl rfl rfl) rfl ?_
  rintro u w ⟨ho, -, hn, -⟩
  replace hB := hB.bs hn
  replace h_a := h_a.bs hn
  replace b_a := b_a.bs hn
  clear hn
  refine Lw.callF rfl rfl (beyond_c u [tsz a.s a.l] w (own_slT ho) (by intro x hx; simp at hx; subst hx; exact tsz_bd f.1 f.2)) ?_
  rintro _ w ⟨rfl, hn⟩
  replace hB := hB.bs hn
  replace h_a := h_a.bs hn
  replace b_a := b_a.bs hn
  clear hn
  refine Lw.val (Ex.not rfl) rfl ?_
  refine Lw.val (Ex.move rfl) rfl ?_
  refine Lw.part 8 rfl ?_ ?_
  · intro g
    refine Lw.take (dj := 8) rfl rfl ?_
    refine Lw.val (Ex.ldA (ag_25 _) (sz_25 _) rfl rfl (by assumption)) rfl ?_
    refine Lw.take (dj := 8) rfl rfl ?_
    refine Lw.callF rfl rfl (tcheck_c a.x a.y a.s a.l _ h_a.1 h_a.2) ?_
    rintro _ w ⟨rfl, hn⟩
    replace hB := hB.bs hn
    replace h_a := h_a.bs hn
    replace b_a := b_a.bs hn
    clear hn
    refine Lw.val (Ex.pickT rfl rfl) rfl ?_
    refine Lw.val (Ex.assign rfl) rfl ?_
    refine Lw.nil ?_
    refine Pw.thenN (Cw.out ?_)
    refine Cw.ret ?_
    refine Pw.ret1 rfl rfl ?_
    exact ⟨by unfold sml; rw [g]; rfl, hB⟩
  intro g
  refine Lw.pass (dj := 8) rfl rfl rfl rfl ?_
  refine Lw.pass (dj := 8) rfl rfl rfl rfl ?_
  refine Lw.val (Ex.pickF rfl rfl) rfl ?_
  refine Lw.val (Ex.assign rfl) rfl ?_
  refine Lw.nil ?_
  refine Pw.thenN (Cw.out ?_)
  refine Cw.ret ?_
  refine Pw.ret1 rfl rfl ?_
  exact ⟨by unfold sml; rw [g]; rfl, hB⟩
theorem sml_ok {a : T4} (h : sml a = true) : tok a.s a.l = true ∧ a.s.length ≤ 4 ∧ a.l.length ≤ 4096 := by
  simp only [sml, Bool.and_eq_true] at h
  obtain ⟨k1, k2⟩ := tok_ok h.2
  have S := (Shapes.ok_iff a.s).1 k1
  have := Shapes.size_le a.s
  exact ⟨h.2, S.1.2, by omega⟩
set_option maxHeartbeats 2000000 in
theorem alive_c (w0 : World) : Fnc Try.prog 7 [] w0 (fun r w' => r = .bool true ∧ Below w0.heap.size w0 w') := by
  have hB := Below.refl w0.heap.size w0
  refine Fnc.enter (n := 111) Try.func7 (by kernel_rfl) rfl rfl rfl ?_
  refine Cw.seq ?_
  refine Cw.region ?_
  refine Lw.val (Ex.assign rfl) rfl ?_
  refine Lw.nil ?_
  refine Pw.thenN (Cw.out ?_)
  refine Cw.seq ?_
  refine Cw.region ?_
  refine Lw.valW (Xw.lit (vs := ([2, 3] : List Int).map (Value.int .i64)) st_22 it_3 rfl rfl rfl rfl rfl) rfl ?_
  rintro u1 w ⟨ho, -, hn, -⟩
  have t_u1 := own_slT ho
  clear ho
  replace hB := hB.bs hn
  clear hn
  refine Lw.valW (Xw.lit (vs := ([1#32, 2#32, 3#32, 4#32, 5#32, 6#32] : List (BitVec 32)).map i32) st_23 it_21 rfl (by kernel_rfl) rfl rfl rfl) rfl ?_
  rintro u2 w ⟨ho, -, hn, -⟩
  have t_u2 := own_slT ho
  clear ho
  replace hB := hB.bs hn
  replace t_u1 := t_u1.bs hn
  clear hn
  refine Lw.callF rfl rfl (of9_c u1 u2 [2, 3] [1#32, 2#32, 3#32, 4#32, 5#32, 6#32] _ t_u1 t_u2) ?_
  rintro _ w ⟨t, rfl, s_t, l_t, h_t, hn⟩
  replace hB := hB.bs hn
  replace t_u1 := t_u1.bs hn
  replace t_u2 := t_u2.bs hn
  clear hn
  clear t_u1 t_u2
  refine Lw.boxed (cs := [t.x, t.y]) it_25 rfl rfl rfl rfl (fun _ => rfl) (h_t.one) ?_
  rintro A_t w eA_t b_t hn -
  replace hB := hB.bs hn
  replace h_t := h_t.bs hn
  clear hn
  refine Lw.nil ?_
  refine Pw.thenN (Cw.out ?_)
  refine Cw.seq ?_
  refine Cw.region ?_
  refine Lw.val (Ex.ldA (ag_25 _) (sz_25 _) rfl rfl (by assumption)) rfl ?_
  have et : t = T4.mk t.x t.y [2, 3] [1#32, 2#32, 3#32, 4#32, 5#32, 6#32] := by rw [← s_t, ← l_t]
  refine Lw.valW (Xw.lit (vs := ([3, 2] : List Int).map (Value.int .i64)) st_22 it_3 rfl rfl rfl rfl rfl) rfl ?_
  rintro u1 w ⟨ho, -, hn, -⟩
  have t_u1 := own_slT ho
  clear ho
  replace hB := hB.bs hn
  replace h_t := h_t.bs hn
  replace b_t := b_t.bs hn
  clear hn
  have e_a : mvE t [3, 2] = 0 := by unfold mvE; rw [s_t, l_t]; kernel_rfl
  refine Lw.callF rfl rfl (mshape_g t u1 [3, 2] _ h_t t_u1) ?_
  rintro r w ⟨hn, a, rfl, h_a, -, hz⟩
  rw [e_a]
  obtain ⟨s_a, l_a⟩ := hz e_a
  clear hz
  replace hB := hB.bs hn
  replace h_t := h_t.bs hn
  replace b_t := b_t.bs hn
  replace t_u1 := t_u1.bs hn
  clear hn
  refine Lw.val (Ex.move rfl) rfl ?_
  refine Lw.val (Ex.extract (i := 0) rfl rfl) rfl ?_
  refine Lw.val (Ex.extract (i := 1) rfl rfl) rfl ?_
  refine Lw.boxed (cs := [a.x, a.y]) it_25 rfl rfl rfl rfl (fun _ => rfl) (h_a.one) ?_
  rintro A_a w eA_a b_a hn -
  replace hB := hB.bs hn
  replace h_t := h_t.bs hn
  replace b_t := b_t.bs hn
  replace t_u1 := t_u1.bs hn
  replace h_a := h_a.bs hn
  clear hn
  refine Lw.val (Ex.assign rfl) rfl ?_
  refine Lw.nil ?_
  refine Pw.thenN (Cw.out ?_)
  refine Cw.seq ?_
  refine Cw.region ?_
  refine Lw.val (Ex.ldA (ag_25 _) (sz_25 _) rfl rfl (by assumption)) rfl ?_
  rw [l_t] at l_a
  clear t_u1
  refine Lw.valW (Xw.lit (vs := ([1, 0] : List Int).map (Value.int .i64)) st_22 it_3 rfl rfl rfl rfl rfl) rfl ?_
  rintro u1 w ⟨ho, -, hn, -⟩
  have t_u1 := own_slT ho
  clear ho
  replace hB := hB.bs hn
  replace h_t := h_t.bs hn
  replace b_t := b_t.bs hn
  replace h_a := h_a.bs hn
  replace b_a := b_a.bs hn
  clear hn
  have e_b : tnE t [1, 0] = 0 := by unfold tnE; rw [s_t, l_t]; kernel_rfl
  refine Lw.callF rfl rfl (mturn_g t u1 [1, 0] _ h_t t_u1) ?_
  rintro r w ⟨hn, b, rfl, h_b, -, hz⟩
  rw [e_b]
  obtain ⟨s_b, l_b⟩ := hz e_b
  clear hz
  replace hB := hB.bs hn
  replace h_t := h_t.bs hn
  replace b_t := b_t.bs hn
  replace h_a := h_a.bs hn
  replace b_a := b_a.bs hn
  replace t_u1 := t_u1.bs hn
  clear hn
  refine Lw.val (Ex.move rfl) rfl ?_
  refine Lw.val (Ex.extract (i := 0) rfl rfl) rfl ?_
  refine Lw.val (Ex.extract (i := 1) rfl rfl) rfl ?_
  refine Lw.boxed (cs := [b.x, b.y]) it_25 rfl rfl rfl rfl (fun _ => rfl) (h_b.one) ?_
  rintro A_b w eA_b b_b hn -
  replace hB := hB.bs hn
  replace h_t := h_t.bs hn
  replace b_t := b_t.bs hn
  replace h_a := h_a.bs hn
  replace b_a := b_a.bs hn
  replace t_u1 := t_u1.bs hn
  replace h_b := h_b.bs hn
  clear hn
  refine Lw.val (Ex.assign rfl) rfl ?_
  refine Lw.nil ?_
  refine Pw.thenN (Cw.out ?_)
  refine Cw.seq ?_
  refine Cw.region ?_
  refine Lw.val (Ex.ldA (ag_25 _) (sz_25 _) rfl rfl (by assumption)) rfl ?_
  replace s_b : b.s = [3, 2] := by rw [s_b, s_t]; kernel_rfl
  replace l_b : b.l = [1#32, 4#32, 2#32, 5#32, 3#32, 6#32] := by rw [l_b, s_t, l_t]; kernel_rfl
  clear t_u1
  refine Lw.valW (Xw.lit (vs := ([0, 0] : List Int).map (Value.int .i64)) st_22 it_3 rfl rfl rfl rfl rfl) rfl ?_
  rintro u1 w ⟨ho, -, hn, -⟩
  have t_u1 := own_slT ho
  clear ho
  replace hB := hB.bs hn
  replace h_t := h_t.bs hn
  replace b_t := b_t.bs hn
  replace h_a := h_a.bs hn
  replace b_a := b_a.bs hn
  replace h_b := h_b.bs hn
  replace b_b := b_b.bs hn
  clear hn
  have e_z : tnE t [0, 0] = 1 := by unfold tnE; rw [s_t, l_t]; kernel_rfl
  refine Lw.callF rfl rfl (mturn_g t u1 [0, 0] _ h_t t_u1) ?_
  rintro r w ⟨hn, z, rfl, h_z, -, -⟩
  rw [e_z]
  replace hB := hB.bs hn
  replace h_t := h_t.bs hn
  replace b_t := b_t.bs hn
  replace h_a := h_a.bs hn
  replace b_a := b_a.bs hn
  replace h_b := h_b.bs hn
  replace b_b := b_b.bs hn
  replace t_u1 := t_u1.bs hn
  clear hn
  refine Lw.val (Ex.move rfl) rfl ?_
  refine Lw.val (Ex.extract (i := 0) rfl rfl) rfl ?_
  refine Lw.val (Ex.extract (i := 1) rfl rfl) rfl ?_
  refine Lw.boxed (cs := [z.x, z.y]) it_25 rfl rfl rfl rfl (fun _ => rfl) (h_z.one) ?_
  rintro A_z w eA_z b_z hn -
  replace hB := hB.bs hn
  replace h_t := h_t.bs hn
  replace b_t := b_t.bs hn
  replace h_a := h_a.bs hn
  replace b_a := b_a.bs hn
  replace h_b := h_b.bs hn
  replace b_b := b_b.bs hn
  replace t_u1 := t_u1.bs hn
  clear hn
  refine Lw.val (Ex.assign rfl) rfl ?_
  refine Lw.nil ?_
  refine Pw.thenN (Cw.out ?_)
  refine Cw.seq ?_
  refine Cw.region ?_
  refine Lw.val (Ex.ldA (ag_25 _) (sz_25 _) rfl rfl (by assumption)) rfl ?_
  refine Lw.val (Ex.ldA (ag_25 _) (sz_25 _) rfl rfl (by assumption)) rfl ?_
  clear t_u1
  refine Lw.valW (Xw.litA (vs := [(0, t.v), (1, t.v)]) (cs := cellsOf [t, t]) st_35 it_25 rfl (by decide) (by decide) (by decide) (by kernel_rfl) rfl) rfl ?_
  rintro v w ⟨ho, -, hn, -⟩
  replace hB := hB.bs hn
  replace h_t := h_t.bs hn
  replace b_t := b_t.bs hn
  replace h_a := h_a.bs hn
  replace b_a := b_a.bs hn
  replace h_b := h_b.bs hn
  replace b_b := b_b.bs hn
  replace b_z := b_z.bs hn
  clear hn
  have e_c : jnE [t, t] 1 = 0 := by rw [et]; kernel_rfl
  refine Lw.callF rfl rfl (mjoin_g v [t, t] 1 _ ⟨own_sl ho, fun u hu => by simp at hu; subst hu; exact h_t⟩) ?_
  rintro r w ⟨hn, c, rfl, h_c, -, hz⟩
  rw [e_c]
  obtain ⟨s_c, l_c⟩ := hz e_c
  clear hz
  replace hB := hB.bs hn
  replace h_t := h_t.bs hn
  replace b_t := b_t.bs hn
  replace h_a := h_a.bs hn
  replace b_a := b_a.bs hn
  replace h_b := h_b.bs hn
  replace b_b := b_b.bs hn
  replace b_z := b_z.bs hn
  clear hn
  refine Lw.val (Ex.move rfl) rfl ?_
  refine Lw.val (Ex.extract (i := 0) rfl rfl) rfl ?_
  refine Lw.val (Ex.extract (i := 1) rfl rfl) rfl ?_
  refine Lw.boxed (cs := [c.x, c.y]) it_25 rfl rfl rfl rfl (fun _ => rfl) (h_c.one) ?_
  rintro A_c w eA_c b_c hn -
  replace hB := hB.bs hn
  replace h_t := h_t.bs hn
  replace b_t := b_t.bs hn
  replace h_a := h_a.bs hn
  replace b_a := b_a.bs hn
  replace h_b := h_b.bs hn
  replace b_b := b_b.bs hn
  replace b_z := b_z.bs hn
  replace h_c := h_c.bs hn
  clear hn
  refine Lw.val (Ex.assign rfl) rfl ?_
  refine Lw.nil ?_
  refine Pw.thenN (Cw.out ?_)
  refine Cw.seq ?_
  refine Cw.region ?_
  refine Lw.val (Ex.ldA (ag_25 _) (sz_25 _) rfl rfl (by assumption)) rfl ?_
  replace s_c : c.s = [2, 6] := by rw [s_c, et]; kernel_rfl
  replace l_c : c.l = [1#32, 2#32, 3#32, 1#32, 2#32, 3#32, 4#32, 5#32, 6#32, 4#32, 5#32, 6#32] := by rw [l_c, et]; kernel_rfl
  have e_d : suE t 0 = 0 := by unfold suE; rw [s_t, l_t]; kernel_rfl
  refine Lw.callF rfl rfl (msum_g t 0 _ h_t) ?_
  rintro r w ⟨hn, d, rfl, h_d, -, hz⟩
  rw [e_d]
  obtain ⟨s_d, l_d⟩ := hz e_d
  clear hz
  replace hB := hB.bs hn
  replace h_t := h_t.bs hn
  replace b_t := b_t.bs hn
  replace h_a := h_a.bs hn
  replace b_a := b_a.bs hn
  replace h_b := h_b.bs hn
  replace b_b := b_b.bs hn
  replace b_z := b_z.bs hn
  replace h_c := h_c.bs hn
  replace b_c := b_c.bs hn
  clear hn
  refine Lw.val (Ex.move rfl) rfl ?_
  refine Lw.val (Ex.extract (i := 0) rfl rfl) rfl ?_
  refine Lw.val (Ex.extract (i := 1) rfl rfl) rfl ?_
  refine Lw.boxed (cs := [d.x, d.y]) it_25 rfl rfl rfl rfl (fun _ => rfl) (h_d.one) ?_
  rintro A_d w eA_d b_d hn -
  replace hB := hB.bs hn
  replace h_t := h_t.bs hn
  replace b_t := b_t.bs hn
  replace h_a := h_a.bs hn
  replace b_a := b_a.bs hn
  replace h_b := h_b.bs hn
  replace b_b := b_b.bs hn
  replace b_z := b_z.bs hn
  replace h_c := h_c.bs hn
  replace b_c := b_c.bs hn
  replace h_d := h_d.bs hn
  clear hn
  refine Lw.val (Ex.assign rfl) rfl ?_
  refine Lw.nil ?_
  refine Pw.thenN (Cw.out ?_)
  refine Cw.seq ?_
  refine Cw.region ?_
  refine Lw.val (Ex.ldA (ag_25 _) (sz_25 _) rfl rfl (by assumption)) rfl ?_
  replace s_d : d.s = [3] := by rw [s_d, s_t]; kernel_rfl
  replace l_d : d.l = [5#32, 7#32, 9#32] := by rw [l_d, s_t, l_t]; kernel_rfl
  have e_p : suE t 1 = 0 := by unfold suE; rw [s_t, l_t]; kernel_rfl
  refine Lw.callF rfl rfl (msum_g t 1 _ h_t) ?_
  rintro r w ⟨hn, p, rfl, h_p, -, hz⟩
  rw [e_p]
  obtain ⟨s_p, l_p⟩ := hz e_p
  clear hz
  replace hB := hB.bs hn
  replace h_t := h_t.bs hn
  replace b_t := b_t.bs hn
  replace h_a := h_a.bs hn
  replace b_a := b_a.bs hn
  replace h_b := h_b.bs hn
  replace b_b := b_b.bs hn
  replace b_z := b_z.bs hn
  replace h_c := h_c.bs hn
  replace b_c := b_c.bs hn
  replace h_d := h_d.bs hn
  replace b_d := b_d.bs hn
  clear hn
  refine Lw.val (Ex.move rfl) rfl ?_
  refine Lw.val (Ex.extract (i := 0) rfl rfl) rfl ?_
  refine Lw.val (Ex.extract (i := 1) rfl rfl) rfl ?_
  refine Lw.boxed (cs := [p.x, p.y]) it_25 rfl rfl rfl rfl (fun _ => rfl) (h_p.one) ?_
  rintro A_p w eA_p b_p hn -
  replace hB := hB.bs hn
  replace h_t := h_t.bs hn
  replace b_t := b_t.bs hn
  replace h_a := h_a.bs hn
  replace b_a := b_a.bs hn
  replace h_b := h_b.bs hn
  replace b_b := b_b.bs hn
  replace b_z := b_z.bs hn
  replace h_c := h_c.bs hn
  replace b_c := b_c.bs hn
  replace h_d := h_d.bs hn
  replace b_d := b_d.bs hn
  replace h_p := h_p.bs hn
  clear hn
  refine Lw.val (Ex.assign rfl) rfl ?_
  refine Lw.nil ?_
  refine Pw.thenN (Cw.out ?_)
  refine Cw.seq ?_
  refine Cw.region ?_
  replace s_p : p.s = [2] := by rw [s_p, s_t]; kernel_rfl
  replace l_p : p.l = [6#32, 15#32] := by rw [l_p, s_t, l_t]; kernel_rfl
  refine Lw.valW (Xw.lit (vs := ([3] : List Int).map (Value.int .i64)) st_22 it_3 rfl rfl rfl rfl rfl) rfl ?_
  rintro u1 w ⟨ho, -, hn, -⟩
  have t_u1 := own_slT ho
  clear ho
  replace hB := hB.bs hn
  replace h_t := h_t.bs hn
  replace b_t := b_t.bs hn
  replace h_a := h_a.bs hn
  replace b_a := b_a.bs hn
  replace h_b := h_b.bs hn
  replace b_b := b_b.bs hn
  replace b_z := b_z.bs hn
  replace h_c := h_c.bs hn
  replace b_c := b_c.bs hn
  replace h_d := h_d.bs hn
  replace b_d := b_d.bs hn
  replace h_p := h_p.bs hn
  replace b_p := b_p.bs hn
  clear hn
  refine Lw.valW (Xw.lit (vs := ([1#32, 2#32, 3#32] : List (BitVec 32)).map i32) st_23 it_21 rfl (by kernel_rfl) rfl rfl rfl) rfl ?_
  rintro u2 w ⟨ho, -, hn, -⟩
  have t_u2 := own_slT ho
  clear ho
  replace hB := hB.bs hn
  replace h_t := h_t.bs hn
  replace b_t := b_t.bs hn
  replace h_a := h_a.bs hn
  replace b_a := b_a.bs hn
  replace h_b := h_b.bs hn
  replace b_b := b_b.bs hn
  replace b_z := b_z.bs hn
  replace h_c := h_c.bs hn
  replace b_c := b_c.bs hn
  replace h_d := h_d.bs hn
  replace b_d := b_d.bs hn
  replace h_p := h_p.bs hn
  replace b_p := b_p.bs hn
  replace t_u1 := t_u1.bs hn
  clear hn
  refine Lw.callF rfl rfl (of9_c u1 u2 [3] [1#32, 2#32, 3#32] _ t_u1 t_u2) ?_
  rintro _ w ⟨o, rfl, s_o, l_o, h_o, hn⟩
  replace hB := hB.bs hn
  replace h_t := h_t.bs hn
  replace b_t := b_t.bs hn
  replace h_a := h_a.bs hn
  replace b_a := b_a.bs hn
  replace h_b := h_b.bs hn
  replace b_b := b_b.bs hn
  replace b_z := b_z.bs hn
  replace h_c := h_c.bs hn
  replace b_c := b_c.bs hn
  replace h_d := h_d.bs hn
  replace b_d := b_d.bs hn
  replace h_p := h_p.bs hn
  replace b_p := b_p.bs hn
  replace t_u1 := t_u1.bs hn
  replace t_u2 := t_u2.bs hn
  clear hn
  clear t_u1 t_u2
  have e_q : suE o 0 = 0 := by unfold suE; rw [s_o, l_o]; kernel_rfl
  refine Lw.callF rfl rfl (msum_g o 0 _ h_o) ?_
  rintro r w ⟨hn, q, rfl, h_q, -, hz⟩
  rw [e_q]
  obtain ⟨s_q, l_q⟩ := hz e_q
  clear hz
  replace hB := hB.bs hn
  replace h_t := h_t.bs hn
  replace b_t := b_t.bs hn
  replace h_a := h_a.bs hn
  replace b_a := b_a.bs hn
  replace h_b := h_b.bs hn
  replace b_b := b_b.bs hn
  replace b_z := b_z.bs hn
  replace h_c := h_c.bs hn
  replace b_c := b_c.bs hn
  replace h_d := h_d.bs hn
  replace b_d := b_d.bs hn
  replace h_p := h_p.bs hn
  replace b_p := b_p.bs hn
  replace h_o := h_o.bs hn
  clear hn
  refine Lw.val (Ex.move rfl) rfl ?_
  refine Lw.val (Ex.extract (i := 0) rfl rfl) rfl ?_
  refine Lw.val (Ex.extract (i := 1) rfl rfl) rfl ?_
  refine Lw.boxed (cs := [q.x, q.y]) it_25 rfl rfl rfl rfl (fun _ => rfl) (h_q.one) ?_
  rintro A_q w eA_q b_q hn -
  replace hB := hB.bs hn
  replace h_t := h_t.bs hn
  replace b_t := b_t.bs hn
  replace h_a := h_a.bs hn
  replace b_a := b_a.bs hn
  replace h_b := h_b.bs hn
  replace b_b := b_b.bs hn
  replace b_z := b_z.bs hn
  replace h_c := h_c.bs hn
  replace b_c := b_c.bs hn
  replace h_d := h_d.bs hn
  replace b_d := b_d.bs hn
  replace h_p := h_p.bs hn
  replace b_p := b_p.bs hn
  replace h_o := h_o.bs hn
  replace h_q := h_q.bs hn
  clear hn
  refine Lw.val (Ex.assign rfl) rfl ?_
  refine Lw.nil ?_
  refine Pw.thenN (Cw.out ?_)
  refine Cw.seq ?_
  replace s_q : q.s = [1] := by rw [s_q, s_o]; kernel_rfl
  replace l_q : q.l = [6#32] := by rw [l_q, s_o, l_o]; kernel_rfl
  refine Cw.any mixed (fun w hd _ => ?_)
  replace hB := hB.bs hd
  replace h_t := h_t.bs hd
  replace b_t := b_t.bs hd
  replace h_a := h_a.bs hd
  replace b_a := b_a.bs hd
  replace h_b := h_b.bs hd
  replace b_b := b_b.bs hd
  replace b_z := b_z.bs hd
  replace h_c := h_c.bs hd
  replace b_c := b_c.bs hd
  replace h_d := h_d.bs hd
  replace b_d := b_d.bs hd
  replace h_p := h_p.bs hd
  replace b_p := b_p.bs hd
  replace h_o := h_o.bs hd
  replace h_q := h_q.bs hd
  replace b_q := b_q.bs hd
  clear hd
  refine Aw.take (i := 1) (NoP.thn NoP.ret) rfl (by kernel_rfl) (by kernel_rfl) (by kernel_rfl) (fun _ => Ex.move rfl) rfl ?_
  refine Aw.seg (St := Unit) (g := 45) [0, 2, 3, 4, 5] 6 (fun s => [(4, .pointer (some ⟨A_b, 0, none⟩)), (5, .int .i64 0), (7, .int .i64 1), (8, .pointer (some ⟨A_c, 0, none⟩)), (9, .int .i64 0), (10, .pointer (some ⟨A_d, 0, none⟩)), (11, .int .i64 0), (12, .pointer (some ⟨A_p, 0, none⟩)), (13, .int .i64 0), (14, .pointer (some ⟨A_q, 0, none⟩)), (15, .int .i64 0), (66, .bool true)]) (fun s w' => Below w.heap.size w w') (by kernel_rfl) rfl ?_ ?_
  · refine Aw.cls (fun w' => Below w.heap.size w w') (fun hC => ?_) (Below.refl _ _)
    refine AwC.take (i := 0) (NoP.thn (NoP.thn NoP.ret)) rfl (by kernel_rfl) (by kernel_rfl) (by kernel_rfl) (fun w1 hc => Ex.ldA (ag_25 _) (sz_25 _) rfl rfl (Blk.bs (by assumption) hc)) rfl ?_
    refine AwC.two (by first | assumption | exact Below.refl _ _) (i := 2) (j := 3) (by kernel_rfl) rfl rfl ?_ ?_
    · refine Lw.valW (Xw.lit (vs := ([3, 2] : List Int).map (Value.int .i64)) st_22 it_3 rfl (by kernel_rfl) rfl rfl rfl) rfl ?_
      rintro y1 w2 ⟨hoy1, -, hn2, -⟩
      refine AwC.back ?_
      refine AwC.only (by first | assumption | exact Below.refl _ _) (i := 3) (by kernel_rfl) rfl ?_
      refine Lw.valW (Xw.lit (vs := ([1#32, 2#32, 3#32, 4#32, 5#32, 6#32] : List (BitVec 32)).map i32) st_23 it_21 rfl (by kernel_rfl) rfl rfl rfl) rfl ?_
      rintro z1 w3 ⟨hoz1, -, hn3, -⟩
      have hn23 := bt hn2 hn3
      refine AwC.back ?_
      refine AwC.only (by first | assumption | exact Below.refl _ _) (i := 4) (by kernel_rfl) rfl ?_
      refine Lw.callF rfl rfl (of9_c y1 z1 [3, 2] [1#32, 2#32, 3#32, 4#32, 5#32, 6#32] w3 ((own_slT hoy1).bs hn3) (own_slT hoz1)) ?_
      rintro _ w4 ⟨qq, rfl, s_qq, l_qq, h_qq, hn⟩
      have hn4 := bt hn23 hn
      refine AwC.back ?_
      refine AwC.only (by first | assumption | exact Below.refl _ _) (i := 5) (by kernel_rfl) rfl ?_
      refine Lw.callF rfl rfl (is9_c a 0 qq w4 (h_a.bs hn4) h_qq) ?_
      rintro _ w5 ⟨rfl, hn⟩
      have hn5 := bt hn4 hn
      refine AwC.back ?_
      refine AwC.done (by first | assumption | exact Below.refl _ _) (by kernel_rfl) ?_
      exact Pw.thenN (Pw.seg (()) ⟨rfl, rfl, rfl, rfl, rfl, rfl, rfl, rfl, rfl, rfl, rfl, congrArg (fun b => some (Value.bool b)) (by rw [s_a, s_qq, l_a, l_qq]; rfl), trivial⟩ (hn5))
    · refine Lw.valW (Xw.lit (vs := ([1#32, 2#32, 3#32, 4#32, 5#32, 6#32] : List (BitVec 32)).map i32) st_23 it_21 rfl (by kernel_rfl) rfl rfl rfl) rfl ?_
      rintro z1 w2 ⟨hoz1, -, hn2, -⟩
      refine AwC.back ?_
      refine AwC.only (by first | assumption | exact Below.refl _ _) (i := 2) (by kernel_rfl) rfl ?_
      refine Lw.valW (Xw.lit (vs := ([3, 2] : List Int).map (Value.int .i64)) st_22 it_3 rfl (by kernel_rfl) rfl rfl rfl) rfl ?_
      rintro y1 w3 ⟨hoy1, -, hn3, -⟩
      have hn23 := bt hn2 hn3
      refine AwC.back ?_
      refine AwC.only (by first | assumption | exact Below.refl _ _) (i := 4) (by kernel_rfl) rfl ?_
      refine Lw.callF rfl rfl (of9_c y1 z1 [3, 2] [1#32, 2#32, 3#32, 4#32, 5#32, 6#32] w3 (own_slT hoy1) ((own_slT hoz1).bs hn3)) ?_
      rintro _ w4 ⟨qq, rfl, s_qq, l_qq, h_qq, hn⟩
      have hn4 := bt hn23 hn
      refine AwC.back ?_
      refine AwC.only (by first | assumption | exact Below.refl _ _) (i := 5) (by kernel_rfl) rfl ?_
      refine Lw.callF rfl rfl (is9_c a 0 qq w4 (h_a.bs hn4) h_qq) ?_
      rintro _ w5 ⟨rfl, hn⟩
      have hn5 := bt hn4 hn
      refine AwC.back ?_
      refine AwC.done (by first | assumption | exact Below.refl _ _) (by kernel_rfl) ?_
      exact Pw.thenN (Pw.seg (()) ⟨rfl, rfl, rfl, rfl, rfl, rfl, rfl, rfl, rfl, rfl, rfl, congrArg (fun b => some (Value.bool b)) (by rw [s_a, s_qq, l_a, l_qq]; rfl), trivial⟩ (hn5))
  rintro _ w2 hn
  replace hB := hB.bs hn
  replace h_t := h_t.bs hn
  replace b_t := b_t.bs hn
  replace h_a := h_a.bs hn
  replace b_a := b_a.bs hn
  replace h_b := h_b.bs hn
  replace b_b := b_b.bs hn
  replace b_z := b_z.bs hn
  replace h_c := h_c.bs hn
  replace b_c := b_c.bs hn
  replace h_d := h_d.bs hn
  replace b_d := b_d.bs hn
  replace h_p := h_p.bs hn
  replace b_p := b_p.bs hn
  replace h_o := h_o.bs hn
  replace h_q := h_q.bs hn
  replace b_q := b_q.bs hn
  clear hn
  clear h_a b_a s_a l_a
  refine Aw.take (i := 6) (NoP.thn NoP.ret) rfl (by kernel_rfl) (by kernel_rfl) (by kernel_rfl) (fun _ => Ex.move rfl) rfl ?_
  refine Aw.takeG (i := 8) (dj := 67) (NoP.thn NoP.ret) rfl rfl rfl (by kernel_rfl) (by kernel_rfl) (by kernel_rfl) (fun _ => Ex.move rfl) rfl ?_
  rename World => w
  refine Aw.seg (St := Unit) (g := 38) [7, 9, 10, 11, 12] 13 (fun s => [(7, .int .i64 1), (8, .pointer (some ⟨A_c, 0, none⟩)), (9, .int .i64 0), (10, .pointer (some ⟨A_d, 0, none⟩)), (11, .int .i64 0), (12, .pointer (some ⟨A_p, 0, none⟩)), (13, .int .i64 0), (14, .pointer (some ⟨A_q, 0, none⟩)), (15, .int .i64 0), (67, .bool true), (73, .bool true)]) (fun s w' => Below w.heap.size w w') (by kernel_rfl) rfl ?_ ?_
  · refine Aw.cls (fun w' => Below w.heap.size w w') (fun hC => ?_) (Below.refl _ _)
    refine AwC.takeG (i := 7) (dj := 67) (NoP.thn (NoP.thn NoP.ret)) rfl rfl rfl (by kernel_rfl) (by kernel_rfl) (by kernel_rfl) (fun w1 hc => Ex.ldA (ag_25 _) (sz_25 _) rfl rfl (Blk.bs (by assumption) hc)) rfl ?_
    refine AwC.two (by first | assumption | exact Below.refl _ _) (i := 9) (j := 10) (by kernel_rfl) rfl rfl ?_ ?_
    · refine Lw.take (dj := 67) rfl rfl ?_
      refine Lw.valW (Xw.lit (vs := ([3, 2] : List Int).map (Value.int .i64)) st_22 it_3 rfl (by kernel_rfl) rfl rfl rfl) rfl ?_
      rintro y1 w2 ⟨hoy1, -, hn2, -⟩
      refine AwC.back ?_
      refine AwC.only (by first | assumption | exact Below.refl _ _) (i := 10) (by kernel_rfl) rfl ?_
      refine Lw.take (dj := 67) rfl rfl ?_
      refine Lw.valW (Xw.lit (vs := ([1#32, 4#32, 2#32, 5#32, 3#32, 6#32] : List (BitVec 32)).map i32) st_23 it_21 rfl (by kernel_rfl) rfl rfl rfl) rfl ?_
      rintro z1 w3 ⟨hoz1, -, hn3, -⟩
      have hn23 := bt hn2 hn3
      refine AwC.back ?_
      refine AwC.only (by first | assumption | exact Below.refl _ _) (i := 11) (by kernel_rfl) rfl ?_
      refine Lw.take (dj := 67) rfl rfl ?_
      refine Lw.callF rfl rfl (of9_c y1 z1 [3, 2] [1#32, 4#32, 2#32, 5#32, 3#32, 6#32] w3 ((own_slT hoy1).bs hn3) (own_slT hoz1)) ?_
      rintro _ w4 ⟨qq, rfl, s_qq, l_qq, h_qq, hn⟩
      have hn4 := bt hn23 hn
      refine AwC.back ?_
      refine AwC.only (by first | assumption | exact Below.refl _ _) (i := 12) (by kernel_rfl) rfl ?_
      refine Lw.take (dj := 67) rfl rfl ?_
      refine Lw.callF rfl rfl (is9_c b 0 qq w4 (h_b.bs hn4) h_qq) ?_
      rintro _ w5 ⟨rfl, hn⟩
      have hn5 := bt hn4 hn
      refine AwC.back ?_
      refine AwC.done (by first | assumption | exact Below.refl _ _) (by kernel_rfl) ?_
      exact Pw.thenN (Pw.seg (()) ⟨rfl, rfl, rfl, rfl, rfl, rfl, rfl, rfl, rfl, rfl, congrArg (fun b => some (Value.bool b)) (by rw [s_b, s_qq, l_b, l_qq]; rfl), trivial⟩ (hn5))
    · refine Lw.take (dj := 67) rfl rfl ?_
      refine Lw.valW (Xw.lit (vs := ([1#32, 4#32, 2#32, 5#32, 3#32, 6#32] : List (BitVec 32)).map i32) st_23 it_21 rfl (by kernel_rfl) rfl rfl rfl) rfl ?_
      rintro z1 w2 ⟨hoz1, -, hn2, -⟩
      refine AwC.back ?_
      refine AwC.only (by first | assumption | exact Below.refl _ _) (i := 9) (by kernel_rfl) rfl ?_
      refine Lw.take (dj := 67) rfl rfl ?_
      refine Lw.valW (Xw.lit (vs := ([3, 2] : List Int).map (Value.int .i64)) st_22 it_3 rfl (by kernel_rfl) rfl rfl rfl) rfl ?_
      rintro y1 w3 ⟨hoy1, -, hn3, -⟩
      have hn23 := bt hn2 hn3
      refine AwC.back ?_
      refine AwC.only (by first | assumption | exact Below.refl _ _) (i := 11) (by kernel_rfl) rfl ?_
      refine Lw.take (dj := 67) rfl rfl ?_
      refine Lw.callF rfl rfl (of9_c y1 z1 [3, 2] [1#32, 4#32, 2#32, 5#32, 3#32, 6#32] w3 (own_slT hoy1) ((own_slT hoz1).bs hn3)) ?_
      rintro _ w4 ⟨qq, rfl, s_qq, l_qq, h_qq, hn⟩
      have hn4 := bt hn23 hn
      refine AwC.back ?_
      refine AwC.only (by first | assumption | exact Below.refl _ _) (i := 12) (by kernel_rfl) rfl ?_
      refine Lw.take (dj := 67) rfl rfl ?_
      refine Lw.callF rfl rfl (is9_c b 0 qq w4 (h_b.bs hn4) h_qq) ?_
      rintro _ w5 ⟨rfl, hn⟩
      have hn5 := bt hn4 hn
      refine AwC.back ?_
      refine AwC.done (by first | assumption | exact Below.refl _ _) (by kernel_rfl) ?_
      exact Pw.thenN (Pw.seg (()) ⟨rfl, rfl, rfl, rfl, rfl, rfl, rfl, rfl, rfl, rfl, congrArg (fun b => some (Value.bool b)) (by rw [s_b, s_qq, l_b, l_qq]; rfl), trivial⟩ (hn5))
  rintro _ w2 hn
  replace hB := hB.bs hn
  replace h_t := h_t.bs hn
  replace b_t := b_t.bs hn
  replace h_b := h_b.bs hn
  replace b_b := b_b.bs hn
  replace b_z := b_z.bs hn
  replace h_c := h_c.bs hn
  replace b_c := b_c.bs hn
  replace h_d := h_d.bs hn
  replace b_d := b_d.bs hn
  replace h_p := h_p.bs hn
  replace b_p := b_p.bs hn
  replace h_o := h_o.bs hn
  replace h_q := h_q.bs hn
  replace b_q := b_q.bs hn
  clear hn
  clear h_b b_b s_b l_b
  refine Aw.take (i := 13) (NoP.thn NoP.ret) rfl (by kernel_rfl) (by kernel_rfl) (by kernel_rfl) (fun _ => Ex.pickT rfl rfl) rfl ?_
  refine Aw.take (i := 14) (NoP.thn NoP.ret) rfl (by kernel_rfl) (by kernel_rfl) (by kernel_rfl) (fun _ => Ex.move rfl) rfl ?_
  refine Aw.takeG (i := 15) (dj := 75) (NoP.thn NoP.ret) rfl rfl rfl (by kernel_rfl) (by kernel_rfl) (by kernel_rfl) (fun _ => Ex.move rfl) rfl ?_
  refine Aw.takeG (i := 16) (dj := 75) (NoP.thn NoP.ret) rfl rfl rfl (by kernel_rfl) (by kernel_rfl) (by kernel_rfl) (fun _ => Ex.eql rfl rfl) rfl ?_
  refine Aw.take (i := 17) (NoP.thn NoP.ret) rfl (by kernel_rfl) (by kernel_rfl) (by kernel_rfl) (fun _ => Ex.pickT rfl rfl) rfl ?_
  refine Aw.take (i := 18) (NoP.thn NoP.ret) rfl (by kernel_rfl) (by kernel_rfl) (by kernel_rfl) (fun _ => Ex.move rfl) rfl ?_
  refine Aw.know 79 (v' := .bool true) rfl (congrArg Value.bool (rfl)) ?_
  refine Aw.takeG (i := 20) (dj := 79) (NoP.thn NoP.ret) rfl rfl rfl (by kernel_rfl) (by kernel_rfl) (by kernel_rfl) (fun _ => Ex.move rfl) rfl ?_
  rename World => w
  refine Aw.seg (St := Unit) (g := 26) [19, 21, 22, 23, 24] 25 (fun s => [(10, .pointer (some ⟨A_d, 0, none⟩)), (11, .int .i64 0), (12, .pointer (some ⟨A_p, 0, none⟩)), (13, .int .i64 0), (14, .pointer (some ⟨A_q, 0, none⟩)), (15, .int .i64 0), (79, .bool true), (85, .bool true)]) (fun s w' => Below w.heap.size w w') (by kernel_rfl) rfl ?_ ?_
  · refine Aw.cls (fun w' => Below w.heap.size w w') (fun hC => ?_) (Below.refl _ _)
    refine AwC.takeG (i := 19) (dj := 79) (NoP.thn (NoP.thn NoP.ret)) rfl rfl rfl (by kernel_rfl) (by kernel_rfl) (by kernel_rfl) (fun w1 hc => Ex.ldA (ag_25 _) (sz_25 _) rfl rfl (Blk.bs (by assumption) hc)) rfl ?_
    refine AwC.two (by first | assumption | exact Below.refl _ _) (i := 21) (j := 22) (by kernel_rfl) rfl rfl ?_ ?_
    · refine Lw.take (dj := 79) rfl rfl ?_
      refine Lw.valW (Xw.lit (vs := ([2, 6] : List Int).map (Value.int .i64)) st_22 it_3 rfl (by kernel_rfl) rfl rfl rfl) rfl ?_
      rintro y1 w2 ⟨hoy1, -, hn2, -⟩
      refine AwC.back ?_
      refine AwC.only (by first | assumption | exact Below.refl _ _) (i := 22) (by kernel_rfl) rfl ?_
      refine Lw.take (dj := 79) rfl rfl ?_
      refine Lw.valW (Xw.lit (vs := ([1#32, 2#32, 3#32, 1#32, 2#32, 3#32, 4#32, 5#32, 6#32, 4#32, 5#32, 6#32] : List (BitVec 32)).map i32) st_23 it_21 rfl (by kernel_rfl) rfl rfl rfl) rfl ?_
      rintro z1 w3 ⟨hoz1, -, hn3, -⟩
      have hn23 := bt hn2 hn3
      refine AwC.back ?_
      refine AwC.only (by first | assumption | exact Below.refl _ _) (i := 23) (by kernel_rfl) rfl ?_
      refine Lw.take (dj := 79) rfl rfl ?_
      refine Lw.callF rfl rfl (of9_c y1 z1 [2, 6] [1#32, 2#32, 3#32, 1#32, 2#32, 3#32, 4#32, 5#32, 6#32, 4#32, 5#32, 6#32] w3 ((own_slT hoy1).bs hn3) (own_slT hoz1)) ?_
      rintro _ w4 ⟨qq, rfl, s_qq, l_qq, h_qq, hn⟩
      have hn4 := bt hn23 hn
      refine AwC.back ?_
      refine AwC.only (by first | assumption | exact Below.refl _ _) (i := 24) (by kernel_rfl) rfl ?_
      refine Lw.take (dj := 79) rfl rfl ?_
      refine Lw.callF rfl rfl (is9_c c 0 qq w4 (h_c.bs hn4) h_qq) ?_
      rintro _ w5 ⟨rfl, hn⟩
      have hn5 := bt hn4 hn
      refine AwC.back ?_
      refine AwC.done (by first | assumption | exact Below.refl _ _) (by kernel_rfl) ?_
      exact Pw.thenN (Pw.seg (()) ⟨rfl, rfl, rfl, rfl, rfl, rfl, rfl, congrArg (fun b => some (Value.bool b)) (by rw [s_c, s_qq, l_c, l_qq]; rfl), trivial⟩ (hn5))
    · refine Lw.take (dj := 79) rfl rfl ?_
      refine Lw.valW (Xw.lit (vs := ([1#32, 2#32, 3#32, 1#32, 2#32, 3#32, 4#32, 5#32, 6#32, 4#32, 5#32, 6#32] : List (BitVec 32)).map i32) st_23 it_21 rfl (by kernel_rfl) rfl rfl rfl) rfl ?_
      rintro z1 w2 ⟨hoz1, -, hn2, -⟩
      refine AwC.back ?_
      refine AwC.only (by first | assumption | exact Below.refl _ _) (i := 21) (by kernel_rfl) rfl ?_
      refine Lw.take (dj := 79) rfl rfl ?_
      refine Lw.valW (Xw.lit (vs := ([2, 6] : List Int).map (Value.int .i64)) st_22 it_3 rfl (by kernel_rfl) rfl rfl rfl) rfl ?_
      rintro y1 w3 ⟨hoy1, -, hn3, -⟩
      have hn23 := bt hn2 hn3
      refine AwC.back ?_
      refine AwC.only (by first | assumption | exact Below.refl _ _) (i := 23) (by kernel_rfl) rfl ?_
      refine Lw.take (dj := 79) rfl rfl ?_
      refine Lw.callF rfl rfl (of9_c y1 z1 [2, 6] [1#32, 2#32, 3#32, 1#32, 2#32, 3#32, 4#32, 5#32, 6#32, 4#32, 5#32, 6#32] w3 (own_slT hoy1) ((own_slT hoz1).bs hn3)) ?_
      rintro _ w4 ⟨qq, rfl, s_qq, l_qq, h_qq, hn⟩
      have hn4 := bt hn23 hn
      refine AwC.back ?_
      refine AwC.only (by first | assumption | exact Below.refl _ _) (i := 24) (by kernel_rfl) rfl ?_
      refine Lw.take (dj := 79) rfl rfl ?_
      refine Lw.callF rfl rfl (is9_c c 0 qq w4 (h_c.bs hn4) h_qq) ?_
      rintro _ w5 ⟨rfl, hn⟩
      have hn5 := bt hn4 hn
      refine AwC.back ?_
      refine AwC.done (by first | assumption | exact Below.refl _ _) (by kernel_rfl) ?_
      exact Pw.thenN (Pw.seg (()) ⟨rfl, rfl, rfl, rfl, rfl, rfl, rfl, congrArg (fun b => some (Value.bool b)) (by rw [s_c, s_qq, l_c, l_qq]; rfl), trivial⟩ (hn5))
  rintro _ w2 hn
  replace hB := hB.bs hn
  replace h_t := h_t.bs hn
  replace b_t := b_t.bs hn
  replace b_z := b_z.bs hn
  replace h_c := h_c.bs hn
  replace b_c := b_c.bs hn
  replace h_d := h_d.bs hn
  replace b_d := b_d.bs hn
  replace h_p := h_p.bs hn
  replace b_p := b_p.bs hn
  replace h_o := h_o.bs hn
  replace h_q := h_q.bs hn
  replace b_q := b_q.bs hn
  clear hn
  clear h_c b_c s_c l_c
  refine Aw.take (i := 25) (NoP.thn NoP.ret) rfl (by kernel_rfl) (by kernel_rfl) (by kernel_rfl) (fun _ => Ex.pickT rfl rfl) rfl ?_
  refine Aw.take (i := 26) (NoP.thn NoP.ret) rfl (by kernel_rfl) (by kernel_rfl) (by kernel_rfl) (fun _ => Ex.move rfl) rfl ?_
  refine Aw.takeG (i := 28) (dj := 87) (NoP.thn NoP.ret) rfl rfl rfl (by kernel_rfl) (by kernel_rfl) (by kernel_rfl) (fun _ => Ex.move rfl) rfl ?_
  rename World => w
  refine Aw.seg (St := Unit) (g := 18) [27, 29, 30, 31, 32] 33 (fun s => [(12, .pointer (some ⟨A_p, 0, none⟩)), (13, .int .i64 0), (14, .pointer (some ⟨A_q, 0, none⟩)), (15, .int .i64 0), (87, .bool true), (93, .bool true)]) (fun s w' => Below w.heap.size w w') (by kernel_rfl) rfl ?_ ?_
  · refine Aw.cls (fun w' => Below w.heap.size w w') (fun hC => ?_) (Below.refl _ _)
    refine AwC.takeG (i := 27) (dj := 87) (NoP.thn (NoP.thn NoP.ret)) rfl rfl rfl (by kernel_rfl) (by kernel_rfl) (by kernel_rfl) (fun w1 hc => Ex.ldA (ag_25 _) (sz_25 _) rfl rfl (Blk.bs (by assumption) hc)) rfl ?_
    refine AwC.two (by first | assumption | exact Below.refl _ _) (i := 29) (j := 30) (by kernel_rfl) rfl rfl ?_ ?_
    · refine Lw.take (dj := 87) rfl rfl ?_
      refine Lw.valW (Xw.lit (vs := ([3] : List Int).map (Value.int .i64)) st_22 it_3 rfl (by kernel_rfl) rfl rfl rfl) rfl ?_
      rintro y1 w2 ⟨hoy1, -, hn2, -⟩
      refine AwC.back ?_
      refine AwC.only (by first | assumption | exact Below.refl _ _) (i := 30) (by kernel_rfl) rfl ?_
      refine Lw.take (dj := 87) rfl rfl ?_
      refine Lw.valW (Xw.lit (vs := ([5#32, 7#32, 9#32] : List (BitVec 32)).map i32) st_23 it_21 rfl (by kernel_rfl) rfl rfl rfl) rfl ?_
      rintro z1 w3 ⟨hoz1, -, hn3, -⟩
      have hn23 := bt hn2 hn3
      refine AwC.back ?_
      refine AwC.only (by first | assumption | exact Below.refl _ _) (i := 31) (by kernel_rfl) rfl ?_
      refine Lw.take (dj := 87) rfl rfl ?_
      refine Lw.callF rfl rfl (of9_c y1 z1 [3] [5#32, 7#32, 9#32] w3 ((own_slT hoy1).bs hn3) (own_slT hoz1)) ?_
      rintro _ w4 ⟨qq, rfl, s_qq, l_qq, h_qq, hn⟩
      have hn4 := bt hn23 hn
      refine AwC.back ?_
      refine AwC.only (by first | assumption | exact Below.refl _ _) (i := 32) (by kernel_rfl) rfl ?_
      refine Lw.take (dj := 87) rfl rfl ?_
      refine Lw.callF rfl rfl (is9_c d 0 qq w4 (h_d.bs hn4) h_qq) ?_
      rintro _ w5 ⟨rfl, hn⟩
      have hn5 := bt hn4 hn
      refine AwC.back ?_
      refine AwC.done (by first | assumption | exact Below.refl _ _) (by kernel_rfl) ?_
      exact Pw.thenN (Pw.seg (()) ⟨rfl, rfl, rfl, rfl, rfl, congrArg (fun b => some (Value.bool b)) (by rw [s_d, s_qq, l_d, l_qq]; rfl), trivial⟩ (hn5))
    · refine Lw.take (dj := 87) rfl rfl ?_
      refine Lw.valW (Xw.lit (vs := ([5#32, 7#32, 9#32] : List (BitVec 32)).map i32) st_23 it_21 rfl (by kernel_rfl) rfl rfl rfl) rfl ?_
      rintro z1 w2 ⟨hoz1, -, hn2, -⟩
      refine AwC.back ?_
      refine AwC.only (by first | assumption | exact Below.refl _ _) (i := 29) (by kernel_rfl) rfl ?_
      refine Lw.take (dj := 87) rfl rfl ?_
      refine Lw.valW (Xw.lit (vs := ([3] : List Int).map (Value.int .i64)) st_22 it_3 rfl (by kernel_rfl) rfl rfl rfl) rfl ?_
      rintro y1 w3 ⟨hoy1, -, hn3, -⟩
      have hn23 := bt hn2 hn3
      refine AwC.back ?_
      refine AwC.only (by first | assumption | exact Below.refl _ _) (i := 31) (by kernel_rfl) rfl ?_
      refine Lw.take (dj := 87) rfl rfl ?_
      refine Lw.callF rfl rfl (of9_c y1 z1 [3] [5#32, 7#32, 9#32] w3 (own_slT hoy1) ((own_slT hoz1).bs hn3)) ?_
      rintro _ w4 ⟨qq, rfl, s_qq, l_qq, h_qq, hn⟩
      have hn4 := bt hn23 hn
      refine AwC.back ?_
      refine AwC.only (by first | assumption | exact Below.refl _ _) (i := 32) (by kernel_rfl) rfl ?_
      refine Lw.take (dj := 87) rfl rfl ?_
      refine Lw.callF rfl rfl (is9_c d 0 qq w4 (h_d.bs hn4) h_qq) ?_
      rintro _ w5 ⟨rfl, hn⟩
      have hn5 := bt hn4 hn
      refine AwC.back ?_
      refine AwC.done (by first | assumption | exact Below.refl _ _) (by kernel_rfl) ?_
      exact Pw.thenN (Pw.seg (()) ⟨rfl, rfl, rfl, rfl, rfl, congrArg (fun b => some (Value.bool b)) (by rw [s_d, s_qq, l_d, l_qq]; rfl), trivial⟩ (hn5))
  rintro _ w2 hn
  replace hB := hB.bs hn
  replace h_t := h_t.bs hn
  replace b_t := b_t.bs hn
  replace b_z := b_z.bs hn
  replace h_d := h_d.bs hn
  replace b_d := b_d.bs hn
  replace h_p := h_p.bs hn
  replace b_p := b_p.bs hn
  replace h_o := h_o.bs hn
  replace h_q := h_q.bs hn
  replace b_q := b_q.bs hn
  clear hn
  clear h_d b_d s_d l_d
  refine Aw.take (i := 33) (NoP.thn NoP.ret) rfl (by kernel_rfl) (by kernel_rfl) (by kernel_rfl) (fun _ => Ex.pickT rfl rfl) rfl ?_
  refine Aw.take (i := 34) (NoP.thn NoP.ret) rfl (by kernel_rfl) (by kernel_rfl) (by kernel_rfl) (fun _ => Ex.move rfl) rfl ?_
  refine Aw.takeG (i := 36) (dj := 95) (NoP.thn NoP.ret) rfl rfl rfl (by kernel_rfl) (by kernel_rfl) (by kernel_rfl) (fun _ => Ex.move rfl) rfl ?_
  rename World => w
  refine Aw.seg (St := Unit) (g := 10) [35, 37, 38, 39, 40] 41 (fun s => [(14, .pointer (some ⟨A_q, 0, none⟩)), (15, .int .i64 0), (95, .bool true), (101, .bool true)]) (fun s w' => Below w.heap.size w w') (by kernel_rfl) rfl ?_ ?_
  · refine Aw.cls (fun w' => Below w.heap.size w w') (fun hC => ?_) (Below.refl _ _)
    refine AwC.takeG (i := 35) (dj := 95) (NoP.thn (NoP.thn NoP.ret)) rfl rfl rfl (by kernel_rfl) (by kernel_rfl) (by kernel_rfl) (fun w1 hc => Ex.ldA (ag_25 _) (sz_25 _) rfl rfl (Blk.bs (by assumption) hc)) rfl ?_
    refine AwC.two (by first | assumption | exact Below.refl _ _) (i := 37) (j := 38) (by kernel_rfl) rfl rfl ?_ ?_
    · refine Lw.take (dj := 95) rfl rfl ?_
      refine Lw.valW (Xw.lit (vs := ([2] : List Int).map (Value.int .i64)) st_22 it_3 rfl (by kernel_rfl) rfl rfl rfl) rfl ?_
      rintro y1 w2 ⟨hoy1, -, hn2, -⟩
      refine AwC.back ?_
      refine AwC.only (by first | assumption | exact Below.refl _ _) (i := 38) (by kernel_rfl) rfl ?_
      refine Lw.take (dj := 95) rfl rfl ?_
      refine Lw.valW (Xw.lit (vs := ([6#32, 15#32] : List (BitVec 32)).map i32) st_23 it_21 rfl (by kernel_rfl) rfl rfl rfl) rfl ?_
      rintro z1 w3 ⟨hoz1, -, hn3, -⟩
      have hn23 := bt hn2 hn3
      refine AwC.back ?_
      refine AwC.only (by first | assumption | exact Below.refl _ _) (i := 39) (by kernel_rfl) rfl ?_
      refine Lw.take (dj := 95) rfl rfl ?_
      refine Lw.callF rfl rfl (of9_c y1 z1 [2] [6#32, 15#32] w3 ((own_slT hoy1).bs hn3) (own_slT hoz1)) ?_
      rintro _ w4 ⟨qq, rfl, s_qq, l_qq, h_qq, hn⟩
      have hn4 := bt hn23 hn
      refine AwC.back ?_
      refine AwC.only (by first | assumption | exact Below.refl _ _) (i := 40) (by kernel_rfl) rfl ?_
      refine Lw.take (dj := 95) rfl rfl ?_
      refine Lw.callF rfl rfl (is9_c p 0 qq w4 (h_p.bs hn4) h_qq) ?_
      rintro _ w5 ⟨rfl, hn⟩
      have hn5 := bt hn4 hn
      refine AwC.back ?_
      refine AwC.done (by first | assumption | exact Below.refl _ _) (by kernel_rfl) ?_
      exact Pw.thenN (Pw.seg (()) ⟨rfl, rfl, rfl, congrArg (fun b => some (Value.bool b)) (by rw [s_p, s_qq, l_p, l_qq]; rfl), trivial⟩ (hn5))
    · refine Lw.take (dj := 95) rfl rfl ?_
      refine Lw.valW (Xw.lit (vs := ([6#32, 15#32] : List (BitVec 32)).map i32) st_23 it_21 rfl (by kernel_rfl) rfl rfl rfl) rfl ?_
      rintro z1 w2 ⟨hoz1, -, hn2, -⟩
      refine AwC.back ?_
      refine AwC.only (by first | assumption | exact Below.refl _ _) (i := 37) (by kernel_rfl) rfl ?_
      refine Lw.take (dj := 95) rfl rfl ?_
      refine Lw.valW (Xw.lit (vs := ([2] : List Int).map (Value.int .i64)) st_22 it_3 rfl (by kernel_rfl) rfl rfl rfl) rfl ?_
      rintro y1 w3 ⟨hoy1, -, hn3, -⟩
      have hn23 := bt hn2 hn3
      refine AwC.back ?_
      refine AwC.only (by first | assumption | exact Below.refl _ _) (i := 39) (by kernel_rfl) rfl ?_
      refine Lw.take (dj := 95) rfl rfl ?_
      refine Lw.callF rfl rfl (of9_c y1 z1 [2] [6#32, 15#32] w3 (own_slT hoy1) ((own_slT hoz1).bs hn3)) ?_
      rintro _ w4 ⟨qq, rfl, s_qq, l_qq, h_qq, hn⟩
      have hn4 := bt hn23 hn
      refine AwC.back ?_
      refine AwC.only (by first | assumption | exact Below.refl _ _) (i := 40) (by kernel_rfl) rfl ?_
      refine Lw.take (dj := 95) rfl rfl ?_
      refine Lw.callF rfl rfl (is9_c p 0 qq w4 (h_p.bs hn4) h_qq) ?_
      rintro _ w5 ⟨rfl, hn⟩
      have hn5 := bt hn4 hn
      refine AwC.back ?_
      refine AwC.done (by first | assumption | exact Below.refl _ _) (by kernel_rfl) ?_
      exact Pw.thenN (Pw.seg (()) ⟨rfl, rfl, rfl, congrArg (fun b => some (Value.bool b)) (by rw [s_p, s_qq, l_p, l_qq]; rfl), trivial⟩ (hn5))
  rintro _ w2 hn
  replace hB := hB.bs hn
  replace h_t := h_t.bs hn
  replace b_t := b_t.bs hn
  replace b_z := b_z.bs hn
  replace h_p := h_p.bs hn
  replace b_p := b_p.bs hn
  replace h_o := h_o.bs hn
  replace h_q := h_q.bs hn
  replace b_q := b_q.bs hn
  clear hn
  clear h_p b_p s_p l_p
  refine Aw.take (i := 41) (NoP.thn NoP.ret) rfl (by kernel_rfl) (by kernel_rfl) (by kernel_rfl) (fun _ => Ex.pickT rfl rfl) rfl ?_
  refine Aw.take (i := 42) (NoP.thn NoP.ret) rfl (by kernel_rfl) (by kernel_rfl) (by kernel_rfl) (fun _ => Ex.move rfl) rfl ?_
  refine Aw.takeG (i := 44) (dj := 103) (NoP.thn NoP.ret) rfl rfl rfl (by kernel_rfl) (by kernel_rfl) (by kernel_rfl) (fun _ => Ex.move rfl) rfl ?_
  rename World => w
  refine Aw.seg (St := Unit) (g := 2) [43, 45, 46, 47, 48] 49 (fun s => [(103, .bool true), (109, .bool true)]) (fun s w' => Below w.heap.size w w') (by kernel_rfl) rfl ?_ ?_
  · refine Aw.cls (fun w' => Below w.heap.size w w') (fun hC => ?_) (Below.refl _ _)
    refine AwC.takeG (i := 43) (dj := 103) (NoP.thn (NoP.thn NoP.ret)) rfl rfl rfl (by kernel_rfl) (by kernel_rfl) (by kernel_rfl) (fun w1 hc => Ex.ldA (ag_25 _) (sz_25 _) rfl rfl (Blk.bs (by assumption) hc)) rfl ?_
    refine AwC.two (by first | assumption | exact Below.refl _ _) (i := 45) (j := 46) (by kernel_rfl) rfl rfl ?_ ?_
    · refine Lw.take (dj := 103) rfl rfl ?_
      refine Lw.valW (Xw.lit (vs := ([1] : List Int).map (Value.int .i64)) st_22 it_3 rfl (by kernel_rfl) rfl rfl rfl) rfl ?_
      rintro y1 w2 ⟨hoy1, -, hn2, -⟩
      refine AwC.back ?_
      refine AwC.only (by first | assumption | exact Below.refl _ _) (i := 46) (by kernel_rfl) rfl ?_
      refine Lw.take (dj := 103) rfl rfl ?_
      refine Lw.valW (Xw.lit (vs := ([6#32] : List (BitVec 32)).map i32) st_23 it_21 rfl (by kernel_rfl) rfl rfl rfl) rfl ?_
      rintro z1 w3 ⟨hoz1, -, hn3, -⟩
      have hn23 := bt hn2 hn3
      refine AwC.back ?_
      refine AwC.only (by first | assumption | exact Below.refl _ _) (i := 47) (by kernel_rfl) rfl ?_
      refine Lw.take (dj := 103) rfl rfl ?_
      refine Lw.callF rfl rfl (of9_c y1 z1 [1] [6#32] w3 ((own_slT hoy1).bs hn3) (own_slT hoz1)) ?_
      rintro _ w4 ⟨qq, rfl, s_qq, l_qq, h_qq, hn⟩
      have hn4 := bt hn23 hn
      refine AwC.back ?_
      refine AwC.only (by first | assumption | exact Below.refl _ _) (i := 48) (by kernel_rfl) rfl ?_
      refine Lw.take (dj := 103) rfl rfl ?_
      refine Lw.callF rfl rfl (is9_c q 0 qq w4 (h_q.bs hn4) h_qq) ?_
      rintro _ w5 ⟨rfl, hn⟩
      have hn5 := bt hn4 hn
      refine AwC.back ?_
      refine AwC.done (by first | assumption | exact Below.refl _ _) (by kernel_rfl) ?_
      exact Pw.thenN (Pw.seg (()) ⟨rfl, congrArg (fun b => some (Value.bool b)) (by rw [s_q, s_qq, l_q, l_qq]; rfl), trivial⟩ (hn5))
    · refine Lw.take (dj := 103) rfl rfl ?_
      refine Lw.valW (Xw.lit (vs := ([6#32] : List (BitVec 32)).map i32) st_23 it_21 rfl (by kernel_rfl) rfl rfl rfl) rfl ?_
      rintro z1 w2 ⟨hoz1, -, hn2, -⟩
      refine AwC.back ?_
      refine AwC.only (by first | assumption | exact Below.refl _ _) (i := 45) (by kernel_rfl) rfl ?_
      refine Lw.take (dj := 103) rfl rfl ?_
      refine Lw.valW (Xw.lit (vs := ([1] : List Int).map (Value.int .i64)) st_22 it_3 rfl (by kernel_rfl) rfl rfl rfl) rfl ?_
      rintro y1 w3 ⟨hoy1, -, hn3, -⟩
      have hn23 := bt hn2 hn3
      refine AwC.back ?_
      refine AwC.only (by first | assumption | exact Below.refl _ _) (i := 47) (by kernel_rfl) rfl ?_
      refine Lw.take (dj := 103) rfl rfl ?_
      refine Lw.callF rfl rfl (of9_c y1 z1 [1] [6#32] w3 (own_slT hoy1) ((own_slT hoz1).bs hn3)) ?_
      rintro _ w4 ⟨qq, rfl, s_qq, l_qq, h_qq, hn⟩
      have hn4 := bt hn23 hn
      refine AwC.back ?_
      refine AwC.only (by first | assumption | exact Below.refl _ _) (i := 48) (by kernel_rfl) rfl ?_
      refine Lw.take (dj := 103) rfl rfl ?_
      refine Lw.callF rfl rfl (is9_c q 0 qq w4 (h_q.bs hn4) h_qq) ?_
      rintro _ w5 ⟨rfl, hn⟩
      have hn5 := bt hn4 hn
      refine AwC.back ?_
      refine AwC.done (by first | assumption | exact Below.refl _ _) (by kernel_rfl) ?_
      exact Pw.thenN (Pw.seg (()) ⟨rfl, congrArg (fun b => some (Value.bool b)) (by rw [s_q, s_qq, l_q, l_qq]; rfl), trivial⟩ (hn5))
  rintro _ w2 hn
  replace hB := hB.bs hn
  replace h_t := h_t.bs hn
  replace b_t := b_t.bs hn
  replace b_z := b_z.bs hn
  replace h_o := h_o.bs hn
  replace h_q := h_q.bs hn
  replace b_q := b_q.bs hn
  clear hn
  refine Aw.take (i := 49) (NoP.thn NoP.ret) rfl (by kernel_rfl) (by kernel_rfl) (by kernel_rfl) (fun _ => Ex.pickT rfl rfl) rfl ?_
  refine Aw.take (i := 50) (NoP.thn NoP.ret) rfl (by kernel_rfl) (by kernel_rfl) (by kernel_rfl) (fun _ => Ex.assign rfl) rfl ?_
  refine Aw.done (by kernel_rfl) ?_
  refine Pw.thenN (Cw.out ?_)
  refine Cw.ret ?_
  refine Pw.ret1 rfl rfl ?_
  rename World => w
  exact ⟨rfl, hB⟩
end Go.Proofs.Ytkhndfaampkbnaa
