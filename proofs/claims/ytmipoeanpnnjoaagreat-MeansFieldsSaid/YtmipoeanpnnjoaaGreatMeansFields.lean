/- A node with a field that its kind has not, or with another number of tensors than it takes in, comes to nothing; what stands in In does not matter. For every node, all tensors, and every field. -/
import Derived.Test.YtmipoeanpnnjoaaGreatPk8
namespace Go.Proofs.YtmipoeanpnnjoaaGreat
open Go Go.Dd Go.RowKit Go.ChangeShapes Go.WideShapes Go.ChangeAt
set_option maxRecDepth 100000

theorem doE_i (a : N5) (x y : Value) (i : List Int) (ts : List T4) (hi : i.length = a.i.length) : doE ⟨a.k, x, y, i, a.s, a.n, a.p⟩ ts = doE a ts := by
  unfold doE doOk
  simp only [hi]
  rfl
theorem doE_more (a : N5) (ts : List T4) (c : T4) (h : doE a ts = 0) : doE a (ts ++ [c]) = 1 := by
  obtain ⟨-, -, -, -, -, hl, -⟩ := doOk_row (doE_0 h).1
  unfold doE
  cases hk : doOk a (ts ++ [c]) with
  | false => rfl
  | true =>
    obtain ⟨-, -, -, -, -, hl2, -⟩ := doOk_row hk
    rw [List.length_append, List.length_singleton] at hl2
    omega
theorem fldB_p {k : BitVec 8} {s : List Int} {p : Int} (h : fldB k s p = true) : 0 ≤ p ∧ p ≤ 8 := by
  unfold fldB at h
  split at h
  · simp only [Bool.and_eq_true, decide_eq_true_eq] at h; omega
  · split at h
    · simp only [Bool.and_eq_true, decide_eq_true_eq] at h; omega
    · split at h
      · simp only [Bool.and_eq_true, decide_eq_true_eq] at h; omega
      · simp only [Bool.and_eq_true, decide_eq_true_eq] at h; omega
theorem doE_pad (a b : N5) (ts : List T4) (h : doE a ts = 0) (hp : b.p = IntKind.i64.wrap (a.p + 9)) : doE b ts = 1 := by
  obtain ⟨-, -, -, -, -, -, -, -, -, -, hf⟩ := doOk_row (doE_0 h).1
  have h1 := fldB_p hf
  have h2 : IntKind.i64.wrap (a.p + 9) = a.p + 9 := IntWalk.i64_in _ ⟨by omega, by omega⟩
  unfold doE
  cases hk : doOk b ts with
  | false => rfl
  | true =>
    obtain ⟨-, -, -, -, -, -, -, -, -, -, hg⟩ := doOk_row hk
    have h3 := fldB_p hg
    omega
theorem doE_none (b : N5) (ts : List T4) (h : b.k = 0#8) : doE b ts = 1 := by
  unfold doE doOk
  rw [h]
  rfl
theorem arg_field {H : Type} {enc : TypeId × Value → H} {w : World} {base : Nat} {v : Value} (ho : Value.okWide Tryz.prog w .any base 57 v) (h : In enc Tryz.prog w 57 v.cells.toList) : ∃ (z : BitVec 8) (m : Int), v = .agg [b8 z, .int .i64 m].toArray := by
  obtain ⟨cs, rfl, hin⟩ := arg_struct Tryz.underlying57 ho h
  obtain ⟨hlen, hel⟩ := hin.struct Tryz.underlying57
  have c2 : Tryz.prog.cellsOf 57 = 2 := by kernel_rfl
  have d1 : Tryz.prog.cellsOf 3 = 1 := by kernel_rfl
  have e1 : Tryz.prog.cellsOf 5 = 1 := by kernel_rfl
  rw [c2] at hlen
  obtain ⟨k0, n0, rfl⟩ := Proofs.YtmipoeanpnnjoaaGreat.two_of hlen
  obtain ⟨k, ek⟩ := In.num (BitVec.ofInt 8) b8 (fun _ h => wf_u8 h) un_5 (hel 0 _ rfl)
  obtain ⟨n, en, -⟩ := In.int un_3 (hel 1 _ rfl)
  simp [d1, e1] at ek en
  subst ek en
  exact ⟨k, n, rfl⟩
theorem tens_ones {w : World} {v : Value} {ts : List T4} (h : Tens w v ts) : (cellsOf ts).all (·.oneCell') = true := by
  have : ∀ (l : List T4), (∀ t ∈ l, t.at w) → (cellsOf l).all (·.oneCell') = true := by
    intro l
    induction l with
    | nil => intro _; rfl
    | cons t l ih =>
      intro hl
      have h1 := hl t (by simp)
      rw [cellsOf, List.all_cons, List.all_cons, h1.1.one', h1.2.one', ih fun x hx => hl x (List.mem_cons_of_mem _ hx)]; rfl
  exact this ts h.2
theorem own_away {w w' : World} {base base' : Nat} {e T : TypeId} {sz sz' n m : Nat} {v q : Value} {xs ys : List Value} (h : w.ownsRow base e sz v n xs) (k : w.ownsRow base' T sz' q m ys) (hne : e ≠ T) (g : w.grownBy w' q.ownBlock) : w'.ownsRow base e sz v n xs := by
  cases hq : q.ownBlock with
  | none => rw [hq] at g; exact own_bs h (grown_below g (Nat.le_refl _) fun _ e => by cases e)
  | some A =>
    rw [hq] at g
    obtain ⟨cs, hb⟩ := own_ty k hq
    exact own_apart h hb hne g
theorem app_lo {q : Value} {k b : Nat} (h : q.ownBlock = (Value.slice none 0 0).ownBlock ∨ q.ownBlock = some k) (e : q.ownBlock = some b) : k ≤ b := by
  rcases h with h | h
  · rw [e] at h; cases h
  · rw [e] at h; cases h; exact Nat.le_refl _
theorem mofo_c (v : Value) (l : List (BitVec 32)) (w : World) (hv : SlT i32 w v l) : Fnc Tryz.prog 25 [v] w (fun r w' => Below w.heap.size w w' ∧ ∃ s B, r = .agg [s, v].toArray ∧ w'.ownsRow B 3 1 s 1 [.int .i64 (l.length : Int)]) := by
  have hB := Below.refl w.heap.size w
  refine Fnc.enter (n := 8) Tryz.func25 (by kernel_rfl) rfl rfl rfl ?_
  refine Cw.seq ?_
  refine Cw.region ?_
  refine Lw.newA it_29 rfl ?_
  rintro A_r w eA_r b_r hn -
  replace hB := hB.bs hn
  replace hv := hv.bs hn
  clear hn
  refine Lw.nil ?_
  refine Pw.thenN (Cw.out ?_)
  refine Cw.seq ?_
  refine Cw.region ?_
  refine Lw.val (Ex.move rfl) rfl ?_
  refine Lw.val (Ex.lenS st_27 rfl (by assumption)) rfl ?_
  have z0 := below_size hB
  have yr := blk_lt b_r
  refine Lw.valW (Xw.lit (vs := [(l.length : Int)].map (Value.int .i64)) st_26 it_3 rfl rfl rfl rfl rfl) rfl ?_
  rintro s w1 ⟨o_s, -, hn, -⟩
  replace hB := hB.bs hn
  replace hv := hv.bs hn
  replace b_r := b_r.bs hn
  clear hn
  have sb := own_block o_s
  have hone : [s, v].all (·.oneCell') = true := by rw [List.all_cons, List.all_cons, (own_sl o_s).one', hv.one']; rfl
  refine Lw.val (Ex.move rfl) rfl ?_
  refine Lw.val (Ex.build (vs := [(0, s), (1, v)]) (cs := [s, v]) rfl (bt_ten _ _ (own_sl o_s).one hv.one)) rfl ?_
  refine Lw.unit (Xu.stA (cs := [s, v]) (k := 2) (by kernel_rfl) rfl rfl rfl hone b_r rfl) ?_
  rintro w2 ⟨b_r2, hg, hz⟩
  have hB2 := hB.grown hg (below_size hB) (by rintro _ ⟨⟩; omega)
  have o_s2 := own_heap o_s (fun k e => hg.block k (sb k e).2 (by intro e2; cases e2; have := sb _ e; omega))
  refine Lw.nil ?_
  refine Pw.thenN (Cw.out ?_)
  refine Cw.ret ?_
  refine Pw.retC rfl rfl (by assumption) (Tryz.underlying29) rfl rfl rfl ?_
  exact ⟨hB2, s, _, rfl, o_s2⟩
theorem meansFields_w (a : N5) (v : Value) (ts : List T4) (z : BitVec 8) (bw : Int) (W : World) (ha : N5.at W a) (fa : a.few) (ht : Tens W v ts) (lt : ts.length ≤ 1125899906842624) (ft : ∀ t ∈ ts, fewT t) :
    Fnc Tryz.prog 6 [a.v, v, .agg [b8 z, .int .i64 bw].toArray] W (fun r w' => r = .bool true ∧ Below W.heap.size W w') := by
  have hB := Below.refl W.heap.size W
  refine Fnc.enter (n := 119) Tryz.func6 (by kernel_rfl) rfl rfl rfl ?_
  refine Cw.seq ?_
  refine Cw.region ?_
  refine Lw.boxV (cs := a.cells) rfl rfl rfl ?_
  rintro A_n w eA_n b_n hn -
  replace hB := hB.bs hn
  replace ha := ha.bs hn
  replace ht := ht.bs hn
  clear hn
  refine Lw.boxV (cs := [b8 z, .int .i64 bw]) rfl rfl rfl ?_
  rintro A_z w eA_z b_z hn -
  replace hB := hB.bs hn
  replace ha := ha.bs hn
  replace ht := ht.bs hn
  replace b_n := b_n.bs hn
  clear hn
  refine Lw.val (Ex.assign rfl) rfl ?_
  refine Lw.nil ?_
  refine Pw.thenN (Cw.out ?_)
  refine Cw.seq ?_
  refine Cw.seq ?_
  refine Cw.region ?_
  refine Lw.callF rfl rfl (alive_c _) ?_
  rintro _ w ⟨rfl, hn⟩
  replace hB := hB.bs hn
  replace ha := ha.bs hn
  replace ht := ht.bs hn
  replace b_n := b_n.bs hn
  replace b_z := b_z.bs hn
  clear hn
  refine Lw.val (Ex.not rfl) rfl ?_
  refine Lw.val (Ex.move rfl) rfl ?_
  refine Lw.know 21 (v' := .bool false) rfl (congrArg Value.bool (rfl)) ?_
  refine Lw.take (dj := 21) rfl rfl ?_
  refine Lw.val (Ex.ldA (ag_45 _) (sz_45 _) rfl rfl (by assumption)) rfl ?_
  refine Lw.take (dj := 21) rfl rfl ?_
  refine Lw.callF rfl rfl (nsize_c a w ha fa) ?_
  rintro _ w ⟨rfl, hn⟩
  replace hB := hB.bs hn
  replace ha := ha.bs hn
  replace ht := ht.bs hn
  replace b_n := b_n.bs hn
  replace b_z := b_z.bs hn
  clear hn
  refine Lw.take (dj := 21) rfl rfl ?_
  refine Lw.val (Ex.gtr rfl rfl) rfl ?_
  refine Lw.val (Ex.pickF rfl rfl) rfl ?_
  refine Lw.val (Ex.move rfl) rfl ?_
  refine Lw.part 26 rfl ?_ ?_
  · intro g1
    refine Lw.pass (dj := 26) rfl rfl rfl rfl ?_
    refine Lw.pass (dj := 26) rfl rfl rfl rfl ?_
    refine Lw.pass (dj := 26) rfl rfl rfl rfl ?_
    refine Lw.val (Ex.pickT rfl rfl) rfl ?_
    refine Lw.val (Ex.move rfl) rfl ?_
    refine Lw.pass (dj := 31) rfl rfl rfl rfl ?_
    refine Lw.pass (dj := 31) rfl rfl rfl rfl ?_
    refine Lw.pass (dj := 31) rfl rfl rfl rfl ?_
    refine Lw.pass (dj := 31) rfl rfl rfl rfl ?_
    refine Lw.val (Ex.pickT rfl rfl) rfl ?_
    refine Lw.nil ?_
    refine Pw.thenN (Cw.out ?_)
    refine Cw.condT rfl ?_
    refine Cw.seq ?_
    refine Cw.region ?_
    refine Lw.callF rfl rfl (alive_c _) ?_
    rintro _ w ⟨rfl, hn⟩
    replace hB := hB.bs hn
    replace ha := ha.bs hn
    replace ht := ht.bs hn
    replace b_n := b_n.bs hn
    replace b_z := b_z.bs hn
    clear hn
    refine Lw.val (Ex.assign rfl) rfl ?_
    refine Lw.nil ?_
    refine Pw.thenN (Cw.out ?_)
    refine Cw.ret ?_
    refine Pw.thenR ?_
    refine Pw.ret1 rfl rfl ?_
    exact ⟨rfl, hB⟩
  intro g1
  have g1 : nsz a ≤ 5000 := by have := of_decide_eq_false g1; omega
  refine Lw.take (dj := 26) rfl rfl ?_
  refine Lw.val (Ex.move rfl) rfl ?_
  refine Lw.take (dj := 26) rfl rfl ?_
  refine Lw.callF rfl rfl (tsizes_c v ts w ht lt ft) ?_
  rintro _ w ⟨rfl, hn⟩
  replace hB := hB.bs hn
  replace ha := ha.bs hn
  replace ht := ht.bs hn
  replace b_n := b_n.bs hn
  replace b_z := b_z.bs hn
  clear hn
  refine Lw.take (dj := 26) rfl rfl ?_
  refine Lw.val (Ex.gtr rfl rfl) rfl ?_
  refine Lw.val (Ex.pickF rfl rfl) rfl ?_
  refine Lw.val (Ex.move rfl) rfl ?_
  refine Lw.part 31 rfl ?_ ?_
  · intro g2
    refine Lw.pass (dj := 31) rfl rfl rfl rfl ?_
    refine Lw.pass (dj := 31) rfl rfl rfl rfl ?_
    refine Lw.pass (dj := 31) rfl rfl rfl rfl ?_
    refine Lw.pass (dj := 31) rfl rfl rfl rfl ?_
    refine Lw.val (Ex.pickT rfl rfl) rfl ?_
    refine Lw.nil ?_
    refine Pw.thenN (Cw.out ?_)
    refine Cw.condT rfl ?_
    refine Cw.seq ?_
    refine Cw.region ?_
    refine Lw.callF rfl rfl (alive_c _) ?_
    rintro _ w ⟨rfl, hn⟩
    replace hB := hB.bs hn
    replace ha := ha.bs hn
    replace ht := ht.bs hn
    replace b_n := b_n.bs hn
    replace b_z := b_z.bs hn
    clear hn
    refine Lw.val (Ex.assign rfl) rfl ?_
    refine Lw.nil ?_
    refine Pw.thenN (Cw.out ?_)
    refine Cw.ret ?_
    refine Pw.thenR ?_
    refine Pw.ret1 rfl rfl ?_
    exact ⟨rfl, hB⟩
  intro g2
  have g2 : tot (ts.length : Int) (ts.map fun t => tsz t.s t.l) ≤ 3000 := by have := of_decide_eq_false g2; omega
  have h_i := ha.i
  refine Lw.take (dj := 31) rfl rfl ?_
  refine Lw.val (Ex.fieldAddr (q := 0) Tryz.underlying45 rfl (sz_26 _) rfl) rfl ?_
  refine Lw.take (dj := 31) rfl rfl ?_
  refine Lw.val (Ex.ldB (ag_26 _) rfl (by assumption) rfl) rfl ?_
  refine Lw.take (dj := 31) rfl rfl ?_
  refine Lw.val (Ex.lenS st_26 rfl (by assumption)) rfl ?_
  refine Lw.take (dj := 31) rfl rfl ?_
  refine Lw.val (Ex.eql rfl rfl) rfl ?_
  refine Lw.val (Ex.pickF rfl rfl) rfl ?_
  refine Lw.nil ?_
  refine Pw.thenN (Cw.out ?_)
  refine Cw.cond rfl ?_ ?_
  · intro g3
    refine Cw.seq ?_
    refine Cw.region ?_
    refine Lw.callF rfl rfl (alive_c _) ?_
    rintro _ w ⟨rfl, hn⟩
    replace hB := hB.bs hn
    replace ha := ha.bs hn
    replace ht := ht.bs hn
    replace b_n := b_n.bs hn
    replace b_z := b_z.bs hn
    clear hn
    refine Lw.val (Ex.assign rfl) rfl ?_
    refine Lw.nil ?_
    refine Pw.thenN (Cw.out ?_)
    refine Cw.ret ?_
    refine Pw.thenR ?_
    refine Pw.ret1 rfl rfl ?_
    exact ⟨rfl, hB⟩
  intro g3
  have g3 : a.i.length ≠ 0 := by have := of_decide_eq_false g3; omega
  have l_a := nsz_le g1 (by decide)
  have l_t := tot_le (l := ts.map fun t => tsz t.s t.l) (n := (ts.length : Int)) (fun x hx => by
    obtain ⟨t, -, rfl⟩ := List.mem_map.1 hx
    have := tsz_pos t.s t.l; omega)
  clear h_i
  obtain ⟨E, hE⟩ : ∃ E, E = doE a ts := ⟨_, rfl⟩
  refine Cw.skip ?_
  refine Pw.thenN (Cw.out ?_)
  refine Cw.seq ?_
  refine Cw.region ?_
  refine Lw.val (Ex.ldA (ag_45 _) (sz_45 _) rfl rfl (by assumption)) rfl ?_
  refine Lw.val (Ex.move rfl) rfl ?_
  refine Lw.callF rfl rfl (do_c a v ts w ha ht) ?_
  rintro _ w ⟨hn, hA⟩
  replace hB := hB.bs hn
  replace ha := ha.bs hn
  replace ht := ht.bs hn
  replace b_n := b_n.bs hn
  replace b_z := b_z.bs hn
  clear hn
  rw [← hE] at hA
  obtain ⟨c, rfl, h_c, c0, c1⟩ := hA
  replace c1 : E = 0 → c.s = actS a.k a ts ∧ c.l = actL a.k a ts := fun e => ⟨(c1 e).1, (c1 e).2.1⟩
  refine Lw.val (Ex.move rfl) rfl ?_
  refine Lw.val (Ex.extract (i := 0) rfl rfl) rfl ?_
  refine Lw.val (Ex.extract (i := 1) rfl rfl) rfl ?_
  refine Lw.boxed (cs := [c.x, c.y]) it_29 rfl rfl rfl rfl (fun _ => rfl) (h_c.one) ?_
  rintro A_c wt eA_c b_c hn zhn
  replace hB := hB.bs hn
  replace ha := ha.bs hn
  replace ht := ht.bs hn
  replace b_n := b_n.bs hn
  replace b_z := b_z.bs hn
  replace h_c := h_c.bs hn
  clear hn
  refine Lw.val (Ex.assign rfl) rfl ?_
  refine Lw.nil ?_
  refine Pw.thenN (Cw.out ?_)
  refine Cw.seq ?_
  refine Cw.region ?_
  refine Lw.val (Ex.ldA (ag_45 _) (sz_45 _) rfl rfl (by assumption)) rfl ?_
  refine Lw.callF rfl rfl (twinNode_c a wt ha (by omega) (by omega)) ?_
  rintro _ w1 ⟨hX, x, y, rfl, hT⟩
  refine Lw.boxed (cs := (N5.mk a.k x y a.i a.s a.n a.p).cells) it_45 rfl rfl rfl rfl (fun _ => rfl) ((hT.at a.k a.n a.p).ones) ?_
  rintro A_x w2 eA_x b_x hn2 zhn2
  replace hX := bt hX hn2
  have hT2 := hT.bs hn2
  have hj' : z.toNat % a.i.length < a.i.length := Nat.mod_lt _ (by omega)
  obtain ⟨j, hj⟩ : ∃ j, j = z.toNat % a.i.length := ⟨_, rfl⟩
  rw [← hj] at hj'
  have b_z2 := b_z.bs hX
  have s_x2 := hT2.tx.sl
  clear hn2
  refine Lw.nil ?_
  refine Pw.thenN (Cw.out ?_)
  refine Cw.seq ?_
  refine Cw.tail 12 mixed (by kernel_rfl) ?_
  refine Qw.val (fun w1 hq => Ex.fieldAddr (q := 0) Tryz.underlying45 rfl (sz_26 _) rfl) rfl ?_
  refine Qw.val (fun w1 hq => Ex.ldB (ag_26 _) rfl (Blk.bs (by assumption) hq) rfl) rfl ?_
  refine Qw.val (fun w1 hq => Ex.fieldAddr (q := 0) Tryz.underlying57 rfl (sz_5 _) rfl) rfl ?_
  refine Qw.val (fun w1 hq => Ex.ldB (ag_5 _) rfl (Blk.bs (by assumption) hq) rfl) rfl ?_
  refine Qw.val (fun w1 hq => Ex.conv8_I us_5 un_3 rfl) rfl ?_
  refine Qw.val (fun w1 hq => Ex.fieldAddr (q := 0) Tryz.underlying45 rfl (sz_26 _) rfl) rfl ?_
  refine Qw.val (fun w1 hq => Ex.ldB (ag_26 _) rfl (Blk.bs (by assumption) hq) rfl) rfl ?_
  refine Qw.val (fun w1 hq => Ex.lenS st_26 rfl (Sl.bs (by assumption) hq)) rfl ?_
  refine Qw.val (fun w1 hq => (Ex.remI rfl rfl (by omega) (by omega)).as (congrArg (Value.int .i64) (show (z.toNat : Int) % (a.i.length : Int) = (j : Int) by rw [hj]; omega))) rfl ?_
  refine Qw.val (fun w1 hq => Ex.fieldAddr (q := 0) Tryz.underlying57 rfl (sz_3 _) rfl) rfl ?_
  refine Qw.val (fun w1 hq => Ex.ldB (ag_3 _) rfl (Blk.bs (by assumption) hq) rfl) rfl ?_
  refine Qw.val (fun w1 hq => Ex.idxT st_26 rfl rfl (s_x2.bs hq) j rfl hj') rfl ?_
  refine Qw.done (fun w3 hq => ?_)
  replace hX := bt hX hq
  have hT3 := hT2.bs hq
  have b_x3 := b_x.bs hq
  refine Lw.unit (Xu.stO (u := .int .i64 bw) (sz_3 _) rfl rfl rfl hT3.tx.own (by rw [List.length_map]; exact hj')) ?_
  rintro w4 ⟨o_x, hg, hz⟩
  replace hX := hX.grown hg hX.size (fun b e => (hT.bx b e).1)
  have b_x4 := b_x3.by hg (fun e => by have := hT.bx A_x e.symm; omega)
  replace b_x4 : Blk w4 A_x nodeT (N5.mk a.k x y (a.i.set j bw) a.s a.n a.p).cells := b_x4
  have s_y4 := (twn_by hT3.ty hg hT3.ne).sl
  rw [← List.map_set] at o_x
  rw [show a.i.length = (a.i.set j bw).length from (List.length_set ..).symm] at o_x
  have s_x4 : SlT (Value.int .i64) w4 x (a.i.set j bw) := own_slT o_x
  have ha4 : N5.at w4 ⟨a.k, x, y, a.i.set j bw, a.s, a.n, a.p⟩ := ⟨s_x4, s_y4⟩
  clear s_x4 s_y4 o_x hg hz hT3 b_x3 hT2 b_x s_x2 hq
  replace hB := hB.bs hX
  replace ha := ha.bs hX
  replace ht := ht.bs hX
  replace b_n := b_n.bs hX
  replace b_z := b_z.bs hX
  replace h_c := h_c.bs hX
  replace b_c := b_c.bs hX
  clear hX hT b_z2
  refine Lw.nil ?_
  refine Pw.thenN (Cw.out ?_)
  refine Cw.seq ?_
  refine Cw.region ?_
  refine Lw.val (Ex.ldA (ag_45 _) (sz_45 _) rfl rfl (by assumption)) rfl ?_
  refine Lw.val (Ex.move rfl) rfl ?_
  refine Lw.callF rfl rfl (do_c _ v ts w4 ha4 ht) ?_
  rintro _ w ⟨hn, hA⟩
  replace hB := hB.bs hn
  replace ha := ha.bs hn
  replace ht := ht.bs hn
  replace b_n := b_n.bs hn
  replace b_z := b_z.bs hn
  replace h_c := h_c.bs hn
  replace b_c := b_c.bs hn
  clear hn ha4 b_x4
  rw [doE_i a x y (a.i.set j bw) ts (by rw [List.length_set]), ← hE] at hA
  obtain ⟨d, rfl, h_d, d0, d1⟩ := hA
  replace d1 : E = 0 → d.s = actS a.k a ts ∧ d.l = actL a.k a ts := fun e => ⟨(d1 e).1, (d1 e).2.1⟩
  refine Lw.val (Ex.move rfl) rfl ?_
  refine Lw.val (Ex.extract (i := 0) rfl rfl) rfl ?_
  refine Lw.val (Ex.extract (i := 1) rfl rfl) rfl ?_
  refine Lw.boxed (cs := [d.x, d.y]) it_29 rfl rfl rfl rfl (fun _ => rfl) (h_d.one) ?_
  rintro A_d w0 eA_d b_d hn zhn
  replace hB := hB.bs hn
  replace ha := ha.bs hn
  replace ht := ht.bs hn
  replace b_n := b_n.bs hn
  replace b_z := b_z.bs hn
  replace h_c := h_c.bs hn
  replace b_c := b_c.bs hn
  replace h_d := h_d.bs hn
  clear hn
  refine Lw.val (Ex.assign rfl) rfl ?_
  refine Lw.nil ?_
  refine Pw.thenN (Cw.out ?_)
  refine Cw.seq ?_
  refine Cw.midS (St := Int) (fun s => [(1, v), (3, .pointer (some ⟨A_n, 0, none⟩)), (7, .pointer (some ⟨A_c, 0, none⟩)), (8, .int .i64 E), (10, .pointer (some ⟨A_d, 0, none⟩)), (11, .int .i64 E), (13, .int .i64 s)]) (fun s w' => Below w0.heap.size w0 w' ∧ (E = 0 → s = 1)) ?_ ?_
  · refine Cw.any mixed (fun w hC _ => ?_)
    refine Aw.cls (fun w' => Below w0.heap.size w0 w') (fun hC => ?_) (hC)
    refine AwC.take (i := 0) NoP.midS rfl (by kernel_rfl) (by kernel_rfl) (by kernel_rfl) (fun w1 hc => Ex.ldA (ag_45 _) (sz_45 _) rfl rfl (Blk.bs (by assumption) hc)) rfl ?_
    refine AwC.take (i := 1) NoP.midS rfl (by kernel_rfl) (by kernel_rfl) (by kernel_rfl) (fun w1 hc => Ex.move rfl) rfl ?_
    refine AwC.three (by assumption) (i0 := 2) (i1 := 3) (i2 := 11) (by kernel_rfl) rfl rfl rfl ?_ ?_ ?_
    have zc := hC.size
    have s_v0 := (ht.bs hC).1
    refine Lw.valW (Xw.append2 (base := w0.heap.size) st_25 it_29 rfl (by decide) rfl rfl (World.ownsRow_nil _ _ _ _) s_v0 (tens_ones (ht.bs hC)) (by omega) (by omega) zc) rfl ?_
    rintro q w ⟨o_q, -, hg, hqv⟩
    rw [List.nil_append, Nat.zero_add] at o_q
    have n_q := fun b (e : q.ownBlock = some b) => And.intro (app_lo hqv e) (own_block o_q b e).2
    have hn := grown_below hg (Nat.le_refl _) fun _ e => by cases e
    have zz := hn.size
    replace hC := hC.bs hn
    clear hn hg zc s_v0 hqv
    refine AwC.back ?_
    refine AwC.two (by assumption) (i := 3) (j := 11) (by kernel_rfl) rfl rfl ?_ ?_
    refine Lw.valW (Xw.lit (vs := ([1#32] : List (BitVec 32)).map i32) st_27 it_21 rfl (by kernel_rfl) rfl rfl rfl) rfl ?_
    rintro u w ⟨o_u, -, hn, -⟩
    have zz := hn.size
    replace hC := hC.bs hn
    replace o_q := o_q.bs hn
    clear hn
    refine AwC.back ?_
    refine AwC.two (by assumption) (i := 4) (j := 11) (by kernel_rfl) rfl rfl ?_ ?_
    refine Lw.callF rfl rfl (mofo_c u [1#32] w (own_slT o_u)) ?_
    rintro _ w ⟨hn, x1, B1, rfl, o_x1⟩
    have zz := hn.size
    replace hC := hC.bs hn
    replace o_q := o_q.bs hn
    replace o_u := o_u.bs hn
    clear hn
    refine AwC.back ?_
    refine AwC.two (by assumption) (i := 5) (j := 11) (by kernel_rfl) rfl rfl ?_ ?_
    refine Lw.valW (Xw.litA1 (cs := [x1, u]) st_25 it_29 rfl rfl (by decide) (by decide)) rfl ?_
    rintro k w ⟨o_k, -, hn, -⟩
    have zz := hn.size
    replace hC := hC.bs hn
    replace o_q := o_q.bs hn
    replace o_u := o_u.bs hn
    replace o_x1 := o_x1.bs hn
    clear hn
    refine AwC.back ?_
    refine AwC.two (by assumption) (i := 6) (j := 11) (by kernel_rfl) rfl rfl ?_ ?_
    have zc := hC.size
    refine Lw.valW (Xw.append2 (base := w0.heap.size) st_25 it_29 rfl (by decide) rfl rfl o_q (own_sl o_k) (by rw [List.all_cons, List.all_cons, (own_sl o_x1).one', (own_sl o_u).one']; rfl) (by omega) (by omega) zc) rfl ?_
    rintro m w ⟨o_m, hn, hg, -⟩
    have hC := hC.trans hn
    have hTm : Tens w m (ts ++ [⟨x1, u, [1], [1#32]⟩]) := ⟨by have := own_sl o_m; rw [cellsOf_app, List.length_append]; exact this, fun t ht' => by
      rcases List.mem_append.1 ht' with ht' | ht'
      · exact ((ht.bs hC).2 t ht')
      · rw [List.mem_singleton.1 ht']
        exact ⟨own_slT (own_away o_x1 o_q (by decide) hg), own_slT (own_away o_u o_q (by decide) hg)⟩⟩
    try replace b_t := b_t.by hg (fun e => by have := n_q _ e.symm; omega)
    have zz := hg.size
    clear hn hg zc
    refine AwC.back ?_
    refine AwC.two (by assumption) (i := 7) (j := 11) (by kernel_rfl) rfl rfl ?_ ?_
    refine Lw.callF rfl rfl (do_c a m _ w (ha.bs hC) hTm) ?_
    rintro _ w ⟨hn, hA⟩
    have hC := bt hC hn
    try replace b_t := b_t.bs hn
    have zz := hn.size
    have hs7 : E = 0 → doE a (ts ++ [⟨x1, u, [1], [1#32]⟩]) = 1 := fun e => doE_more a ts _ (hE.symm.trans e)
    obtain ⟨g7, hg7⟩ : ∃ g, g = doE a (ts ++ [⟨x1, u, [1], [1#32]⟩]) := ⟨_, rfl⟩
    rw [← hg7] at hs7 hA
    obtain ⟨f7, rfl, h_7, -, -⟩ := hA
    clear hn hTm
    refine AwC.back ?_
    refine AwC.take (i := 8) NoP.midS rfl (by kernel_rfl) (by kernel_rfl) (by kernel_rfl) (fun w1 hc => Ex.move rfl) rfl ?_
    refine AwC.take (i := 9) NoP.midS rfl (by kernel_rfl) (by kernel_rfl) (by kernel_rfl) (fun w1 hc => Ex.extract (i := 0) rfl rfl) rfl ?_
    refine AwC.take (i := 10) NoP.midS rfl (by kernel_rfl) (by kernel_rfl) (by kernel_rfl) (fun w1 hc => Ex.extract (i := 1) rfl rfl) rfl ?_
    refine AwC.only (by assumption) (i := 11) (by kernel_rfl) rfl ?_
    have zc := hC.size
    refine Lw.newA it_29 rfl ?_
    rintro A_t w eA_t b_t hn -
    replace hC := hC.bs hn
    replace h_7 := h_7.bs hn
    clear hn
    refine AwC.back ?_
    refine AwC.only (by assumption) (i := 12) (by kernel_rfl) rfl ?_
    have yt : w0.heap.size ≤ A_t := by omega
    have yb := blk_lt b_t
    clear zc
    refine Lw.unit (Xu.stA (cs := [f7.x, f7.y]) (k := 2) (by kernel_rfl) rfl rfl rfl h_7.one b_t rfl) ?_
    rintro w' ⟨-, hg, hz⟩
    have hC' := hC.grown hg hC.size (by rintro _ e; have := Option.some.inj e; omega)
    refine AwC.back ?_
    refine AwC.take (i := 13) NoP.midS rfl (by kernel_rfl) (by kernel_rfl) (by kernel_rfl) (fun w1 hc => Ex.assign rfl) rfl ?_
    refine AwC.done (by assumption) (by kernel_rfl) ?_
    exact Pw.midS (g7) ⟨rfl, rfl, rfl, rfl, rfl, rfl, rfl, trivial⟩ (⟨hC', hs7⟩)
    have zc := hC.size
    refine Lw.newA it_29 rfl ?_
    rintro A_t w eA_t b_t hn -
    replace hC := hC.bs hn
    replace hTm := hTm.bs hn
    clear hn
    refine AwC.back ?_
    refine AwC.only (by assumption) (i := 7) (by kernel_rfl) rfl ?_
    have yt : w0.heap.size ≤ A_t := by omega
    have yb := blk_lt b_t
    clear zc
    refine Lw.callF rfl rfl (do_c a m _ w (ha.bs hC) hTm) ?_
    rintro _ w ⟨hn, hA⟩
    have hC := bt hC hn
    try replace b_t := b_t.bs hn
    have zz := hn.size
    have hs7 : E = 0 → doE a (ts ++ [⟨x1, u, [1], [1#32]⟩]) = 1 := fun e => doE_more a ts _ (hE.symm.trans e)
    obtain ⟨g7, hg7⟩ : ∃ g, g = doE a (ts ++ [⟨x1, u, [1], [1#32]⟩]) := ⟨_, rfl⟩
    rw [← hg7] at hs7 hA
    obtain ⟨f7, rfl, h_7, -, -⟩ := hA
    clear hn hTm
    refine AwC.back ?_
    refine AwC.take (i := 8) NoP.midS rfl (by kernel_rfl) (by kernel_rfl) (by kernel_rfl) (fun w1 hc => Ex.move rfl) rfl ?_
    refine AwC.take (i := 9) NoP.midS rfl (by kernel_rfl) (by kernel_rfl) (by kernel_rfl) (fun w1 hc => Ex.extract (i := 0) rfl rfl) rfl ?_
    refine AwC.take (i := 10) NoP.midS rfl (by kernel_rfl) (by kernel_rfl) (by kernel_rfl) (fun w1 hc => Ex.extract (i := 1) rfl rfl) rfl ?_
    refine AwC.only (by assumption) (i := 12) (by kernel_rfl) rfl ?_
    refine Lw.unit (Xu.stA (cs := [f7.x, f7.y]) (k := 2) (by kernel_rfl) rfl rfl rfl h_7.one b_t rfl) ?_
    rintro w' ⟨-, hg, hz⟩
    have hC' := hC.grown hg hC.size (by rintro _ e; have := Option.some.inj e; omega)
    refine AwC.back ?_
    refine AwC.take (i := 13) NoP.midS rfl (by kernel_rfl) (by kernel_rfl) (by kernel_rfl) (fun w1 hc => Ex.assign rfl) rfl ?_
    refine AwC.done (by assumption) (by kernel_rfl) ?_
    exact Pw.midS (g7) ⟨rfl, rfl, rfl, rfl, rfl, rfl, rfl, trivial⟩ (⟨hC', hs7⟩)
    have zc := hC.size
    refine Lw.newA it_29 rfl ?_
    rintro A_t w eA_t b_t hn -
    replace hC := hC.bs hn
    replace o_q := o_q.bs hn
    replace o_u := o_u.bs hn
    replace o_x1 := o_x1.bs hn
    replace o_k := o_k.bs hn
    clear hn
    refine AwC.back ?_
    refine AwC.only (by assumption) (i := 6) (by kernel_rfl) rfl ?_
    have yt : w0.heap.size ≤ A_t := by omega
    have yb := blk_lt b_t
    clear zc
    have zc := hC.size
    refine Lw.valW (Xw.append2 (base := w0.heap.size) st_25 it_29 rfl (by decide) rfl rfl o_q (own_sl o_k) (by rw [List.all_cons, List.all_cons, (own_sl o_x1).one', (own_sl o_u).one']; rfl) (by omega) (by omega) zc) rfl ?_
    rintro m w ⟨o_m, hn, hg, -⟩
    have hC := hC.trans hn
    have hTm : Tens w m (ts ++ [⟨x1, u, [1], [1#32]⟩]) := ⟨by have := own_sl o_m; rw [cellsOf_app, List.length_append]; exact this, fun t ht' => by
      rcases List.mem_append.1 ht' with ht' | ht'
      · exact ((ht.bs hC).2 t ht')
      · rw [List.mem_singleton.1 ht']
        exact ⟨own_slT (own_away o_x1 o_q (by decide) hg), own_slT (own_away o_u o_q (by decide) hg)⟩⟩
    try replace b_t := b_t.by hg (fun e => by have := n_q _ e.symm; omega)
    have zz := hg.size
    clear hn hg zc
    refine AwC.back ?_
    refine AwC.only (by assumption) (i := 7) (by kernel_rfl) rfl ?_
    refine Lw.callF rfl rfl (do_c a m _ w (ha.bs hC) hTm) ?_
    rintro _ w ⟨hn, hA⟩
    have hC := bt hC hn
    try replace b_t := b_t.bs hn
    have zz := hn.size
    have hs7 : E = 0 → doE a (ts ++ [⟨x1, u, [1], [1#32]⟩]) = 1 := fun e => doE_more a ts _ (hE.symm.trans e)
    obtain ⟨g7, hg7⟩ : ∃ g, g = doE a (ts ++ [⟨x1, u, [1], [1#32]⟩]) := ⟨_, rfl⟩
    rw [← hg7] at hs7 hA
    obtain ⟨f7, rfl, h_7, -, -⟩ := hA
    clear hn hTm
    refine AwC.back ?_
    refine AwC.take (i := 8) NoP.midS rfl (by kernel_rfl) (by kernel_rfl) (by kernel_rfl) (fun w1 hc => Ex.move rfl) rfl ?_
    refine AwC.take (i := 9) NoP.midS rfl (by kernel_rfl) (by kernel_rfl) (by kernel_rfl) (fun w1 hc => Ex.extract (i := 0) rfl rfl) rfl ?_
    refine AwC.take (i := 10) NoP.midS rfl (by kernel_rfl) (by kernel_rfl) (by kernel_rfl) (fun w1 hc => Ex.extract (i := 1) rfl rfl) rfl ?_
    refine AwC.only (by assumption) (i := 12) (by kernel_rfl) rfl ?_
    refine Lw.unit (Xu.stA (cs := [f7.x, f7.y]) (k := 2) (by kernel_rfl) rfl rfl rfl h_7.one b_t rfl) ?_
    rintro w' ⟨-, hg, hz⟩
    have hC' := hC.grown hg hC.size (by rintro _ e; have := Option.some.inj e; omega)
    refine AwC.back ?_
    refine AwC.take (i := 13) NoP.midS rfl (by kernel_rfl) (by kernel_rfl) (by kernel_rfl) (fun w1 hc => Ex.assign rfl) rfl ?_
    refine AwC.done (by assumption) (by kernel_rfl) ?_
    exact Pw.midS (g7) ⟨rfl, rfl, rfl, rfl, rfl, rfl, rfl, trivial⟩ (⟨hC', hs7⟩)
    have zc := hC.size
    refine Lw.newA it_29 rfl ?_
    rintro A_t w eA_t b_t hn -
    replace hC := hC.bs hn
    replace o_q := o_q.bs hn
    replace o_u := o_u.bs hn
    replace o_x1 := o_x1.bs hn
    clear hn
    refine AwC.back ?_
    refine AwC.only (by assumption) (i := 5) (by kernel_rfl) rfl ?_
    have yt : w0.heap.size ≤ A_t := by omega
    have yb := blk_lt b_t
    clear zc
    refine Lw.valW (Xw.litA1 (cs := [x1, u]) st_25 it_29 rfl rfl (by decide) (by decide)) rfl ?_
    rintro k w ⟨o_k, -, hn, -⟩
    have zz := hn.size
    replace hC := hC.bs hn
    replace o_q := o_q.bs hn
    replace o_u := o_u.bs hn
    replace o_x1 := o_x1.bs hn
    replace b_t := b_t.bs hn
    clear hn
    refine AwC.back ?_
    refine AwC.only (by assumption) (i := 6) (by kernel_rfl) rfl ?_
    have zc := hC.size
    refine Lw.valW (Xw.append2 (base := w0.heap.size) st_25 it_29 rfl (by decide) rfl rfl o_q (own_sl o_k) (by rw [List.all_cons, List.all_cons, (own_sl o_x1).one', (own_sl o_u).one']; rfl) (by omega) (by omega) zc) rfl ?_
    rintro m w ⟨o_m, hn, hg, -⟩
    have hC := hC.trans hn
    have hTm : Tens w m (ts ++ [⟨x1, u, [1], [1#32]⟩]) := ⟨by have := own_sl o_m; rw [cellsOf_app, List.length_append]; exact this, fun t ht' => by
      rcases List.mem_append.1 ht' with ht' | ht'
      · exact ((ht.bs hC).2 t ht')
      · rw [List.mem_singleton.1 ht']
        exact ⟨own_slT (own_away o_x1 o_q (by decide) hg), own_slT (own_away o_u o_q (by decide) hg)⟩⟩
    try replace b_t := b_t.by hg (fun e => by have := n_q _ e.symm; omega)
    have zz := hg.size
    clear hn hg zc
    refine AwC.back ?_
    refine AwC.only (by assumption) (i := 7) (by kernel_rfl) rfl ?_
    refine Lw.callF rfl rfl (do_c a m _ w (ha.bs hC) hTm) ?_
    rintro _ w ⟨hn, hA⟩
    have hC := bt hC hn
    try replace b_t := b_t.bs hn
    have zz := hn.size
    have hs7 : E = 0 → doE a (ts ++ [⟨x1, u, [1], [1#32]⟩]) = 1 := fun e => doE_more a ts _ (hE.symm.trans e)
    obtain ⟨g7, hg7⟩ : ∃ g, g = doE a (ts ++ [⟨x1, u, [1], [1#32]⟩]) := ⟨_, rfl⟩
    rw [← hg7] at hs7 hA
    obtain ⟨f7, rfl, h_7, -, -⟩ := hA
    clear hn hTm
    refine AwC.back ?_
    refine AwC.take (i := 8) NoP.midS rfl (by kernel_rfl) (by kernel_rfl) (by kernel_rfl) (fun w1 hc => Ex.move rfl) rfl ?_
    refine AwC.take (i := 9) NoP.midS rfl (by kernel_rfl) (by kernel_rfl) (by kernel_rfl) (fun w1 hc => Ex.extract (i := 0) rfl rfl) rfl ?_
    refine AwC.take (i := 10) NoP.midS rfl (by kernel_rfl) (by kernel_rfl) (by kernel_rfl) (fun w1 hc => Ex.extract (i := 1) rfl rfl) rfl ?_
    refine AwC.only (by assumption) (i := 12) (by kernel_rfl) rfl ?_
    refine Lw.unit (Xu.stA (cs := [f7.x, f7.y]) (k := 2) (by kernel_rfl) rfl rfl rfl h_7.one b_t rfl) ?_
    rintro w' ⟨-, hg, hz⟩
    have hC' := hC.grown hg hC.size (by rintro _ e; have := Option.some.inj e; omega)
    refine AwC.back ?_
    refine AwC.take (i := 13) NoP.midS rfl (by kernel_rfl) (by kernel_rfl) (by kernel_rfl) (fun w1 hc => Ex.assign rfl) rfl ?_
    refine AwC.done (by assumption) (by kernel_rfl) ?_
    exact Pw.midS (g7) ⟨rfl, rfl, rfl, rfl, rfl, rfl, rfl, trivial⟩ (⟨hC', hs7⟩)
    have zc := hC.size
    refine Lw.newA it_29 rfl ?_
    rintro A_t w eA_t b_t hn -
    replace hC := hC.bs hn
    replace o_q := o_q.bs hn
    replace o_u := o_u.bs hn
    clear hn
    refine AwC.back ?_
    refine AwC.only (by assumption) (i := 4) (by kernel_rfl) rfl ?_
    have yt : w0.heap.size ≤ A_t := by omega
    have yb := blk_lt b_t
    clear zc
    refine Lw.callF rfl rfl (mofo_c u [1#32] w (own_slT o_u)) ?_
    rintro _ w ⟨hn, x1, B1, rfl, o_x1⟩
    have zz := hn.size
    replace hC := hC.bs hn
    replace o_q := o_q.bs hn
    replace o_u := o_u.bs hn
    replace b_t := b_t.bs hn
    clear hn
    refine AwC.back ?_
    refine AwC.only (by assumption) (i := 5) (by kernel_rfl) rfl ?_
    refine Lw.valW (Xw.litA1 (cs := [x1, u]) st_25 it_29 rfl rfl (by decide) (by decide)) rfl ?_
    rintro k w ⟨o_k, -, hn, -⟩
    have zz := hn.size
    replace hC := hC.bs hn
    replace o_q := o_q.bs hn
    replace o_u := o_u.bs hn
    replace b_t := b_t.bs hn
    replace o_x1 := o_x1.bs hn
    clear hn
    refine AwC.back ?_
    refine AwC.only (by assumption) (i := 6) (by kernel_rfl) rfl ?_
    have zc := hC.size
    refine Lw.valW (Xw.append2 (base := w0.heap.size) st_25 it_29 rfl (by decide) rfl rfl o_q (own_sl o_k) (by rw [List.all_cons, List.all_cons, (own_sl o_x1).one', (own_sl o_u).one']; rfl) (by omega) (by omega) zc) rfl ?_
    rintro m w ⟨o_m, hn, hg, -⟩
    have hC := hC.trans hn
    have hTm : Tens w m (ts ++ [⟨x1, u, [1], [1#32]⟩]) := ⟨by have := own_sl o_m; rw [cellsOf_app, List.length_append]; exact this, fun t ht' => by
      rcases List.mem_append.1 ht' with ht' | ht'
      · exact ((ht.bs hC).2 t ht')
      · rw [List.mem_singleton.1 ht']
        exact ⟨own_slT (own_away o_x1 o_q (by decide) hg), own_slT (own_away o_u o_q (by decide) hg)⟩⟩
    try replace b_t := b_t.by hg (fun e => by have := n_q _ e.symm; omega)
    have zz := hg.size
    clear hn hg zc
    refine AwC.back ?_
    refine AwC.only (by assumption) (i := 7) (by kernel_rfl) rfl ?_
    refine Lw.callF rfl rfl (do_c a m _ w (ha.bs hC) hTm) ?_
    rintro _ w ⟨hn, hA⟩
    have hC := bt hC hn
    try replace b_t := b_t.bs hn
    have zz := hn.size
    have hs7 : E = 0 → doE a (ts ++ [⟨x1, u, [1], [1#32]⟩]) = 1 := fun e => doE_more a ts _ (hE.symm.trans e)
    obtain ⟨g7, hg7⟩ : ∃ g, g = doE a (ts ++ [⟨x1, u, [1], [1#32]⟩]) := ⟨_, rfl⟩
    rw [← hg7] at hs7 hA
    obtain ⟨f7, rfl, h_7, -, -⟩ := hA
    clear hn hTm
    refine AwC.back ?_
    refine AwC.take (i := 8) NoP.midS rfl (by kernel_rfl) (by kernel_rfl) (by kernel_rfl) (fun w1 hc => Ex.move rfl) rfl ?_
    refine AwC.take (i := 9) NoP.midS rfl (by kernel_rfl) (by kernel_rfl) (by kernel_rfl) (fun w1 hc => Ex.extract (i := 0) rfl rfl) rfl ?_
    refine AwC.take (i := 10) NoP.midS rfl (by kernel_rfl) (by kernel_rfl) (by kernel_rfl) (fun w1 hc => Ex.extract (i := 1) rfl rfl) rfl ?_
    refine AwC.only (by assumption) (i := 12) (by kernel_rfl) rfl ?_
    refine Lw.unit (Xu.stA (cs := [f7.x, f7.y]) (k := 2) (by kernel_rfl) rfl rfl rfl h_7.one b_t rfl) ?_
    rintro w' ⟨-, hg, hz⟩
    have hC' := hC.grown hg hC.size (by rintro _ e; have := Option.some.inj e; omega)
    refine AwC.back ?_
    refine AwC.take (i := 13) NoP.midS rfl (by kernel_rfl) (by kernel_rfl) (by kernel_rfl) (fun w1 hc => Ex.assign rfl) rfl ?_
    refine AwC.done (by assumption) (by kernel_rfl) ?_
    exact Pw.midS (g7) ⟨rfl, rfl, rfl, rfl, rfl, rfl, rfl, trivial⟩ (⟨hC', hs7⟩)
    have zc := hC.size
    refine Lw.newA it_29 rfl ?_
    rintro A_t w eA_t b_t hn -
    replace hC := hC.bs hn
    replace o_q := o_q.bs hn
    clear hn
    refine AwC.back ?_
    refine AwC.only (by assumption) (i := 3) (by kernel_rfl) rfl ?_
    have yt : w0.heap.size ≤ A_t := by omega
    have yb := blk_lt b_t
    clear zc
    refine Lw.valW (Xw.lit (vs := ([1#32] : List (BitVec 32)).map i32) st_27 it_21 rfl (by kernel_rfl) rfl rfl rfl) rfl ?_
    rintro u w ⟨o_u, -, hn, -⟩
    have zz := hn.size
    replace hC := hC.bs hn
    replace o_q := o_q.bs hn
    replace b_t := b_t.bs hn
    clear hn
    refine AwC.back ?_
    refine AwC.only (by assumption) (i := 4) (by kernel_rfl) rfl ?_
    refine Lw.callF rfl rfl (mofo_c u [1#32] w (own_slT o_u)) ?_
    rintro _ w ⟨hn, x1, B1, rfl, o_x1⟩
    have zz := hn.size
    replace hC := hC.bs hn
    replace o_q := o_q.bs hn
    replace b_t := b_t.bs hn
    replace o_u := o_u.bs hn
    clear hn
    refine AwC.back ?_
    refine AwC.only (by assumption) (i := 5) (by kernel_rfl) rfl ?_
    refine Lw.valW (Xw.litA1 (cs := [x1, u]) st_25 it_29 rfl rfl (by decide) (by decide)) rfl ?_
    rintro k w ⟨o_k, -, hn, -⟩
    have zz := hn.size
    replace hC := hC.bs hn
    replace o_q := o_q.bs hn
    replace b_t := b_t.bs hn
    replace o_u := o_u.bs hn
    replace o_x1 := o_x1.bs hn
    clear hn
    refine AwC.back ?_
    refine AwC.only (by assumption) (i := 6) (by kernel_rfl) rfl ?_
    have zc := hC.size
    refine Lw.valW (Xw.append2 (base := w0.heap.size) st_25 it_29 rfl (by decide) rfl rfl o_q (own_sl o_k) (by rw [List.all_cons, List.all_cons, (own_sl o_x1).one', (own_sl o_u).one']; rfl) (by omega) (by omega) zc) rfl ?_
    rintro m w ⟨o_m, hn, hg, -⟩
    have hC := hC.trans hn
    have hTm : Tens w m (ts ++ [⟨x1, u, [1], [1#32]⟩]) := ⟨by have := own_sl o_m; rw [cellsOf_app, List.length_append]; exact this, fun t ht' => by
      rcases List.mem_append.1 ht' with ht' | ht'
      · exact ((ht.bs hC).2 t ht')
      · rw [List.mem_singleton.1 ht']
        exact ⟨own_slT (own_away o_x1 o_q (by decide) hg), own_slT (own_away o_u o_q (by decide) hg)⟩⟩
    try replace b_t := b_t.by hg (fun e => by have := n_q _ e.symm; omega)
    have zz := hg.size
    clear hn hg zc
    refine AwC.back ?_
    refine AwC.only (by assumption) (i := 7) (by kernel_rfl) rfl ?_
    refine Lw.callF rfl rfl (do_c a m _ w (ha.bs hC) hTm) ?_
    rintro _ w ⟨hn, hA⟩
    have hC := bt hC hn
    try replace b_t := b_t.bs hn
    have zz := hn.size
    have hs7 : E = 0 → doE a (ts ++ [⟨x1, u, [1], [1#32]⟩]) = 1 := fun e => doE_more a ts _ (hE.symm.trans e)
    obtain ⟨g7, hg7⟩ : ∃ g, g = doE a (ts ++ [⟨x1, u, [1], [1#32]⟩]) := ⟨_, rfl⟩
    rw [← hg7] at hs7 hA
    obtain ⟨f7, rfl, h_7, -, -⟩ := hA
    clear hn hTm
    refine AwC.back ?_
    refine AwC.take (i := 8) NoP.midS rfl (by kernel_rfl) (by kernel_rfl) (by kernel_rfl) (fun w1 hc => Ex.move rfl) rfl ?_
    refine AwC.take (i := 9) NoP.midS rfl (by kernel_rfl) (by kernel_rfl) (by kernel_rfl) (fun w1 hc => Ex.extract (i := 0) rfl rfl) rfl ?_
    refine AwC.take (i := 10) NoP.midS rfl (by kernel_rfl) (by kernel_rfl) (by kernel_rfl) (fun w1 hc => Ex.extract (i := 1) rfl rfl) rfl ?_
    refine AwC.only (by assumption) (i := 12) (by kernel_rfl) rfl ?_
    refine Lw.unit (Xu.stA (cs := [f7.x, f7.y]) (k := 2) (by kernel_rfl) rfl rfl rfl h_7.one b_t rfl) ?_
    rintro w' ⟨-, hg, hz⟩
    have hC' := hC.grown hg hC.size (by rintro _ e; have := Option.some.inj e; omega)
    refine AwC.back ?_
    refine AwC.take (i := 13) NoP.midS rfl (by kernel_rfl) (by kernel_rfl) (by kernel_rfl) (fun w1 hc => Ex.assign rfl) rfl ?_
    refine AwC.done (by assumption) (by kernel_rfl) ?_
    exact Pw.midS (g7) ⟨rfl, rfl, rfl, rfl, rfl, rfl, rfl, trivial⟩ (⟨hC', hs7⟩)
    refine Lw.valW (Xw.lit (vs := ([1#32] : List (BitVec 32)).map i32) st_27 it_21 rfl (by kernel_rfl) rfl rfl rfl) rfl ?_
    rintro u w ⟨o_u, -, hn, -⟩
    have zz := hn.size
    replace hC := hC.bs hn
    clear hn
    refine AwC.back ?_
    refine AwC.two (by assumption) (i := 2) (j := 11) (by kernel_rfl) rfl rfl ?_ ?_
    have zc := hC.size
    have s_v0 := (ht.bs hC).1
    refine Lw.valW (Xw.append2 (base := w0.heap.size) st_25 it_29 rfl (by decide) rfl rfl (World.ownsRow_nil _ _ _ _) s_v0 (tens_ones (ht.bs hC)) (by omega) (by omega) zc) rfl ?_
    rintro q w ⟨o_q, -, hg, hqv⟩
    rw [List.nil_append, Nat.zero_add] at o_q
    have n_q := fun b (e : q.ownBlock = some b) => And.intro (app_lo hqv e) (own_block o_q b e).2
    have hn := grown_below hg (Nat.le_refl _) fun _ e => by cases e
    have zz := hn.size
    replace hC := hC.bs hn
    replace o_u := o_u.bs hn
    clear hn hg zc s_v0 hqv
    refine AwC.back ?_
    refine AwC.two (by assumption) (i := 4) (j := 11) (by kernel_rfl) rfl rfl ?_ ?_
    refine Lw.callF rfl rfl (mofo_c u [1#32] w (own_slT o_u)) ?_
    rintro _ w ⟨hn, x1, B1, rfl, o_x1⟩
    have zz := hn.size
    replace hC := hC.bs hn
    replace o_u := o_u.bs hn
    replace o_q := o_q.bs hn
    clear hn
    refine AwC.back ?_
    refine AwC.two (by assumption) (i := 5) (j := 11) (by kernel_rfl) rfl rfl ?_ ?_
    refine Lw.valW (Xw.litA1 (cs := [x1, u]) st_25 it_29 rfl rfl (by decide) (by decide)) rfl ?_
    rintro k w ⟨o_k, -, hn, -⟩
    have zz := hn.size
    replace hC := hC.bs hn
    replace o_u := o_u.bs hn
    replace o_q := o_q.bs hn
    replace o_x1 := o_x1.bs hn
    clear hn
    refine AwC.back ?_
    refine AwC.two (by assumption) (i := 6) (j := 11) (by kernel_rfl) rfl rfl ?_ ?_
    have zc := hC.size
    refine Lw.valW (Xw.append2 (base := w0.heap.size) st_25 it_29 rfl (by decide) rfl rfl o_q (own_sl o_k) (by rw [List.all_cons, List.all_cons, (own_sl o_x1).one', (own_sl o_u).one']; rfl) (by omega) (by omega) zc) rfl ?_
    rintro m w ⟨o_m, hn, hg, -⟩
    have hC := hC.trans hn
    have hTm : Tens w m (ts ++ [⟨x1, u, [1], [1#32]⟩]) := ⟨by have := own_sl o_m; rw [cellsOf_app, List.length_append]; exact this, fun t ht' => by
      rcases List.mem_append.1 ht' with ht' | ht'
      · exact ((ht.bs hC).2 t ht')
      · rw [List.mem_singleton.1 ht']
        exact ⟨own_slT (own_away o_x1 o_q (by decide) hg), own_slT (own_away o_u o_q (by decide) hg)⟩⟩
    try replace b_t := b_t.by hg (fun e => by have := n_q _ e.symm; omega)
    have zz := hg.size
    clear hn hg zc
    refine AwC.back ?_
    refine AwC.two (by assumption) (i := 7) (j := 11) (by kernel_rfl) rfl rfl ?_ ?_
    refine Lw.callF rfl rfl (do_c a m _ w (ha.bs hC) hTm) ?_
    rintro _ w ⟨hn, hA⟩
    have hC := bt hC hn
    try replace b_t := b_t.bs hn
    have zz := hn.size
    have hs7 : E = 0 → doE a (ts ++ [⟨x1, u, [1], [1#32]⟩]) = 1 := fun e => doE_more a ts _ (hE.symm.trans e)
    obtain ⟨g7, hg7⟩ : ∃ g, g = doE a (ts ++ [⟨x1, u, [1], [1#32]⟩]) := ⟨_, rfl⟩
    rw [← hg7] at hs7 hA
    obtain ⟨f7, rfl, h_7, -, -⟩ := hA
    clear hn hTm
    refine AwC.back ?_
    refine AwC.take (i := 8) NoP.midS rfl (by kernel_rfl) (by kernel_rfl) (by kernel_rfl) (fun w1 hc => Ex.move rfl) rfl ?_
    refine AwC.take (i := 9) NoP.midS rfl (by kernel_rfl) (by kernel_rfl) (by kernel_rfl) (fun w1 hc => Ex.extract (i := 0) rfl rfl) rfl ?_
    refine AwC.take (i := 10) NoP.midS rfl (by kernel_rfl) (by kernel_rfl) (by kernel_rfl) (fun w1 hc => Ex.extract (i := 1) rfl rfl) rfl ?_
    refine AwC.only (by assumption) (i := 11) (by kernel_rfl) rfl ?_
    have zc := hC.size
    refine Lw.newA it_29 rfl ?_
    rintro A_t w eA_t b_t hn -
    replace hC := hC.bs hn
    replace h_7 := h_7.bs hn
    clear hn
    refine AwC.back ?_
    refine AwC.only (by assumption) (i := 12) (by kernel_rfl) rfl ?_
    have yt : w0.heap.size ≤ A_t := by omega
    have yb := blk_lt b_t
    clear zc
    refine Lw.unit (Xu.stA (cs := [f7.x, f7.y]) (k := 2) (by kernel_rfl) rfl rfl rfl h_7.one b_t rfl) ?_
    rintro w' ⟨-, hg, hz⟩
    have hC' := hC.grown hg hC.size (by rintro _ e; have := Option.some.inj e; omega)
    refine AwC.back ?_
    refine AwC.take (i := 13) NoP.midS rfl (by kernel_rfl) (by kernel_rfl) (by kernel_rfl) (fun w1 hc => Ex.assign rfl) rfl ?_
    refine AwC.done (by assumption) (by kernel_rfl) ?_
    exact Pw.midS (g7) ⟨rfl, rfl, rfl, rfl, rfl, rfl, rfl, trivial⟩ (⟨hC', hs7⟩)
    have zc := hC.size
    refine Lw.newA it_29 rfl ?_
    rintro A_t w eA_t b_t hn -
    replace hC := hC.bs hn
    replace hTm := hTm.bs hn
    clear hn
    refine AwC.back ?_
    refine AwC.only (by assumption) (i := 7) (by kernel_rfl) rfl ?_
    have yt : w0.heap.size ≤ A_t := by omega
    have yb := blk_lt b_t
    clear zc
    refine Lw.callF rfl rfl (do_c a m _ w (ha.bs hC) hTm) ?_
    rintro _ w ⟨hn, hA⟩
    have hC := bt hC hn
    try replace b_t := b_t.bs hn
    have zz := hn.size
    have hs7 : E = 0 → doE a (ts ++ [⟨x1, u, [1], [1#32]⟩]) = 1 := fun e => doE_more a ts _ (hE.symm.trans e)
    obtain ⟨g7, hg7⟩ : ∃ g, g = doE a (ts ++ [⟨x1, u, [1], [1#32]⟩]) := ⟨_, rfl⟩
    rw [← hg7] at hs7 hA
    obtain ⟨f7, rfl, h_7, -, -⟩ := hA
    clear hn hTm
    refine AwC.back ?_
    refine AwC.take (i := 8) NoP.midS rfl (by kernel_rfl) (by kernel_rfl) (by kernel_rfl) (fun w1 hc => Ex.move rfl) rfl ?_
    refine AwC.take (i := 9) NoP.midS rfl (by kernel_rfl) (by kernel_rfl) (by kernel_rfl) (fun w1 hc => Ex.extract (i := 0) rfl rfl) rfl ?_
    refine AwC.take (i := 10) NoP.midS rfl (by kernel_rfl) (by kernel_rfl) (by kernel_rfl) (fun w1 hc => Ex.extract (i := 1) rfl rfl) rfl ?_
    refine AwC.only (by assumption) (i := 12) (by kernel_rfl) rfl ?_
    refine Lw.unit (Xu.stA (cs := [f7.x, f7.y]) (k := 2) (by kernel_rfl) rfl rfl rfl h_7.one b_t rfl) ?_
    rintro w' ⟨-, hg, hz⟩
    have hC' := hC.grown hg hC.size (by rintro _ e; have := Option.some.inj e; omega)
    refine AwC.back ?_
    refine AwC.take (i := 13) NoP.midS rfl (by kernel_rfl) (by kernel_rfl) (by kernel_rfl) (fun w1 hc => Ex.assign rfl) rfl ?_
    refine AwC.done (by assumption) (by kernel_rfl) ?_
    exact Pw.midS (g7) ⟨rfl, rfl, rfl, rfl, rfl, rfl, rfl, trivial⟩ (⟨hC', hs7⟩)
    have zc := hC.size
    refine Lw.newA it_29 rfl ?_
    rintro A_t w eA_t b_t hn -
    replace hC := hC.bs hn
    replace o_u := o_u.bs hn
    replace o_q := o_q.bs hn
    replace o_x1 := o_x1.bs hn
    replace o_k := o_k.bs hn
    clear hn
    refine AwC.back ?_
    refine AwC.only (by assumption) (i := 6) (by kernel_rfl) rfl ?_
    have yt : w0.heap.size ≤ A_t := by omega
    have yb := blk_lt b_t
    clear zc
    have zc := hC.size
    refine Lw.valW (Xw.append2 (base := w0.heap.size) st_25 it_29 rfl (by decide) rfl rfl o_q (own_sl o_k) (by rw [List.all_cons, List.all_cons, (own_sl o_x1).one', (own_sl o_u).one']; rfl) (by omega) (by omega) zc) rfl ?_
    rintro m w ⟨o_m, hn, hg, -⟩
    have hC := hC.trans hn
    have hTm : Tens w m (ts ++ [⟨x1, u, [1], [1#32]⟩]) := ⟨by have := own_sl o_m; rw [cellsOf_app, List.length_append]; exact this, fun t ht' => by
      rcases List.mem_append.1 ht' with ht' | ht'
      · exact ((ht.bs hC).2 t ht')
      · rw [List.mem_singleton.1 ht']
        exact ⟨own_slT (own_away o_x1 o_q (by decide) hg), own_slT (own_away o_u o_q (by decide) hg)⟩⟩
    try replace b_t := b_t.by hg (fun e => by have := n_q _ e.symm; omega)
    have zz := hg.size
    clear hn hg zc
    refine AwC.back ?_
    refine AwC.only (by assumption) (i := 7) (by kernel_rfl) rfl ?_
    refine Lw.callF rfl rfl (do_c a m _ w (ha.bs hC) hTm) ?_
    rintro _ w ⟨hn, hA⟩
    have hC := bt hC hn
    try replace b_t := b_t.bs hn
    have zz := hn.size
    have hs7 : E = 0 → doE a (ts ++ [⟨x1, u, [1], [1#32]⟩]) = 1 := fun e => doE_more a ts _ (hE.symm.trans e)
    obtain ⟨g7, hg7⟩ : ∃ g, g = doE a (ts ++ [⟨x1, u, [1], [1#32]⟩]) := ⟨_, rfl⟩
    rw [← hg7] at hs7 hA
    obtain ⟨f7, rfl, h_7, -, -⟩ := hA
    clear hn hTm
    refine AwC.back ?_
    refine AwC.take (i := 8) NoP.midS rfl (by kernel_rfl) (by kernel_rfl) (by kernel_rfl) (fun w1 hc => Ex.move rfl) rfl ?_
    refine AwC.take (i := 9) NoP.midS rfl (by kernel_rfl) (by kernel_rfl) (by kernel_rfl) (fun w1 hc => Ex.extract (i := 0) rfl rfl) rfl ?_
    refine AwC.take (i := 10) NoP.midS rfl (by kernel_rfl) (by kernel_rfl) (by kernel_rfl) (fun w1 hc => Ex.extract (i := 1) rfl rfl) rfl ?_
    refine AwC.only (by assumption) (i := 12) (by kernel_rfl) rfl ?_
    refine Lw.unit (Xu.stA (cs := [f7.x, f7.y]) (k := 2) (by kernel_rfl) rfl rfl rfl h_7.one b_t rfl) ?_
    rintro w' ⟨-, hg, hz⟩
    have hC' := hC.grown hg hC.size (by rintro _ e; have := Option.some.inj e; omega)
    refine AwC.back ?_
    refine AwC.take (i := 13) NoP.midS rfl (by kernel_rfl) (by kernel_rfl) (by kernel_rfl) (fun w1 hc => Ex.assign rfl) rfl ?_
    refine AwC.done (by assumption) (by kernel_rfl) ?_
    exact Pw.midS (g7) ⟨rfl, rfl, rfl, rfl, rfl, rfl, rfl, trivial⟩ (⟨hC', hs7⟩)
    have zc := hC.size
    refine Lw.newA it_29 rfl ?_
    rintro A_t w eA_t b_t hn -
    replace hC := hC.bs hn
    replace o_u := o_u.bs hn
    replace o_q := o_q.bs hn
    replace o_x1 := o_x1.bs hn
    clear hn
    refine AwC.back ?_
    refine AwC.only (by assumption) (i := 5) (by kernel_rfl) rfl ?_
    have yt : w0.heap.size ≤ A_t := by omega
    have yb := blk_lt b_t
    clear zc
    refine Lw.valW (Xw.litA1 (cs := [x1, u]) st_25 it_29 rfl rfl (by decide) (by decide)) rfl ?_
    rintro k w ⟨o_k, -, hn, -⟩
    have zz := hn.size
    replace hC := hC.bs hn
    replace o_u := o_u.bs hn
    replace o_q := o_q.bs hn
    replace o_x1 := o_x1.bs hn
    replace b_t := b_t.bs hn
    clear hn
    refine AwC.back ?_
    refine AwC.only (by assumption) (i := 6) (by kernel_rfl) rfl ?_
    have zc := hC.size
    refine Lw.valW (Xw.append2 (base := w0.heap.size) st_25 it_29 rfl (by decide) rfl rfl o_q (own_sl o_k) (by rw [List.all_cons, List.all_cons, (own_sl o_x1).one', (own_sl o_u).one']; rfl) (by omega) (by omega) zc) rfl ?_
    rintro m w ⟨o_m, hn, hg, -⟩
    have hC := hC.trans hn
    have hTm : Tens w m (ts ++ [⟨x1, u, [1], [1#32]⟩]) := ⟨by have := own_sl o_m; rw [cellsOf_app, List.length_append]; exact this, fun t ht' => by
      rcases List.mem_append.1 ht' with ht' | ht'
      · exact ((ht.bs hC).2 t ht')
      · rw [List.mem_singleton.1 ht']
        exact ⟨own_slT (own_away o_x1 o_q (by decide) hg), own_slT (own_away o_u o_q (by decide) hg)⟩⟩
    try replace b_t := b_t.by hg (fun e => by have := n_q _ e.symm; omega)
    have zz := hg.size
    clear hn hg zc
    refine AwC.back ?_
    refine AwC.only (by assumption) (i := 7) (by kernel_rfl) rfl ?_
    refine Lw.callF rfl rfl (do_c a m _ w (ha.bs hC) hTm) ?_
    rintro _ w ⟨hn, hA⟩
    have hC := bt hC hn
    try replace b_t := b_t.bs hn
    have zz := hn.size
    have hs7 : E = 0 → doE a (ts ++ [⟨x1, u, [1], [1#32]⟩]) = 1 := fun e => doE_more a ts _ (hE.symm.trans e)
    obtain ⟨g7, hg7⟩ : ∃ g, g = doE a (ts ++ [⟨x1, u, [1], [1#32]⟩]) := ⟨_, rfl⟩
    rw [← hg7] at hs7 hA
    obtain ⟨f7, rfl, h_7, -, -⟩ := hA
    clear hn hTm
    refine AwC.back ?_
    refine AwC.take (i := 8) NoP.midS rfl (by kernel_rfl) (by kernel_rfl) (by kernel_rfl) (fun w1 hc => Ex.move rfl) rfl ?_
    refine AwC.take (i := 9) NoP.midS rfl (by kernel_rfl) (by kernel_rfl) (by kernel_rfl) (fun w1 hc => Ex.extract (i := 0) rfl rfl) rfl ?_
    refine AwC.take (i := 10) NoP.midS rfl (by kernel_rfl) (by kernel_rfl) (by kernel_rfl) (fun w1 hc => Ex.extract (i := 1) rfl rfl) rfl ?_
    refine AwC.only (by assumption) (i := 12) (by kernel_rfl) rfl ?_
    refine Lw.unit (Xu.stA (cs := [f7.x, f7.y]) (k := 2) (by kernel_rfl) rfl rfl rfl h_7.one b_t rfl) ?_
    rintro w' ⟨-, hg, hz⟩
    have hC' := hC.grown hg hC.size (by rintro _ e; have := Option.some.inj e; omega)
    refine AwC.back ?_
    refine AwC.take (i := 13) NoP.midS rfl (by kernel_rfl) (by kernel_rfl) (by kernel_rfl) (fun w1 hc => Ex.assign rfl) rfl ?_
    refine AwC.done (by assumption) (by kernel_rfl) ?_
    exact Pw.midS (g7) ⟨rfl, rfl, rfl, rfl, rfl, rfl, rfl, trivial⟩ (⟨hC', hs7⟩)
    have zc := hC.size
    refine Lw.newA it_29 rfl ?_
    rintro A_t w eA_t b_t hn -
    replace hC := hC.bs hn
    replace o_u := o_u.bs hn
    replace o_q := o_q.bs hn
    clear hn
    refine AwC.back ?_
    refine AwC.only (by assumption) (i := 4) (by kernel_rfl) rfl ?_
    have yt : w0.heap.size ≤ A_t := by omega
    have yb := blk_lt b_t
    clear zc
    refine Lw.callF rfl rfl (mofo_c u [1#32] w (own_slT o_u)) ?_
    rintro _ w ⟨hn, x1, B1, rfl, o_x1⟩
    have zz := hn.size
    replace hC := hC.bs hn
    replace o_u := o_u.bs hn
    replace o_q := o_q.bs hn
    replace b_t := b_t.bs hn
    clear hn
    refine AwC.back ?_
    refine AwC.only (by assumption) (i := 5) (by kernel_rfl) rfl ?_
    refine Lw.valW (Xw.litA1 (cs := [x1, u]) st_25 it_29 rfl rfl (by decide) (by decide)) rfl ?_
    rintro k w ⟨o_k, -, hn, -⟩
    have zz := hn.size
    replace hC := hC.bs hn
    replace o_u := o_u.bs hn
    replace o_q := o_q.bs hn
    replace b_t := b_t.bs hn
    replace o_x1 := o_x1.bs hn
    clear hn
    refine AwC.back ?_
    refine AwC.only (by assumption) (i := 6) (by kernel_rfl) rfl ?_
    have zc := hC.size
    refine Lw.valW (Xw.append2 (base := w0.heap.size) st_25 it_29 rfl (by decide) rfl rfl o_q (own_sl o_k) (by rw [List.all_cons, List.all_cons, (own_sl o_x1).one', (own_sl o_u).one']; rfl) (by omega) (by omega) zc) rfl ?_
    rintro m w ⟨o_m, hn, hg, -⟩
    have hC := hC.trans hn
    have hTm : Tens w m (ts ++ [⟨x1, u, [1], [1#32]⟩]) := ⟨by have := own_sl o_m; rw [cellsOf_app, List.length_append]; exact this, fun t ht' => by
      rcases List.mem_append.1 ht' with ht' | ht'
      · exact ((ht.bs hC).2 t ht')
      · rw [List.mem_singleton.1 ht']
        exact ⟨own_slT (own_away o_x1 o_q (by decide) hg), own_slT (own_away o_u o_q (by decide) hg)⟩⟩
    try replace b_t := b_t.by hg (fun e => by have := n_q _ e.symm; omega)
    have zz := hg.size
    clear hn hg zc
    refine AwC.back ?_
    refine AwC.only (by assumption) (i := 7) (by kernel_rfl) rfl ?_
    refine Lw.callF rfl rfl (do_c a m _ w (ha.bs hC) hTm) ?_
    rintro _ w ⟨hn, hA⟩
    have hC := bt hC hn
    try replace b_t := b_t.bs hn
    have zz := hn.size
    have hs7 : E = 0 → doE a (ts ++ [⟨x1, u, [1], [1#32]⟩]) = 1 := fun e => doE_more a ts _ (hE.symm.trans e)
    obtain ⟨g7, hg7⟩ : ∃ g, g = doE a (ts ++ [⟨x1, u, [1], [1#32]⟩]) := ⟨_, rfl⟩
    rw [← hg7] at hs7 hA
    obtain ⟨f7, rfl, h_7, -, -⟩ := hA
    clear hn hTm
    refine AwC.back ?_
    refine AwC.take (i := 8) NoP.midS rfl (by kernel_rfl) (by kernel_rfl) (by kernel_rfl) (fun w1 hc => Ex.move rfl) rfl ?_
    refine AwC.take (i := 9) NoP.midS rfl (by kernel_rfl) (by kernel_rfl) (by kernel_rfl) (fun w1 hc => Ex.extract (i := 0) rfl rfl) rfl ?_
    refine AwC.take (i := 10) NoP.midS rfl (by kernel_rfl) (by kernel_rfl) (by kernel_rfl) (fun w1 hc => Ex.extract (i := 1) rfl rfl) rfl ?_
    refine AwC.only (by assumption) (i := 12) (by kernel_rfl) rfl ?_
    refine Lw.unit (Xu.stA (cs := [f7.x, f7.y]) (k := 2) (by kernel_rfl) rfl rfl rfl h_7.one b_t rfl) ?_
    rintro w' ⟨-, hg, hz⟩
    have hC' := hC.grown hg hC.size (by rintro _ e; have := Option.some.inj e; omega)
    refine AwC.back ?_
    refine AwC.take (i := 13) NoP.midS rfl (by kernel_rfl) (by kernel_rfl) (by kernel_rfl) (fun w1 hc => Ex.assign rfl) rfl ?_
    refine AwC.done (by assumption) (by kernel_rfl) ?_
    exact Pw.midS (g7) ⟨rfl, rfl, rfl, rfl, rfl, rfl, rfl, trivial⟩ (⟨hC', hs7⟩)
    have zc := hC.size
    refine Lw.newA it_29 rfl ?_
    rintro A_t w eA_t b_t hn -
    replace hC := hC.bs hn
    replace o_u := o_u.bs hn
    clear hn
    refine AwC.back ?_
    refine AwC.only (by assumption) (i := 2) (by kernel_rfl) rfl ?_
    have yt : w0.heap.size ≤ A_t := by omega
    have yb := blk_lt b_t
    clear zc
    have zc := hC.size
    have s_v0 := (ht.bs hC).1
    refine Lw.valW (Xw.append2 (base := w0.heap.size) st_25 it_29 rfl (by decide) rfl rfl (World.ownsRow_nil _ _ _ _) s_v0 (tens_ones (ht.bs hC)) (by omega) (by omega) zc) rfl ?_
    rintro q w ⟨o_q, -, hg, hqv⟩
    rw [List.nil_append, Nat.zero_add] at o_q
    have n_q := fun b (e : q.ownBlock = some b) => And.intro (app_lo hqv e) (own_block o_q b e).2
    have hn := grown_below hg (Nat.le_refl _) fun _ e => by cases e
    have zz := hn.size
    replace hC := hC.bs hn
    replace o_u := o_u.bs hn
    replace b_t := b_t.bs hn
    clear hn hg zc s_v0 hqv
    refine AwC.back ?_
    refine AwC.only (by assumption) (i := 4) (by kernel_rfl) rfl ?_
    refine Lw.callF rfl rfl (mofo_c u [1#32] w (own_slT o_u)) ?_
    rintro _ w ⟨hn, x1, B1, rfl, o_x1⟩
    have zz := hn.size
    replace hC := hC.bs hn
    replace o_u := o_u.bs hn
    replace b_t := b_t.bs hn
    replace o_q := o_q.bs hn
    clear hn
    refine AwC.back ?_
    refine AwC.only (by assumption) (i := 5) (by kernel_rfl) rfl ?_
    refine Lw.valW (Xw.litA1 (cs := [x1, u]) st_25 it_29 rfl rfl (by decide) (by decide)) rfl ?_
    rintro k w ⟨o_k, -, hn, -⟩
    have zz := hn.size
    replace hC := hC.bs hn
    replace o_u := o_u.bs hn
    replace b_t := b_t.bs hn
    replace o_q := o_q.bs hn
    replace o_x1 := o_x1.bs hn
    clear hn
    refine AwC.back ?_
    refine AwC.only (by assumption) (i := 6) (by kernel_rfl) rfl ?_
    have zc := hC.size
    refine Lw.valW (Xw.append2 (base := w0.heap.size) st_25 it_29 rfl (by decide) rfl rfl o_q (own_sl o_k) (by rw [List.all_cons, List.all_cons, (own_sl o_x1).one', (own_sl o_u).one']; rfl) (by omega) (by omega) zc) rfl ?_
    rintro m w ⟨o_m, hn, hg, -⟩
    have hC := hC.trans hn
    have hTm : Tens w m (ts ++ [⟨x1, u, [1], [1#32]⟩]) := ⟨by have := own_sl o_m; rw [cellsOf_app, List.length_append]; exact this, fun t ht' => by
      rcases List.mem_append.1 ht' with ht' | ht'
      · exact ((ht.bs hC).2 t ht')
      · rw [List.mem_singleton.1 ht']
        exact ⟨own_slT (own_away o_x1 o_q (by decide) hg), own_slT (own_away o_u o_q (by decide) hg)⟩⟩
    try replace b_t := b_t.by hg (fun e => by have := n_q _ e.symm; omega)
    have zz := hg.size
    clear hn hg zc
    refine AwC.back ?_
    refine AwC.only (by assumption) (i := 7) (by kernel_rfl) rfl ?_
    refine Lw.callF rfl rfl (do_c a m _ w (ha.bs hC) hTm) ?_
    rintro _ w ⟨hn, hA⟩
    have hC := bt hC hn
    try replace b_t := b_t.bs hn
    have zz := hn.size
    have hs7 : E = 0 → doE a (ts ++ [⟨x1, u, [1], [1#32]⟩]) = 1 := fun e => doE_more a ts _ (hE.symm.trans e)
    obtain ⟨g7, hg7⟩ : ∃ g, g = doE a (ts ++ [⟨x1, u, [1], [1#32]⟩]) := ⟨_, rfl⟩
    rw [← hg7] at hs7 hA
    obtain ⟨f7, rfl, h_7, -, -⟩ := hA
    clear hn hTm
    refine AwC.back ?_
    refine AwC.take (i := 8) NoP.midS rfl (by kernel_rfl) (by kernel_rfl) (by kernel_rfl) (fun w1 hc => Ex.move rfl) rfl ?_
    refine AwC.take (i := 9) NoP.midS rfl (by kernel_rfl) (by kernel_rfl) (by kernel_rfl) (fun w1 hc => Ex.extract (i := 0) rfl rfl) rfl ?_
    refine AwC.take (i := 10) NoP.midS rfl (by kernel_rfl) (by kernel_rfl) (by kernel_rfl) (fun w1 hc => Ex.extract (i := 1) rfl rfl) rfl ?_
    refine AwC.only (by assumption) (i := 12) (by kernel_rfl) rfl ?_
    refine Lw.unit (Xu.stA (cs := [f7.x, f7.y]) (k := 2) (by kernel_rfl) rfl rfl rfl h_7.one b_t rfl) ?_
    rintro w' ⟨-, hg, hz⟩
    have hC' := hC.grown hg hC.size (by rintro _ e; have := Option.some.inj e; omega)
    refine AwC.back ?_
    refine AwC.take (i := 13) NoP.midS rfl (by kernel_rfl) (by kernel_rfl) (by kernel_rfl) (fun w1 hc => Ex.assign rfl) rfl ?_
    refine AwC.done (by assumption) (by kernel_rfl) ?_
    exact Pw.midS (g7) ⟨rfl, rfl, rfl, rfl, rfl, rfl, rfl, trivial⟩ (⟨hC', hs7⟩)
    have zc := hC.size
    refine Lw.newA it_29 rfl ?_
    rintro A_t w eA_t b_t hn -
    replace hC := hC.bs hn
    clear hn
    refine AwC.back ?_
    have yt : w0.heap.size ≤ A_t := by omega
    have yb := blk_lt b_t
    clear zc
    refine AwC.two (by assumption) (i := 2) (j := 3) (by kernel_rfl) rfl rfl ?_ ?_
    have zc := hC.size
    have s_v0 := (ht.bs hC).1
    refine Lw.valW (Xw.append2 (base := w0.heap.size) st_25 it_29 rfl (by decide) rfl rfl (World.ownsRow_nil _ _ _ _) s_v0 (tens_ones (ht.bs hC)) (by omega) (by omega) zc) rfl ?_
    rintro q w ⟨o_q, -, hg, hqv⟩
    rw [List.nil_append, Nat.zero_add] at o_q
    have n_q := fun b (e : q.ownBlock = some b) => And.intro (app_lo hqv e) (own_block o_q b e).2
    have hn := grown_below hg (Nat.le_refl _) fun _ e => by cases e
    have zz := hn.size
    replace hC := hC.bs hn
    replace b_t := b_t.bs hn
    clear hn hg zc s_v0 hqv
    refine AwC.back ?_
    refine AwC.only (by assumption) (i := 3) (by kernel_rfl) rfl ?_
    refine Lw.valW (Xw.lit (vs := ([1#32] : List (BitVec 32)).map i32) st_27 it_21 rfl (by kernel_rfl) rfl rfl rfl) rfl ?_
    rintro u w ⟨o_u, -, hn, -⟩
    have zz := hn.size
    replace hC := hC.bs hn
    replace b_t := b_t.bs hn
    replace o_q := o_q.bs hn
    clear hn
    refine AwC.back ?_
    refine AwC.only (by assumption) (i := 4) (by kernel_rfl) rfl ?_
    refine Lw.callF rfl rfl (mofo_c u [1#32] w (own_slT o_u)) ?_
    rintro _ w ⟨hn, x1, B1, rfl, o_x1⟩
    have zz := hn.size
    replace hC := hC.bs hn
    replace b_t := b_t.bs hn
    replace o_q := o_q.bs hn
    replace o_u := o_u.bs hn
    clear hn
    refine AwC.back ?_
    refine AwC.only (by assumption) (i := 5) (by kernel_rfl) rfl ?_
    refine Lw.valW (Xw.litA1 (cs := [x1, u]) st_25 it_29 rfl rfl (by decide) (by decide)) rfl ?_
    rintro k w ⟨o_k, -, hn, -⟩
    have zz := hn.size
    replace hC := hC.bs hn
    replace b_t := b_t.bs hn
    replace o_q := o_q.bs hn
    replace o_u := o_u.bs hn
    replace o_x1 := o_x1.bs hn
    clear hn
    refine AwC.back ?_
    refine AwC.only (by assumption) (i := 6) (by kernel_rfl) rfl ?_
    have zc := hC.size
    refine Lw.valW (Xw.append2 (base := w0.heap.size) st_25 it_29 rfl (by decide) rfl rfl o_q (own_sl o_k) (by rw [List.all_cons, List.all_cons, (own_sl o_x1).one', (own_sl o_u).one']; rfl) (by omega) (by omega) zc) rfl ?_
    rintro m w ⟨o_m, hn, hg, -⟩
    have hC := hC.trans hn
    have hTm : Tens w m (ts ++ [⟨x1, u, [1], [1#32]⟩]) := ⟨by have := own_sl o_m; rw [cellsOf_app, List.length_append]; exact this, fun t ht' => by
      rcases List.mem_append.1 ht' with ht' | ht'
      · exact ((ht.bs hC).2 t ht')
      · rw [List.mem_singleton.1 ht']
        exact ⟨own_slT (own_away o_x1 o_q (by decide) hg), own_slT (own_away o_u o_q (by decide) hg)⟩⟩
    try replace b_t := b_t.by hg (fun e => by have := n_q _ e.symm; omega)
    have zz := hg.size
    clear hn hg zc
    refine AwC.back ?_
    refine AwC.only (by assumption) (i := 7) (by kernel_rfl) rfl ?_
    refine Lw.callF rfl rfl (do_c a m _ w (ha.bs hC) hTm) ?_
    rintro _ w ⟨hn, hA⟩
    have hC := bt hC hn
    try replace b_t := b_t.bs hn
    have zz := hn.size
    have hs7 : E = 0 → doE a (ts ++ [⟨x1, u, [1], [1#32]⟩]) = 1 := fun e => doE_more a ts _ (hE.symm.trans e)
    obtain ⟨g7, hg7⟩ : ∃ g, g = doE a (ts ++ [⟨x1, u, [1], [1#32]⟩]) := ⟨_, rfl⟩
    rw [← hg7] at hs7 hA
    obtain ⟨f7, rfl, h_7, -, -⟩ := hA
    clear hn hTm
    refine AwC.back ?_
    refine AwC.take (i := 8) NoP.midS rfl (by kernel_rfl) (by kernel_rfl) (by kernel_rfl) (fun w1 hc => Ex.move rfl) rfl ?_
    refine AwC.take (i := 9) NoP.midS rfl (by kernel_rfl) (by kernel_rfl) (by kernel_rfl) (fun w1 hc => Ex.extract (i := 0) rfl rfl) rfl ?_
    refine AwC.take (i := 10) NoP.midS rfl (by kernel_rfl) (by kernel_rfl) (by kernel_rfl) (fun w1 hc => Ex.extract (i := 1) rfl rfl) rfl ?_
    refine AwC.only (by assumption) (i := 12) (by kernel_rfl) rfl ?_
    refine Lw.unit (Xu.stA (cs := [f7.x, f7.y]) (k := 2) (by kernel_rfl) rfl rfl rfl h_7.one b_t rfl) ?_
    rintro w' ⟨-, hg, hz⟩
    have hC' := hC.grown hg hC.size (by rintro _ e; have := Option.some.inj e; omega)
    refine AwC.back ?_
    refine AwC.take (i := 13) NoP.midS rfl (by kernel_rfl) (by kernel_rfl) (by kernel_rfl) (fun w1 hc => Ex.assign rfl) rfl ?_
    refine AwC.done (by assumption) (by kernel_rfl) ?_
    exact Pw.midS (g7) ⟨rfl, rfl, rfl, rfl, rfl, rfl, rfl, trivial⟩ (⟨hC', hs7⟩)
    refine Lw.valW (Xw.lit (vs := ([1#32] : List (BitVec 32)).map i32) st_27 it_21 rfl (by kernel_rfl) rfl rfl rfl) rfl ?_
    rintro u w ⟨o_u, -, hn, -⟩
    have zz := hn.size
    replace hC := hC.bs hn
    replace b_t := b_t.bs hn
    clear hn
    refine AwC.back ?_
    refine AwC.only (by assumption) (i := 2) (by kernel_rfl) rfl ?_
    have zc := hC.size
    have s_v0 := (ht.bs hC).1
    refine Lw.valW (Xw.append2 (base := w0.heap.size) st_25 it_29 rfl (by decide) rfl rfl (World.ownsRow_nil _ _ _ _) s_v0 (tens_ones (ht.bs hC)) (by omega) (by omega) zc) rfl ?_
    rintro q w ⟨o_q, -, hg, hqv⟩
    rw [List.nil_append, Nat.zero_add] at o_q
    have n_q := fun b (e : q.ownBlock = some b) => And.intro (app_lo hqv e) (own_block o_q b e).2
    have hn := grown_below hg (Nat.le_refl _) fun _ e => by cases e
    have zz := hn.size
    replace hC := hC.bs hn
    replace b_t := b_t.bs hn
    replace o_u := o_u.bs hn
    clear hn hg zc s_v0 hqv
    refine AwC.back ?_
    refine AwC.only (by assumption) (i := 4) (by kernel_rfl) rfl ?_
    refine Lw.callF rfl rfl (mofo_c u [1#32] w (own_slT o_u)) ?_
    rintro _ w ⟨hn, x1, B1, rfl, o_x1⟩
    have zz := hn.size
    replace hC := hC.bs hn
    replace b_t := b_t.bs hn
    replace o_u := o_u.bs hn
    replace o_q := o_q.bs hn
    clear hn
    refine AwC.back ?_
    refine AwC.only (by assumption) (i := 5) (by kernel_rfl) rfl ?_
    refine Lw.valW (Xw.litA1 (cs := [x1, u]) st_25 it_29 rfl rfl (by decide) (by decide)) rfl ?_
    rintro k w ⟨o_k, -, hn, -⟩
    have zz := hn.size
    replace hC := hC.bs hn
    replace b_t := b_t.bs hn
    replace o_u := o_u.bs hn
    replace o_q := o_q.bs hn
    replace o_x1 := o_x1.bs hn
    clear hn
    refine AwC.back ?_
    refine AwC.only (by assumption) (i := 6) (by kernel_rfl) rfl ?_
    have zc := hC.size
    refine Lw.valW (Xw.append2 (base := w0.heap.size) st_25 it_29 rfl (by decide) rfl rfl o_q (own_sl o_k) (by rw [List.all_cons, List.all_cons, (own_sl o_x1).one', (own_sl o_u).one']; rfl) (by omega) (by omega) zc) rfl ?_
    rintro m w ⟨o_m, hn, hg, -⟩
    have hC := hC.trans hn
    have hTm : Tens w m (ts ++ [⟨x1, u, [1], [1#32]⟩]) := ⟨by have := own_sl o_m; rw [cellsOf_app, List.length_append]; exact this, fun t ht' => by
      rcases List.mem_append.1 ht' with ht' | ht'
      · exact ((ht.bs hC).2 t ht')
      · rw [List.mem_singleton.1 ht']
        exact ⟨own_slT (own_away o_x1 o_q (by decide) hg), own_slT (own_away o_u o_q (by decide) hg)⟩⟩
    try replace b_t := b_t.by hg (fun e => by have := n_q _ e.symm; omega)
    have zz := hg.size
    clear hn hg zc
    refine AwC.back ?_
    refine AwC.only (by assumption) (i := 7) (by kernel_rfl) rfl ?_
    refine Lw.callF rfl rfl (do_c a m _ w (ha.bs hC) hTm) ?_
    rintro _ w ⟨hn, hA⟩
    have hC := bt hC hn
    try replace b_t := b_t.bs hn
    have zz := hn.size
    have hs7 : E = 0 → doE a (ts ++ [⟨x1, u, [1], [1#32]⟩]) = 1 := fun e => doE_more a ts _ (hE.symm.trans e)
    obtain ⟨g7, hg7⟩ : ∃ g, g = doE a (ts ++ [⟨x1, u, [1], [1#32]⟩]) := ⟨_, rfl⟩
    rw [← hg7] at hs7 hA
    obtain ⟨f7, rfl, h_7, -, -⟩ := hA
    clear hn hTm
    refine AwC.back ?_
    refine AwC.take (i := 8) NoP.midS rfl (by kernel_rfl) (by kernel_rfl) (by kernel_rfl) (fun w1 hc => Ex.move rfl) rfl ?_
    refine AwC.take (i := 9) NoP.midS rfl (by kernel_rfl) (by kernel_rfl) (by kernel_rfl) (fun w1 hc => Ex.extract (i := 0) rfl rfl) rfl ?_
    refine AwC.take (i := 10) NoP.midS rfl (by kernel_rfl) (by kernel_rfl) (by kernel_rfl) (fun w1 hc => Ex.extract (i := 1) rfl rfl) rfl ?_
    refine AwC.only (by assumption) (i := 12) (by kernel_rfl) rfl ?_
    refine Lw.unit (Xu.stA (cs := [f7.x, f7.y]) (k := 2) (by kernel_rfl) rfl rfl rfl h_7.one b_t rfl) ?_
    rintro w' ⟨-, hg, hz⟩
    have hC' := hC.grown hg hC.size (by rintro _ e; have := Option.some.inj e; omega)
    refine AwC.back ?_
    refine AwC.take (i := 13) NoP.midS rfl (by kernel_rfl) (by kernel_rfl) (by kernel_rfl) (fun w1 hc => Ex.assign rfl) rfl ?_
    refine AwC.done (by assumption) (by kernel_rfl) ?_
    exact Pw.midS (g7) ⟨rfl, rfl, rfl, rfl, rfl, rfl, rfl, trivial⟩ (⟨hC', hs7⟩)
  rintro s wu ⟨hC, hs⟩
  replace hs : E = 0 → s = 1 := hs
  replace hB := hB.bs hC
  replace ha := ha.bs hC
  replace ht := ht.bs hC
  replace b_n := b_n.bs hC
  replace b_z := b_z.bs hC
  replace h_c := h_c.bs hC
  replace b_c := b_c.bs hC
  replace h_d := h_d.bs hC
  replace b_d := b_d.bs hC
  clear hC
  refine Cw.seq ?_
  refine Cw.region ?_
  refine Lw.val (Ex.ldA (ag_45 _) (sz_45 _) rfl rfl (by assumption)) rfl ?_
  refine Lw.callF rfl rfl (twinNode_c a wu ha (by omega) (by omega)) ?_
  rintro _ w1 ⟨hX, x2, y2, rfl, hT⟩
  refine Lw.boxed (cs := (N5.mk a.k x2 y2 a.i a.s a.n a.p).cells) it_45 rfl rfl rfl rfl (fun _ => rfl) ((hT.at a.k a.n a.p).ones) ?_
  rintro A_y w2 eA_y b_y hn2 zhn2
  have zX := hX.size
  have lo : wu.heap.size ≤ A_y := by omega
  replace hX := bt hX hn2
  replace hT := hT.bs hn2
  clear hn2
  refine Lw.nil ?_
  refine Pw.thenN (Cw.out ?_)
  refine Cw.seq ?_
  refine Cw.region ?_
  refine Lw.val (Ex.fieldAddr (q := 0) Tryz.underlying45 rfl (sz_3 _) rfl) rfl ?_
  refine Lw.val (Ex.ldB (ag_3 _) rfl (by assumption) rfl) rfl ?_
  refine Lw.val (Ex.add rfl rfl) rfl ?_
  refine Lw.val (Ex.fieldAddr (q := 0) Tryz.underlying45 rfl (sz_3 _) rfl) rfl ?_
  refine Lw.unit (Xu.stB (u := .int .i64 (IntKind.i64.wrap (a.p + 9))) (sz_3 _) rfl rfl rfl b_y (show 4 < 5 by decide)) ?_
  rintro w3 ⟨b_y3, hg, -⟩
  replace b_y3 : Blk w3 A_y nodeT (N5.mk a.k x2 y2 a.i a.s a.n (IntKind.i64.wrap (a.p + 9))).cells := b_y3
  replace hX := hX.grown hg hX.size (fun b e => by cases e; exact lo)
  replace hT := hT.by hg (by omega)
  clear hg
  refine Lw.nil ?_
  refine Pw.thenN (Cw.out ?_)
  refine Cw.seq ?_
  refine Cw.region ?_
  refine Lw.val (Ex.ldA (ag_45 _) (sz_45 _) rfl rfl (by assumption)) rfl ?_
  refine Lw.val (Ex.move rfl) rfl ?_
  refine Lw.callF rfl rfl (do_c _ v ts w3 (hT.at a.k a.n (IntKind.i64.wrap (a.p + 9))) (ht.bs hX)) ?_
  rintro _ w4 ⟨hn, hA⟩
  have hH : E = 0 → doE ⟨a.k, x2, y2, a.i, a.s, a.n, IntKind.i64.wrap (a.p + 9)⟩ ts = 1 := fun e => doE_pad a _ ts (hE.symm.trans e) rfl
  obtain ⟨H, hH2⟩ : ∃ H, H = doE ⟨a.k, x2, y2, a.i, a.s, a.n, IntKind.i64.wrap (a.p + 9)⟩ ts := ⟨_, rfl⟩
  rw [← hH2] at hA hH
  obtain ⟨e, rfl, h_e, -, -⟩ := hA
  replace hX := bt hX hn
  have b_y4 := b_y3.bs hn
  replace hT := hT.bs hn
  clear hn b_y3
  refine Lw.val (Ex.move rfl) rfl ?_
  refine Lw.val (Ex.extract (i := 0) rfl rfl) rfl ?_
  refine Lw.val (Ex.extract (i := 1) rfl rfl) rfl ?_
  refine Lw.boxed (cs := [e.x, e.y]) it_29 rfl rfl rfl rfl (fun _ => rfl) (h_e.one) ?_
  rintro A_e w5 eA_e b_e hn zhn
  replace hX := bt hX hn
  have b_y5 := b_y4.bs hn
  replace hT := hT.bs hn
  have b_n5 := b_n.bs hX
  clear hn b_y4 b_e h_e
  refine Lw.val (Ex.assign rfl) rfl ?_
  refine Lw.nil ?_
  refine Pw.thenN (Cw.out ?_)
  refine Cw.seq ?_
  refine Cw.region ?_
  refine Lw.val (Ex.fieldAddr (q := 0) Tryz.underlying45 rfl (sz_3 _) rfl) rfl ?_
  refine Lw.val (Ex.ldB (ag_3 _) rfl (by assumption) rfl) rfl ?_
  refine Lw.val (Ex.fieldAddr (q := 0) Tryz.underlying45 rfl (sz_3 _) rfl) rfl ?_
  refine Lw.unit (Xu.stB (u := .int .i64 a.p) (sz_3 _) rfl rfl rfl b_y5 (show 4 < 5 by decide)) ?_
  rintro w6 ⟨b_y6, hg, -⟩
  replace b_y6 : Blk w6 A_y nodeT (N5.mk a.k x2 y2 a.i a.s a.n a.p).cells := b_y6
  replace hX := hX.grown hg hX.size (fun b e => by cases e; exact lo)
  replace hT := hT.by hg (by omega)
  clear hg b_y5
  refine Lw.nil ?_
  refine Pw.thenN (Cw.out ?_)
  refine Cw.seq ?_
  refine Cw.region ?_
  refine Lw.val (Ex.fieldAddr (q := 0) Tryz.underlying45 rfl (sz_43 _) rfl) rfl ?_
  refine Lw.unit (Xu.stB (u := b8 0#8) (sz_43 _) rfl rfl rfl b_y6 (show 0 < 5 by decide)) ?_
  rintro w7 ⟨b_y7, hg, -⟩
  replace b_y7 : Blk w7 A_y nodeT (N5.mk 0#8 x2 y2 a.i a.s a.n a.p).cells := b_y7
  replace hX := hX.grown hg hX.size (fun b e => by cases e; exact lo)
  replace hT := hT.by hg (by omega)
  clear hg b_y6
  refine Lw.nil ?_
  refine Pw.thenN (Cw.out ?_)
  refine Cw.seq ?_
  refine Cw.region ?_
  refine Lw.val (Ex.ldA (ag_45 _) (sz_45 _) rfl rfl (by assumption)) rfl ?_
  refine Lw.val (Ex.move rfl) rfl ?_
  refine Lw.callF rfl rfl (do_c _ v ts w7 (hT.at 0#8 a.n a.p) (ht.bs hX)) ?_
  rintro _ w8 ⟨hn, hA⟩
  rw [doE_none _ ts rfl] at hA
  obtain ⟨f, rfl, h_f, -, -⟩ := hA
  replace hX := bt hX hn
  clear hn b_y7 hT
  replace hB := hB.bs hX
  replace ha := ha.bs hX
  replace ht := ht.bs hX
  replace b_n := b_n.bs hX
  replace b_z := b_z.bs hX
  replace h_c := h_c.bs hX
  replace b_c := b_c.bs hX
  replace h_d := h_d.bs hX
  replace b_d := b_d.bs hX
  clear hX
  refine Lw.val (Ex.move rfl) rfl ?_
  refine Lw.val (Ex.extract (i := 0) rfl rfl) rfl ?_
  refine Lw.val (Ex.extract (i := 1) rfl rfl) rfl ?_
  refine Lw.boxed (cs := [f.x, f.y]) it_29 rfl rfl rfl rfl (fun _ => rfl) (h_f.one) ?_
  rintro A_f w eA_f b_f hn -
  replace hB := hB.bs hn
  replace ha := ha.bs hn
  replace ht := ht.bs hn
  replace b_n := b_n.bs hn
  replace b_z := b_z.bs hn
  replace h_c := h_c.bs hn
  replace b_c := b_c.bs hn
  replace h_d := h_d.bs hn
  replace b_d := b_d.bs hn
  clear hn
  refine Lw.val (Ex.assign rfl) rfl ?_
  refine Lw.nil ?_
  refine Pw.thenN (Cw.out ?_)
  refine Cw.seq ?_
  refine Cw.seq ?_
  refine Cw.region ?_
  refine Lw.val (Ex.move rfl) rfl ?_
  refine Lw.val (Ex.eql rfl rfl) rfl ?_
  refine Lw.val (Ex.move rfl) rfl ?_
  refine Lw.part 99 rfl ?_ ?_
  · intro g5
    have e0 : E = 0 := of_decide_eq_true g5
    have hs1 := hs e0
    have hH1 := hH e0
    refine Lw.take (dj := 99) rfl rfl ?_
    refine Lw.val (Ex.move rfl) rfl ?_
    refine Lw.take (dj := 99) rfl rfl ?_
    refine Lw.val (Ex.neq rfl rfl) rfl ?_
    refine Lw.take (dj := 99) rfl rfl ?_
    refine Lw.val (Ex.move rfl) rfl ?_
    refine Lw.know 102 (v' := .bool false) rfl (congrArg Value.bool ((by rw [hs1]; rfl))) ?_
    refine Lw.take (dj := 102) rfl rfl ?_
    refine Lw.val (Ex.move rfl) rfl ?_
    refine Lw.take (dj := 102) rfl rfl ?_
    refine Lw.val (Ex.neq rfl rfl) rfl ?_
    refine Lw.take (dj := 99) rfl rfl ?_
    refine Lw.val (Ex.pickF rfl rfl) rfl ?_
    refine Lw.val (Ex.pickT rfl rfl) rfl ?_
    refine Lw.nil ?_
    refine Pw.thenN (Cw.out ?_)
    refine Cw.condB rfl false ((by rw [hH1]; rfl)) ?_
    refine Cw.skip ?_
    refine Pw.thenN (Cw.out ?_)
    refine Cw.seq ?_
    refine Cw.region ?_
    refine Lw.val (Ex.move rfl) rfl ?_
    refine Lw.val (Ex.move rfl) rfl ?_
    refine Lw.val (Ex.eql rfl rfl) rfl ?_
    refine Lw.val (Ex.move rfl) rfl ?_
    have hsm : (decide (c.s = d.s) && decide (c.l = d.l)) = true := by
      by_cases e0 : E = 0
      · rw [(c1 e0).1, (c1 e0).2, (d1 e0).1, (d1 e0).2]; simp
      · rw [(c0 e0).1, (c0 e0).2, (d0 e0).1, (d0 e0).2]; simp
    refine Lw.know 110 (v' := .bool true) rfl (congrArg Value.bool ((decide_eq_true rfl))) ?_
    refine Lw.take (dj := 110) rfl rfl ?_
    refine Lw.val (Ex.ldA (ag_29 _) (sz_29 _) rfl rfl (by assumption)) rfl ?_
    refine Lw.take (dj := 110) rfl rfl ?_
    refine Lw.val (Ex.ldA (ag_29 _) (sz_29 _) rfl rfl (by assumption)) rfl ?_
    refine Lw.take (dj := 110) rfl rfl ?_
    refine Lw.callF rfl rfl (same_c c.x c.y d.x d.y c.s d.s c.l d.l _ h_c.1 h_c.2 h_d.1 h_d.2) ?_
    rintro _ w ⟨rfl, hn⟩
    replace hB := hB.bs hn
    replace ha := ha.bs hn
    replace ht := ht.bs hn
    replace b_n := b_n.bs hn
    replace b_z := b_z.bs hn
    replace h_c := h_c.bs hn
    replace b_c := b_c.bs hn
    replace h_d := h_d.bs hn
    replace b_d := b_d.bs hn
    replace b_f := b_f.bs hn
    clear hn
    refine Lw.val (Ex.pickT rfl rfl) rfl ?_
    refine Lw.val (Ex.move rfl) rfl ?_
    refine Lw.know 115 (v' := .bool true) rfl (congrArg Value.bool (hsm)) ?_
    refine Lw.take (dj := 115) rfl rfl ?_
    refine Lw.val (Ex.move rfl) rfl ?_
    refine Lw.take (dj := 115) rfl rfl ?_
    refine Lw.val (Ex.eql rfl rfl) rfl ?_
    refine Lw.val (Ex.pickT rfl rfl) rfl ?_
    refine Lw.val (Ex.assign rfl) rfl ?_
    refine Lw.nil ?_
    refine Pw.thenN (Cw.out ?_)
    refine Cw.ret ?_
    refine Pw.ret1 rfl rfl ?_
    exact ⟨rfl, hB⟩
  intro g5
  refine Lw.pass (dj := 99) rfl rfl rfl rfl ?_
  refine Lw.pass (dj := 99) rfl rfl rfl rfl ?_
  refine Lw.pass (dj := 99) rfl rfl rfl rfl ?_
  refine Lw.passN (dj := 102) rfl rfl rfl ?_
  refine Lw.passN (dj := 102) rfl rfl rfl ?_
  refine Lw.pass (dj := 99) rfl rfl rfl rfl ?_
  refine Lw.val (Ex.pickF rfl rfl) rfl ?_
  refine Lw.nil ?_
  refine Pw.thenN (Cw.out ?_)
  refine Cw.condF rfl ?_
  refine Cw.skip ?_
  refine Pw.thenN (Cw.out ?_)
  refine Cw.seq ?_
  refine Cw.region ?_
  refine Lw.val (Ex.move rfl) rfl ?_
  refine Lw.val (Ex.move rfl) rfl ?_
  refine Lw.val (Ex.eql rfl rfl) rfl ?_
  refine Lw.val (Ex.move rfl) rfl ?_
  have hsm : (decide (c.s = d.s) && decide (c.l = d.l)) = true := by
    by_cases e0 : E = 0
    · rw [(c1 e0).1, (c1 e0).2, (d1 e0).1, (d1 e0).2]; simp
    · rw [(c0 e0).1, (c0 e0).2, (d0 e0).1, (d0 e0).2]; simp
  refine Lw.know 110 (v' := .bool true) rfl (congrArg Value.bool ((decide_eq_true rfl))) ?_
  refine Lw.take (dj := 110) rfl rfl ?_
  refine Lw.val (Ex.ldA (ag_29 _) (sz_29 _) rfl rfl (by assumption)) rfl ?_
  refine Lw.take (dj := 110) rfl rfl ?_
  refine Lw.val (Ex.ldA (ag_29 _) (sz_29 _) rfl rfl (by assumption)) rfl ?_
  refine Lw.take (dj := 110) rfl rfl ?_
  refine Lw.callF rfl rfl (same_c c.x c.y d.x d.y c.s d.s c.l d.l _ h_c.1 h_c.2 h_d.1 h_d.2) ?_
  rintro _ w ⟨rfl, hn⟩
  replace hB := hB.bs hn
  replace ha := ha.bs hn
  replace ht := ht.bs hn
  replace b_n := b_n.bs hn
  replace b_z := b_z.bs hn
  replace h_c := h_c.bs hn
  replace b_c := b_c.bs hn
  replace h_d := h_d.bs hn
  replace b_d := b_d.bs hn
  replace b_f := b_f.bs hn
  clear hn
  refine Lw.val (Ex.pickT rfl rfl) rfl ?_
  refine Lw.val (Ex.move rfl) rfl ?_
  refine Lw.know 115 (v' := .bool true) rfl (congrArg Value.bool (hsm)) ?_
  refine Lw.take (dj := 115) rfl rfl ?_
  refine Lw.val (Ex.move rfl) rfl ?_
  refine Lw.take (dj := 115) rfl rfl ?_
  refine Lw.val (Ex.eql rfl rfl) rfl ?_
  refine Lw.val (Ex.pickT rfl rfl) rfl ?_
  refine Lw.val (Ex.assign rfl) rfl ?_
  refine Lw.nil ?_
  refine Pw.thenN (Cw.out ?_)
  refine Cw.ret ?_
  refine Pw.ret1 rfl rfl ?_
  exact ⟨rfl, hB⟩
set_option maxRecDepth 100000 in
set_option maxHeartbeats 2000000 in
theorem meansFields_lifted (os : Os) (started : os.Started) (H : Type) (enc : TypeId × Value → H) :
    ReturnsInHanded {} Tryz.checked os 6 .any (Rows.meansFieldsSpec.pre6 enc Tryz.prog Tryz.f6 Rows.meansFieldsRow.domain false) (Rows.meansFieldsSpec.post enc Tryz.prog Tryz.f6 false true false false) := by
  refine returnsInHanded_of_change_sized (C := Tryz.checked) own started (by kernel_rfl) Tryz.func6
    (ChangeSpec.witness6 (enc := enc) (C := Tryz.checked) false ⟨#[], #[.agg #[.int .u8 0, .slice none 0 0, .slice none 0 0, .int .i64 0, .int .i64 0], .slice none 0 0, .agg #[.int .u8 0, .int .i64 0]], []⟩ 8 (by kernel_rfl) (by kernel_rfl) (by kernel_rfl) (by kernel_rfl)) ?_
  intro W base args ds gs before hval0 hW hcnd hsz0 _
  have hval : ∀ (j : Nat) t v, Tryz.f6.params[j]? = some t → args[j]? = some v → Value.okWide Tryz.prog W .any base t v := hval0
  have hW' := hW
  obtain ⟨p, q, hA0, hV, rfl, hfz, hnd⟩ := hW
  have hA : DataW.TrodAll enc Tryz.prog W 0 (fun _ => true) true Tryz.f6.params.toList args.toList ds p := hA0
  have hsz : (DataW.weightsEach Tryz.prog (Tryz.f6.params.toList ++ Rows.meansFieldsSpec.plain.varTypes Tryz.prog) (ds ++ gs)).all (· ≤ reachBytes) = true := hsz0
  rw [Tryz.params6] at hA hval hsz
  obtain ⟨v0, vs0, d0, ds0, p0, q0, hargs, rfl, rfl, h0, r0⟩ := trodAll_cons hA
  obtain ⟨v1, vs1, d1, ds1, p1, q1, rfl, rfl, rfl, h1, r1⟩ := trodAll_cons r0
  obtain ⟨v2, vs2, d2, ds2, p2, q2, rfl, rfl, rfl, h2, r2⟩ := trodAll_cons r1
  obtain ⟨rfl, rfl, rfl⟩ := trodAll_nil r2
  obtain rfl : args = #[v0, v1, v2] := by cases args; simp_all
  obtain ⟨rfl, rfl⟩ := trodVars_none hV
  have k0 := h0
  have lt0 : ∀ x ∈ p0, x.block < W.heap.size := by obtain ⟨m, hm⟩ := k0; exact DataW.trod_lt m _ _ _ hm
  have i0 := in_of (j := 0) (t := 45) hsz rfl rfl h0
  have o0 := hval 0 45 v0 rfl rfl
  have k1 := h1
  have lt1 : ∀ x ∈ p1, x.block < W.heap.size := by obtain ⟨m, hm⟩ := k1; exact DataW.trod_lt m _ _ _ hm
  have i1 := in_of (j := 1) (t := 25) hsz rfl rfl h1
  have o1 := hval 1 25 v1 rfl rfl
  have k2 := h2
  have lt2 : ∀ x ∈ p2, x.block < W.heap.size := by obtain ⟨m, hm⟩ := k2; exact DataW.trod_lt m _ _ _ hm
  have i2 := in_of (j := 2) (t := 57) hsz rfl rfl h2
  have o2 := hval 2 57 v2 rfl rfl
  clear hA0 hval0 hsz0 hsz
  obtain ⟨a, rfl, ha, fa⟩ := arg_node o0 i0
  obtain ⟨ts, ht, lt, ft⟩ := arg_tens o1 i1
  obtain ⟨z, bw, rfl⟩ := arg_field o2 i2
  refine (law_calls (meansFields_w a v1 ts z bw W ha fa ht lt ft)).mono fun e W' ⟨he, bel⟩ => ?_
  subst he
  exact ⟨_, rfl, _, _, _, [], _, [], hW', trodAll_mk1 (shut_bool un_4 _), (trodAll_cons_mk (Below.trod laidOut (by kernel_rfl) (of_decide_eq_true (by kernel_rfl)) k0 bel lt0) (trodAll_cons_mk (Below.trod laidOut (by kernel_rfl) (of_decide_eq_true (by kernel_rfl)) k1 bel lt1) (trodAll_cons_mk (Below.trod laidOut (by kernel_rfl) (of_decide_eq_true (by kernel_rfl)) k2 bel lt2) trodAll_mk0))), rfl, bel.frame _, fun h => by cases h⟩

/-- The statement. -/
theorem meansFields_proved : Rows.MeansFieldsSaid :=
  OpenClaim.holds_of_wide 6 Tryz.f6 rfl rfl rfl rfl rfl rfl rfl ⟨rfl, rfl, rfl, rfl, rfl⟩ rfl rfl rfl rfl rfl (by kernel_rfl) Tryz.func6 (by kernel_rfl)
    (of_decide_eq_true (by kernel_rfl)) (by unfold Func.isWrapper; first | (rw [if_pos (by decide +kernel)]; kernel_rfl) | (rw [if_neg (by decide +kernel)]; exact ⟨rfl, rfl⟩))
    (fun os started H enc _ => meansFields_lifted os started H enc)
#print axioms meansFields_proved
end Go.Proofs.YtmipoeanpnnjoaaGreat
