/- Texts of this proof, one behind the other: MeansTwins. -/
import Derived.Test.YtmipoeanpnnjoaaGreatPk7
import Derived.Test.YtmipoeanpnnjoaaGreatPk3

/-! Contract: tensors in memory of their own. -/
namespace Go.Proofs.YtmipoeanpnnjoaaGreat
open Go Go.Dd Go.RowKit
set_option maxRecDepth 100000

theorem own_awayT {w w' : World} {base base' : Nat} {e T : TypeId} {sz sz' n m : Nat} {v q : Value} {xs ys : List Value} (h : w.ownsRow base e sz v n xs) (k : w.ownsRow base' T sz' q m ys) (hne : e ≠ T) (g : w.grownBy w' q.ownBlock) : w'.ownsRow base e sz v n xs := by
 cases hq : q.ownBlock with
 | none => rw [hq] at g; exact own_bs h (grown_below g (Nat.le_refl _) fun _ e => by cases e)
 | some A =>
  rw [hq] at g
  obtain ⟨cs, hb⟩ := own_ty k hq
  exact own_apart h hb hne g
theorem krow_awayT {w w' : World} {base base' : Nat} {e T : TypeId} {sz sz' n m : Nat} {v q : Value} {xs ys : List Value} (h : KRow w base e sz v n xs) (k : w.ownsRow base' T sz' q m ys) (hne : e ≠ T) (g : w.grownBy w' q.ownBlock) : KRow w' base e sz v n xs := by
 cases hq : q.ownBlock with
 | none => rw [hq] at g; exact h.bs (grown_below g (Nat.le_refl _) fun _ e => by cases e)
 | some A =>
  rw [hq] at g
  obtain ⟨cs, hb⟩ := own_ty k hq
  refine h.heap fun b eb => g.block b (h.lt b eb).2 fun e2 => ?_
  cases e2
  obtain ⟨ds, hd⟩ := krow_ty h eb
  exact hne (blk_ty hd hb)
theorem bt_tenS (x : Value) (hx : ∃ ao n c, x = .slice ao n c) : Tryz.prog.built 29 [(0, x)] = some [x, .slice none 0 0].toArray := by
 obtain ⟨ao, n, c, rfl⟩ := hx
 have h1 : Tryz.prog.info? 29 = some Tryz.t29 := rfl
 have h2 : Tryz.prog.info? 26 = some Tryz.t26 := rfl
 have h3 : Tryz.prog.info? 27 = some Tryz.t27 := rfl
 simp [Program.built, h1, Tryz.underlying29, h2, h3, Instr.fill, Value.cells]
 rfl
theorem cut_own {v : Value} {sz n b : Nat} (hv : ∃ ao k c, v = .slice ao k c) (h : (cut v sz 0 n).ownBlock = some b) : v.ownBlock = some b := by
 obtain ⟨ao, k, c, rfl⟩ := hv
 rw [show cut (.slice ao k c) sz 0 n = .slice (if c = 0 then ao else ao.map (·.add (0 * sz))) (n - 0) (c - 0) from rfl] at h
 cases ao with
 | none => rw [show (if c = 0 then none else (none : Option Addr).map (·.add (0 * sz))) = none by split <;> rfl] at h; cases h
 | some a =>
  split at h
  ·exact h
  ·simp only [Value.ownBlock, Option.map_some, Option.some.injEq, add_block] at h ⊢
   exact h
/-- A tensor whose numbers may be written. -/
structure TwC (w : World) (lo : Nat) (c : T4) : Prop where
 x : KRow w lo 3 1 c.x c.s.length (c.s.map (Value.int .i64))
 y : w.ownsRow lo 21 1 c.y c.l.length (c.l.map i32)
theorem TwC.bs {w w' : World} {lo : Nat} {c : T4} (h : TwC w lo c) (g : Below w.heap.size w w') : TwC w' lo c := ⟨h.x.bs g, own_bs h.y g⟩
theorem TwC.at {w : World} {lo : Nat} {c : T4} (h : TwC w lo c) : c.at w := ⟨h.x.slT, own_slT h.y⟩
theorem TwC.away {w w' : World} {lo base' sz' m : Nat} {c : T4} {T : TypeId} {q : Value} {ys : List Value} (h : TwC w lo c) (k : w.ownsRow base' T sz' q m ys) (h1 : 3 ≠ T) (h2 : 21 ≠ T) (g : w.grownBy w' q.ownBlock) : TwC w' lo c := ⟨krow_awayT h.x k h1 g, own_awayT h.y k h2 g⟩
/-- Tensors, in memory of their own. -/
structure TwL (w : World) (lo : Nat) (us : List T4) : Prop where
 each : ∀ c ∈ us, TwC w lo c
 apart : us.Pairwise fun c d => ∀ b, c.y.ownBlock = some b → d.y.ownBlock ≠ some b
theorem twinTs_c (v : Value) (ts : List T4) (W : World) (h : Tens W v ts) (hb : ∀ t ∈ ts, t.s.length ≤ 4194304 ∧ t.l.length ≤ 4194304) (hl : ts.length ≤ 2097152) :
  Fnc Tryz.prog 20 [v] W (fun r w' => Below W.heap.size W w' ∧ ∃ us, Tens w' r us ∧ TwL w' W.heap.size us ∧ us.map pv = ts.map pv ∧ ∀ b, r.ownBlock = some b → ∃ cs, Blk w' b tenT cs) := by
 have sv := h.1
 refine Fnc.enter (n := 31) Tryz.func20 (by kernel_rfl) rfl rfl rfl <| Cw.seq <| Cw.region <| Lw.val (Ex.assign rfl) rfl <| Lw.nil <| Pw.thenN <| Cw.out <| Cw.seq <| Cw.region <| Lw.val (Ex.move rfl) rfl <| Lw.val (Ex.lenS st_25 rfl (by assumption)) rfl ?_
 refine Lw.val (Ex.addI rfl rfl (by omega)) rfl <| Lw.valW (Xw.make (l := 0) (c := ts.length + 1) st_25 it_29 rfl rfl rfl (by omega) (by omega) (by omega)) rfl ?_
 rintro r0 w1 ⟨o_r, -, hB, -⟩
 replace o_r : w1.ownsRow W.heap.size tenT 2 r0 0 [] := o_r
 refine Lw.val (Ex.assign rfl) rfl <| Lw.nil <| Pw.thenN <| Cw.out <| Cw.seq <| Cw.seq <| Cw.region <| Lw.val (Ex.assign rfl) rfl <| Lw.nil <| Pw.thenN <| Cw.out <| Cw.block ?_
 refine Cw.loop (S := (Nat × Value × List T4)) (fun z => [(0, v), (3, z.2.1), (4, .int .i64 (z.1 : Int))]) (fun z w' => z.1 ≤ ts.length ∧ Below W.heap.size W w' ∧ w'.ownsRow W.heap.size tenT 2 z.2.1 z.1 (cellsOf z.2.2) ∧ TwL w' W.heap.size z.2.2 ∧ z.2.2.map pv = (ts.take z.1).map pv) (fun z => ts.length - z.1) ((0, r0, [])) ⟨rfl, rfl, rfl, trivial⟩ ?_ ?_
 ·exact ⟨Nat.zero_le _, hB, o_r, ⟨fun _ hc => absurd hc List.not_mem_nil, List.Pairwise.nil⟩, rfl⟩
 clear o_r hB
 rintro ⟨i, r, us⟩ w2 ⟨hi, hB, o_r, hU, hp⟩
 replace hi : i ≤ ts.length := hi
 replace o_r : w2.ownsRow W.heap.size tenT 2 r i (cellsOf us) := o_r
 replace hU : TwL w2 W.heap.size us := hU
 replace hp : us.map pv = (ts.take i).map pv := hp
 have sv2 := sv.bs hB
 have z2 := hB.size
 have lus : us.length = i := by have := congrArg List.length hp; rw [List.length_map, List.length_map, List.length_take] at this; omega
 refine Cw.seq <| Cw.seq <| Cw.region <| Lw.val (Ex.move rfl) rfl <| Lw.val (Ex.move rfl) rfl <| Lw.val (Ex.lenS st_25 rfl (by assumption)) rfl ?_
 refine Lw.val (Ex.lss rfl rfl) rfl <| Lw.nil <| Pw.thenN <| Cw.out <| Cw.cond rfl ?_ ?_
 ·intro g
  have hi' : i < ts.length := by have := of_decide_eq_true g; omega
  obtain ⟨a, ha⟩ : ∃ a, a = ts[i] := ⟨_, rfl⟩
  have ham : a ∈ ts := ha ▸ List.getElem_mem hi'
  have hac := ten_cells hi'
  rw [← ha] at hac
  refine Cw.skip <| Pw.thenN <| Cw.out <| Cw.seq <| Cw.block <| Cw.region <| Lw.val (Ex.move rfl) rfl <| Lw.val (Ex.move rfl) rfl <| Lw.val (Ex.move rfl) rfl <| Lw.val (Ex.idx st_25 rfl rfl sv2 i rfl hi') rfl <| Lw.val (Ex.ldE (cs := [a.x, a.y]) (ag_29 _) (sz_29 _) rfl sv2 rfl (by decide) hac) rfl <| Lw.callF rfl rfl (twinTensor_c a w2 ((h.2 a ham).bs hB) (hb a ham).1 (hb a ham).2) ?_
  rintro _ w3 ⟨hn, x, y, rfl, M⟩
  have hB3 := bt hB hn
  have o_r3 := own_bs o_r hn
  have fr : ∀ c ∈ us, ∀ b, c.y.ownBlock = some b → b < w2.heap.size := fun c hc b e => (own_block (hU.each c hc).y b e).2
  have hU3 : ∀ c ∈ us, TwC w3 W.heap.size c := fun c hc => (hU.each c hc).bs hn
  have hC : TwC w3 W.heap.size ⟨x, y, a.s, a.l⟩ := ⟨M.k.row.mono z2, own_mono M.own z2⟩
  have cy : ∀ b, y.ownBlock = some b → w2.heap.size ≤ b := fun b e => (own_block M.own b e).1
  clear hn
  refine Lw.valW (Xw.litA1 (cs := [x, y]) st_25 it_29 rfl rfl (by decide) (by decide)) rfl ?_
  rintro p w4 ⟨o_p, -, hn, -⟩
  have hB4 := bt hB3 hn
  have o_r4 := own_bs o_r3 hn
  have hU4 : ∀ c ∈ us, TwC w4 W.heap.size c := fun c hc => (hU3 c hc).bs hn
  replace hC := hC.bs hn
  clear hn
  refine Lw.valW (Xw.append2 (base := W.heap.size) st_25 it_29 rfl (by decide) rfl rfl o_r4 (own_sl o_p) hC.at.one (by omega) (by omega) hB4.size) rfl ?_
  rintro r' w5 ⟨o_r5, hn, hg, -⟩
  have hB5 := hB4.trans hn
  have e1 : cellsOf (us ++ [⟨x, y, a.s, a.l⟩]) = cellsOf us ++ [x, y] := by rw [cellsOf_app]; rfl
  rw [← e1] at o_r5
  have hA5 : ∀ c ∈ us ++ [⟨x, y, a.s, a.l⟩], TwC w5 W.heap.size c := by
   intro c hc
   rcases List.mem_append.1 hc with hc | hc
   ·exact (hU4 c hc).away o_r4 (by decide) (by decide) hg
   ·rw [List.mem_singleton.1 hc]
    exact hC.away o_r4 (by decide) (by decide) hg
  have hP5 : (us ++ [(⟨x, y, a.s, a.l⟩ : T4)]).Pairwise fun c d => ∀ b, c.y.ownBlock = some b → d.y.ownBlock ≠ some b := by
   refine List.pairwise_append.2 ⟨hU.apart, List.pairwise_singleton _ _, fun c hc d hd b e1 e2 => ?_⟩
   rw [List.mem_singleton.1 hd] at e2
   have := fr c hc b e1
   have := cy b e2
   omega
  have hU5 : TwL w5 W.heap.size (us ++ [⟨x, y, a.s, a.l⟩]) := ⟨hA5, hP5⟩
  have hp5 : (us ++ [(⟨x, y, a.s, a.l⟩ : T4)]).map pv = (ts.take (i + 1)).map pv := by
   rw [List.map_append, hp, List.take_succ_eq_append_getElem hi', List.map_append, ← ha]; rfl
  refine Lw.val (Ex.assign rfl) rfl <| Lw.nil <| Pw.blkN <| Pw.thenN <| Cw.out <| Cw.region <| Lw.val (Ex.move rfl) rfl <| Lw.val (Ex.addI rfl rfl (by omega)) rfl <| Lw.val (Ex.assign rfl) rfl <| Lw.nil ?_
  exact Pw.thenN (Pw.next ((i + 1, r', us ++ [⟨x, y, a.s, a.l⟩])) ⟨rfl, rfl, rfl, trivial⟩ (⟨hi', hB5, o_r5, hU5, hp5⟩) (by simp only; omega))
 intro g
 have hi' : i = ts.length := by have := of_decide_eq_false g; omega
 rw [hi', List.take_length] at hp
 refine Cw.exit <| Pw.thenE <| Pw.thenE <| Pw.blkHit <| Pw.thenN <| Cw.out <| Cw.seq <| Cw.region <| Lw.val (Ex.move rfl) rfl <| Lw.valW (Xw.lit (vs := [(77 : Int)].map (Value.int .i64)) st_26 it_3 rfl rfl rfl rfl rfl) rfl ?_
 rintro m w3 ⟨o_m, -, hn, -⟩
 have hB3 := bt hB hn
 have o_r3 := own_bs o_r hn
 have hU3 : ∀ c ∈ us, TwC w3 W.heap.size c := fun c hc => (hU.each c hc).bs hn
 clear hn
 refine Lw.val (Ex.build (vs := [(0, m)]) (cs := [m, .slice none 0 0]) rfl (bt_tenS m (sl_form (own_sl o_m)))) rfl <| Lw.valW (Xw.litA1 (cs := [m, .slice none 0 0]) st_25 it_29 rfl rfl (by decide) (by decide)) rfl ?_
 rintro p w4 ⟨o_p, -, hn, -⟩
 have hB4 := bt hB3 hn
 have o_r4 := own_bs o_r3 hn
 have hU4 : ∀ c ∈ us, TwC w4 W.heap.size c := fun c hc => (hU3 c hc).bs hn
 clear hn
 refine Lw.valW (Xw.append2 (base := W.heap.size) st_25 it_29 rfl (by decide) rfl rfl o_r4 (own_sl o_p) (by rw [List.all_cons, (own_sl o_m).one']; rfl) (by omega) (by omega) hB4.size) rfl ?_
 rintro r' w5 ⟨o_r5, hn, hg, -⟩
 have hB5 := hB4.trans hn
 have hU5 : TwL w5 W.heap.size us := ⟨fun c hc => (hU4 c hc).away o_r4 (by decide) (by decide) hg, hU.apart⟩
 have s_r5 := own_sl o_r5
 have lc : (cellsOf us).length = ts.length * 2 := by have := (own_sl o_r).len; rw [this, hi']
 have hcut := Sl.cut (i := 0) (j := ts.length) s_r5 (by omega) (by omega)
 rw [Nat.sub_zero, Nat.zero_mul, List.drop_zero, List.take_append_of_le_length (by rw [lc]; exact Nat.le_refl _), List.take_of_length_le (by rw [lc]; exact Nat.le_refl _)] at hcut
 have hty : ∀ b, (cut r' 2 0 ts.length).ownBlock = some b → ∃ cs, Blk w5 b tenT cs := fun b e => own_ty o_r5 (cut_own (sl_form s_r5) e)
 have sv5 := sv.bs hB5
 refine Lw.val (Ex.move rfl) rfl <| Lw.val (Ex.lenS st_25 rfl (by assumption)) rfl ?_
 refine Lw.val (Ex.cutH (j := ts.length) st_25 rfl rfl s_r5 (by omega)) rfl <| Lw.val (Ex.assign rfl) rfl <| Lw.nil <| Pw.thenN <| Cw.out <| Cw.ret <| Pw.ret1 rfl rfl ?_
 exact ⟨hB5, us, ⟨by rw [lus, hi']; exact hcut, fun c hc => (hU5.each c hc).at⟩, hU5, hp, hty⟩
end Go.Proofs.YtmipoeanpnnjoaaGreat
