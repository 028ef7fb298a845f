/- Texts of this proof, one behind the other: MeansRun, MeansSame, MeansShape, MeansLive, MeansArg, MeansTwin, RefShape, RefCode, RefJoined, RefOrd. -/
import Derived.Test.YtmipoeanpnnjoaaGreatPk5
import Derived.Test.YtmipoeanpnnjoaaGreatPk2
import Derived.Test.YtmipoeanpnnjoaaGreatPk3
import Derived.Test.YtmipoeanpnnjoaaGreatRows
import Derived.Test.YtmipoeanpnnjoaaGreatPk1
import Derived.Test.YtmipoeanpnnjoaaGreatPk4

/-! Contracts: what all nodes of a graph come to; the last one. -/
namespace Go.Proofs.YtmipoeanpnnjoaaGreat
open Go Go.Dd Go.RowKit
set_option maxRecDepth 100000

theorem cellsOf_app : ∀ (a b : List T4), cellsOf (a ++ b) = cellsOf a ++ cellsOf b
 | [], _ => rfl
 | t :: a, b => by rw [List.cons_append, cellsOf, cellsOf, cellsOf_app a b]; rfl
/-- Tensors of one's own, each. -/
def madeA (W w : World) (ts : List T4) : Prop := ∀ t ∈ ts, MadeK W w t.x t.y t.s t.l
theorem MadeK.bs {W w w' : World} {x y : Value} {s : List Int} {l : List (BitVec 32)} (h : MadeK W w x y s l) (g : Below w.heap.size w w') : MadeK W w' x y s l := ⟨h.row.bs g, h.col.bs g, h.apart⟩
theorem madeA.bs {W w w' : World} {ts : List T4} (h : madeA W w ts) (g : Below w.heap.size w w') : madeA W w' ts := fun t ht => (h t ht).bs g
theorem own_ty {w : World} {base sz n b : Nat} {e : TypeId} {v : Value} {xs : List Value} (h : w.ownsRow base e sz v n xs) (hb : v.ownBlock = some b) : ∃ cs, Blk w b e cs := by
 obtain ⟨cap, cur, rfl, h1, -⟩ := own_cells h hb
 exact ⟨cur, h1⟩
theorem krow_ty {w : World} {base sz n b : Nat} {e : TypeId} {v : Value} {xs : List Value} (h : KRow w base e sz v n xs) (hb : v.ownBlock = some b) : ∃ cs, Blk w b e cs := by
 rcases h with h | ⟨g, cur, rfl, _, h1, _⟩
 ·exact own_ty h hb
 ·have : g = b := by simpa [Value.ownBlock] using hb
  exact ⟨cur, this ▸ h1⟩
theorem blk_ty {w : World} {b : Nat} {e T : TypeId} {cs ds : List Value} (h : Blk w b e cs) (k : Blk w b T ds) : e = T := by
 unfold Blk at h k
 rw [h] at k
 simp only [Option.some.injEq, Obj.cells.injEq] at k
 exact k.2.1
/-- What changes is a block of another type. -/
theorem MadeK.ty {W w w' : World} {x y : Value} {s : List Int} {l : List (BitVec 32)} {T : TypeId} {r : Option Nat} (h : MadeK W w x y s l) (g : w.grownBy w' r) (hr : ∀ b, r = some b → ∃ cs, Blk w b T cs) (h1 : 3 ≠ T) (h2 : 21 ≠ T) : MadeK W w' x y s l :=
  ⟨h.row.heap fun b e => g.block b (h.row.lt b e).2 (fun e2 => by
      obtain ⟨cs, k1⟩ := hr b e2.symm
      obtain ⟨ds, k2⟩ := krow_ty h.row e
      exact h1 (blk_ty k2 k1)),
   h.col.heap fun b e => g.block b (h.col.lt b e).2 (fun e2 => by
      obtain ⟨cs, k1⟩ := hr b e2.symm
      obtain ⟨ds, k2⟩ := krow_ty h.col e
      exact h2 (blk_ty k2 k1)), h.apart⟩
theorem madeA.ty {W w w' : World} {ts : List T4} {T : TypeId} {r : Option Nat} (h : madeA W w ts) (g : w.grownBy w' r) (hr : ∀ b, r = some b → ∃ cs, Blk w b T cs) (h1 : 3 ≠ T) (h2 : 21 ≠ T) : madeA W w' ts := fun t ht => (h t ht).ty g hr h1 h2
theorem madeA.snoc {W w : World} {ts : List T4} {c : T4} (h : madeA W w ts) (hc : MadeK W w c.x c.y c.s c.l) : madeA W w (ts ++ [c]) := fun t ht => (List.mem_append.1 ht).elim (h t) (fun e => by rw [List.mem_singleton.1 e]; exact hc)
theorem Tens.tail {w : World} {v : Value} {t : T4} {ts : List T4} (h : Tens w v (t :: ts)) : Tens w (cut v 2 1 (ts.length + 1)) ts := by
 refine ⟨?_, fun q hq => h.2 q (List.mem_cons_of_mem _ hq)⟩
 have := Sl.cut (i := 1) (j := ts.length + 1) h.1 (by omega) (Nat.le_refl _)
 rw [Nat.add_sub_cancel] at this
 have e : ((cellsOf (t :: ts)).drop (1 * 2)).take (ts.length * 2) = cellsOf ts := by
  show (cellsOf ts).take (ts.length * 2) = cellsOf ts
  have : (cellsOf ts).length = ts.length * 2 := by have := h.1.len; simp [cellsOf] at this; omega
  rw [List.take_of_length_le (by omega)]
 rw [e] at this
 exact this
theorem clipTs_c (u : Value) (ts : List T4) (w : World) (hu : Sl w 2 u ts.length (cellsOf ts)) : Fnc Tryz.prog 34 [u] w (fun r w' => r = clip u ∧ Below w.heap.size w w') := by
 refine Fnc.enter (n := 9) Tryz.func34 (by kernel_rfl) rfl rfl rfl <| Cw.seq <| Cw.region <| Lw.val (Ex.assign rfl) rfl <| Lw.nil <| Pw.thenN <| Cw.out <| Cw.seq <| Cw.region <| Lw.val (Ex.move rfl) rfl <| Lw.val (Ex.move rfl) rfl <| Lw.val (Ex.lenS st_25 rfl (by assumption)) rfl ?_
 refine Lw.val (Ex.move rfl) rfl <| Lw.val (Ex.lenS st_25 rfl (by assumption)) rfl ?_
 refine Lw.val (Ex.clip st_25 rfl rfl rfl hu.shp) rfl <| Lw.val (Ex.assign rfl) rfl <| Lw.nil <| Pw.thenN <| Cw.out <| Cw.ret <| Pw.ret1 rfl rfl ?_
 exact ⟨rfl, Below.refl _ _⟩
theorem ins_drop (f : N5 → Bool) {ls : List N5} {i : Nat} {x : N5} (hi : i < ls.length) (hx : x = ls[i]) : ((ls.drop i).filter f).length = (if f x then 1 else 0) + ((ls.drop (i + 1)).filter f).length := by
 rw [List.drop_eq_getElem_cons hi, ← hx, List.filter_cons]
 split
 ·rw [List.length_cons]; omega
 ·omega
theorem kindF_len {x : N5} (hk : kindF x.k x.i x.s x.n x.p = true) : x.i.length ≤ 4 := by
 obtain ⟨a, b, c, d, e, f, he⟩ := kindF_row hk
 have h1 := (kindF_at hk he).1
 have h2 : ∀ p ∈ kdT, p.2.2.getD 1 0 ≤ 4 := by decide
 unfold kdOf at he
 cases hf : kdT.find? (fun p => decide (p.2.1 = (x.k.toNat : Int))) with
 | none => rw [hf] at he; cases he
 | some p =>
  rw [hf] at he
  have h3 := h2 p (List.mem_of_find?_eq_some hf)
  have h4 : p.2.2 = [a, b, c, d, e, f] := by simpa using he
  rw [h4] at h3
  simp at h3
  omega
set_option maxHeartbeats 1600000 in
theorem all_c (v : Value) (ls : List N5) (u : Value) (ws : List T4) (t : T4) (W : World) (h : GN W v ls) (hw : Tens W u ws) (ht : t.at W) :
  Fnc Tryz.prog 10 [.agg [v].toArray, u, t.v] W (fun r w' => Below W.heap.size W w' ∧ match allG ls (ws.map pv) (pv t) with
   | none => r = .tuple #[.slice none 0 0, .int .i64 1]
   | some vs => ∃ q ts, r = .tuple #[q, .int .i64 0] ∧ Tens w' q ts ∧ madeA W w' ts ∧ ts.map pv = vs) := by
 obtain ⟨R, hR⟩ : ∃ R, R = allG ls (ws.map pv) (pv t) := ⟨_, rfl⟩
 rw [← hR]
 have hB := Below.refl W.heap.size W
 have hwl := hw.1.le
 refine Fnc.enter (n := 95) Tryz.func10 (by kernel_rfl) rfl rfl rfl <| Cw.seq <| Cw.region <| Lw.boxV (cs := [v]) rfl rfl rfl ?_
 rintro A_g w eA_g b_g hn -
 replace hB := hB.bs hn
 clear hn
 have yg := blk_lt b_g
 refine Lw.boxV (cs := [t.x, t.y]) rfl rfl rfl ?_
 rintro A_in w eA_in b_in hn -
 replace hB := hB.bs hn
 replace b_g := b_g.bs hn
 clear hn
 refine Lw.val (Ex.assign rfl) rfl <| Lw.val (Ex.assign rfl) rfl <| Lw.nil <| Pw.thenN <| Cw.out <| Cw.seq <| Cw.seq <| Cw.region <| Lw.val (Ex.ldA (ag_24 _) (sz_24 _) rfl rfl (by assumption)) rfl ?_
 have z0 := below_size hB
 refine Lw.callF rfl rfl (gcheck_c v ls w (h.bs hB)) ?_
 rintro _ w1 ⟨hn1, rfl⟩
 have b_g := b_g.bs hn1
 have b_in := b_in.bs hn1
 have z1 := hn1.size
 have hB := hB.trans (hn1.mono z0)
 refine Lw.val (Ex.not rfl) rfl <| Lw.val (Ex.move rfl) rfl ?_
 refine Lw.part 19 rfl ?_ ?_
 ·intro g
  have g : (gsh ls).isSome = false := by simpa using g
  refine Lw.pass (dj := 19) rfl rfl rfl rfl <| Lw.pass (dj := 19) rfl rfl rfl rfl <| Lw.pass (dj := 19) rfl rfl rfl rfl <| Lw.pass (dj := 19) rfl rfl rfl rfl <| Lw.pass (dj := 19) rfl rfl rfl rfl <| Lw.pass (dj := 19) rfl rfl rfl rfl <| Lw.val (Ex.pickT rfl rfl) rfl <| Lw.nil <| Pw.thenN <| Cw.out <| Cw.condT rfl <| Cw.seq <| Cw.region <| Lw.val (Ex.assign rfl) rfl <| Lw.val (Ex.assign rfl) rfl <| Lw.nil <| Pw.thenN <| Cw.out <| Cw.ret <| Pw.thenR <| Pw.ret2 rfl rfl rfl ?_
  have hN : R = none := by rw [hR]; unfold allG; rw [g]; rfl
  rw [hN]
  exact ⟨hB, rfl⟩
 intro g
 obtain ⟨ss, hss⟩ : ∃ ss, gsh ls = some ss := by
  cases e : gsh ls with
  | none => rw [e] at g; cases g
  | some ss => exact ⟨ss, rfl⟩
 obtain ⟨hgR, hin1, hl1, hl32⟩ := gsh_R hss
 have hAR : R = if ws.length = wtsN ls then allR [] [pv t] (ws.map pv) ls else none := by
  rw [hR]; unfold allG; rw [hss, List.length_map]
  by_cases e : ws.length = wtsN ls
  ·rw [if_pos e, decide_eq_true e]; rfl
  ·rw [if_neg e, decide_eq_false e]; rfl
 have hw1 := (hw.bs hB).1
 refine Lw.take (dj := 19) rfl rfl <| Lw.val (Ex.move rfl) rfl <| Lw.take (dj := 19) rfl rfl <| Lw.val (Ex.lenS st_25 rfl (by assumption)) rfl ?_
 refine Lw.take (dj := 19) rfl rfl <| Lw.val (Ex.ldA (ag_24 _) (sz_24 _) rfl rfl (by assumption)) rfl ?_
 refine Lw.take (dj := 19) rfl rfl <| Lw.callF rfl rfl (gweights_c v ls w1 (h.bs hB) (by omega)) ?_
 rintro q w2 ⟨hn2, s_q⟩
 have b_g := b_g.bs hn2
 have b_in := b_in.bs hn2
 have z2 := hn2.size
 have hB := hB.trans (hn2.mono (by omega))
 have lwq := wtsG_len ls
 refine Lw.take (dj := 19) rfl rfl <| Lw.val (Ex.lenS st_26 rfl (by assumption)) rfl ?_
 refine Lw.take (dj := 19) rfl rfl <| Lw.val (Ex.neq rfl rfl) rfl <| Lw.val (Ex.pickF rfl rfl) rfl <| Lw.nil <| Pw.thenN <| Cw.out <| Cw.cond rfl ?_ ?_
 ·intro g2
  have g2 : ¬ ws.length = wtsN ls := fun e => by rw [lwq, e] at g2; simp at g2
  refine Cw.seq <| Cw.region <| Lw.val (Ex.assign rfl) rfl <| Lw.val (Ex.assign rfl) rfl <| Lw.nil <| Pw.thenN <| Cw.out <| Cw.ret <| Pw.thenR <| Pw.ret2 rfl rfl rfl ?_
  have hN : R = none := by rw [hAR, if_neg g2]
  rw [hN]
  exact ⟨hB, rfl⟩
 intro g2
 have g2 : ws.length = wtsN ls := by rw [lwq] at g2; simp at g2; omega
 rw [if_pos g2] at hAR
 refine Cw.skip <| Pw.thenN <| Cw.out <| Cw.seq <| Cw.region <| Lw.val (Ex.ldA (ag_29 _) (sz_29 _) rfl rfl (by assumption)) rfl ?_
 refine Lw.valW (Xw.litA1 (cs := [t.x, t.y]) st_25 it_29 rfl rfl (by decide) (by decide)) rfl ?_
 rintro gq0 w3 ⟨o_g, -, hn3, -⟩
 have b_g := b_g.bs hn3
 have z3 := hn3.size
 have hB := hB.trans (hn3.mono (by omega))
 have h_v := h.sl.bs hB
 have hg0 : Tens w3 gq0 [t] := ⟨own_sl o_g, fun q hq => by rw [List.mem_singleton.1 hq]; exact ht.bs hB⟩
 refine Lw.val (Ex.move rfl) rfl <| Lw.val (Ex.assign rfl) rfl <| Lw.val (Ex.assign rfl) rfl <| Lw.nil <| Pw.thenN <| Cw.out <| Cw.seq <| Cw.seq <| Cw.region <| Lw.val (Ex.fieldAddr (q := 0) Tryz.underlying24 rfl (sz_22 _) rfl) rfl <| Lw.val (Ex.ldB (ag_22 _) rfl (by assumption) rfl) rfl ?_
 refine Lw.val (Ex.lenS st_22 rfl (by assumption)) rfl ?_
 refine Lw.val (Ex.move rfl) rfl <| Lw.nil <| Pw.thenN <| Cw.out <| Cw.block ?_
 refine Cw.loop (S := (Nat × Value × List T4 × Value × List T4 × Value × List T4)) (fun z => [(6, z.2.2.2.2.2.1), (7, .int .i64 0), (8, z.2.1), (9, z.2.2.2.1), (31, v), (32, .int .i64 (ls.length : Int)), (33, .int .i64 (z.1 : Int))]) (fun z w' => z.1 ≤ ls.length ∧ Below w3.heap.size w3 w' ∧ Tens w3 z.2.1 z.2.2.1 ∧ Tens W z.2.2.2.1 z.2.2.2.2.1 ∧ z.2.2.1.length = inputs (ls.drop z.1) ∧ z.2.2.2.2.1.length = wtsN (ls.drop z.1) ∧ w'.ownsRow w3.heap.size tenT 2 z.2.2.2.2.2.1 z.2.2.2.2.2.2.length (cellsOf z.2.2.2.2.2.2) ∧ madeA W w' z.2.2.2.2.2.2 ∧ z.2.2.2.2.2.2.length = z.1 ∧ allR (z.2.2.2.2.2.2.map pv) (z.2.2.1.map pv) (z.2.2.2.2.1.map pv) (ls.drop z.1) = R) (fun z => ls.length - z.1) ((0, gq0, [t], u, ws, .slice none 0 0, [])) ⟨rfl, rfl, rfl, rfl, rfl, rfl, rfl, trivial⟩ ?_ ?_
 ·exact ⟨Nat.zero_le _, Below.refl _ _, hg0, hw, by rw [List.drop_zero, hin1]; rfl, by rw [List.drop_zero]; exact g2, ⟨rfl, .inl ⟨rfl, rfl⟩⟩, (fun _ h => by cases h), rfl, by rw [hAR]; rfl⟩
 clear b_g b_in hw1 s_q h_v
 rintro ⟨i, gq, gts, wq, wts, l, ts⟩ w4 ⟨hi, hB3, hgt, hwt, lg, lw, o_l, hoff, lts, hrec⟩
 dsimp only at hi hB3 hgt hwt lg lw o_l hoff lts hrec ⊢
 have hB := hB.trans (hB3.mono (by omega))
 have h_v := h.sl.bs hB
 have z4 := hB3.size
 refine Cw.seq <| Cw.region <| Lw.val (Ex.lss rfl rfl) rfl <| Lw.nil <| Pw.thenN <| Cw.out <| Cw.seq <| Cw.cond rfl ?_ ?_
 ·intro gi
  have hi' : i < ls.length := by have := of_decide_eq_true gi; omega
  obtain ⟨x, hxd⟩ : ∃ x, x = ls[i] := ⟨_, rfl⟩
  have hx := (h.each x (hxd ▸ List.getElem_mem hi')).bs hB
  have hcl := h.cells hi'
  rw [← hxd] at hcl
  have ed : ls.drop i = x :: ls.drop (i + 1) := by rw [List.drop_eq_getElem_cons hi', ← hxd]
  have hji := gshR_in ls [] ss hgR i hi'
  rw [← hxd] at hji
  have lg2 : gts.length = (if x.k = 1#8 then 1 else 0) + inputs (ls.drop (i + 1)) := by
   rw [lg]; unfold inputs; rw [ins_drop _ hi' hxd]; simp only [decide_eq_true_eq]
  have lw2 : wts.length = (if x.k = 2#8 then 1 else 0) + wtsN (ls.drop (i + 1)) := by
   rw [lw]; unfold wtsN; rw [ins_drop _ hi' hxd]; simp only [decide_eq_true_eq]
  rw [ed] at hrec
  refine Cw.skip <| Pw.thenN <| Cw.out <| Cw.seq <| Cw.block <| Cw.seq <| Cw.region <| Lw.val (Ex.idx st_22 rfl rfl h_v i rfl hi') rfl <| Lw.val (Ex.ldE (cs := x.cells) (ag_45 _) (sz_45 _) rfl h_v rfl (by decide) hcl) rfl <| Lw.valW (Xw.new it_45) rfl ?_
  rintro _ w5 ⟨rfl, b_n, hn5, hz5⟩
  refine Lw.unit (Xu.stA (cs := x.cells) (k := 5) (by kernel_rfl) rfl rfl rfl hx.ones b_n rfl) ?_
  rintro w6 ⟨b_n, hg6, hz6⟩
  obtain ⟨A_n, eAn⟩ : ∃ A_n, A_n = w4.heap.size := ⟨_, rfl⟩
  rw [← eAn] at b_n
  rw [← eAn]
  refine Lw.nil <| Pw.thenN <| Cw.out <| Cw.seq <| Cw.region <| Lw.valW (Xw.new it_29) rfl ?_
  rintro _ w7 ⟨rfl, b_t, hn7, hz7⟩
  have b_n := b_n.bs hn7
  obtain ⟨A_t, eAt⟩ : ∃ A_t, A_t = w6.heap.size := ⟨_, rfl⟩
  rw [← eAt] at b_t
  rw [← eAt]
  have hB4 : Below w4.heap.size w4 w7 := (hn5.grown hg6 hn5.size (by rintro _ e; have := Option.some.inj e; omega)).trans (hn7.mono (by omega))
  have z7 := hB4.size
  clear h_v
  refine Lw.nil <| Pw.thenN <| Cw.out <| Cw.seq <| Cw.block <| Cw.seq <| Cw.region <| Lw.val (Ex.fieldAddr (q := 0) Tryz.underlying45 rfl (sz_43 _) rfl) rfl <| Lw.val (Ex.ldB (ag_43 _) rfl (by assumption) rfl) rfl ?_
  refine Lw.val (Ex.eql8 rfl (show _ = some (b8 (1#8)) from rfl)) rfl <| Lw.val (Ex.assign rfl) rfl <| Lw.nil <| Pw.thenN <| Cw.out <| Cw.cond rfl ?_ ?_
  ·intro g1
   have g1 : x.k = 1#8 := of_decide_eq_true g1
   rw [g1] at lg2 lw2
   rw [if_pos rfl] at lg2
   rw [if_neg (by decide)] at lw2
   obtain ⟨t0, gts', rfl⟩ : ∃ t0 gts', gts = t0 :: gts' := by
    cases gts with
    | nil => simp at lg2; omega
    | cons t0 gts' => exact ⟨t0, gts', rfl⟩
   have hrec : R = if fitP (pv t0) x.s = true then allR (ts.map pv ++ [pv t0]) (gts'.map pv) (wts.map pv) (ls.drop (i + 1)) else none := by rw [← hrec, List.map_cons]; simp only [allR, g1, if_true]
   have hgs := (hgt.bs (hB3.trans (hB4.mono z4))).1
   have ht0 := ((hgt.2 t0 (by simp)).bs (hB3.trans (hB4.mono z4)))
   simp only [List.length_cons] at lg2
   refine Cw.any mixed (fun w8 hd _ => ?_)
   refine Aw.cls (fun w' => Sl w' 2 gq (t0 :: gts').length (cellsOf (t0 :: gts'))) (fun hC => ?_) ((hgs.bs hd))
   have b_n8 := b_n.bs hd
   have b_t8 := b_t.bs hd
   have hB8 := hB4.trans (hd.mono z7)
   have ht8 := ht0.bs hd
   have hgs8 := hgs.bs hd
   have one0 : [t0.x, t0.y].all (·.oneCell') = true := by rw [List.all_cons, List.all_cons, ht0.1.one', ht0.2.one']; rfl
   refine AwC.take (i := 0) (NoP.blk (NoP.thn (NoP.blk (NoP.thn (NoP.thn (NoP.blk (NoP.thn NoP.ret))))))) rfl (by kernel_rfl) (by kernel_rfl) (by kernel_rfl) (fun w1 hc => Ex.move rfl) rfl <| AwC.take (i := 1) (NoP.blk (NoP.thn (NoP.blk (NoP.thn (NoP.thn (NoP.blk (NoP.thn NoP.ret))))))) rfl (by kernel_rfl) (by kernel_rfl) (by kernel_rfl) (fun w1 hc => Ex.idx st_25 rfl rfl hc 0 rfl (Nat.succ_pos _)) rfl <| AwC.take (i := 2) (NoP.blk (NoP.thn (NoP.blk (NoP.thn (NoP.thn (NoP.blk (NoP.thn NoP.ret))))))) rfl (by kernel_rfl) (by kernel_rfl) (by kernel_rfl) (fun w1 hc => Ex.ldE (cs := [t0.x, t0.y]) (ag_29 _) (sz_29 _) rfl hc rfl (by decide) (ten_cells (ts := t0 :: gts') (j := 0) (Nat.succ_pos _))) rfl <| AwC.take (i := 3) (NoP.blk (NoP.thn (NoP.blk (NoP.thn (NoP.thn (NoP.blk (NoP.thn NoP.ret))))))) rfl (by kernel_rfl) (by kernel_rfl) (by kernel_rfl) (fun w1 hc => Ex.move rfl) rfl <| AwC.take (i := 4) (NoP.blk (NoP.thn (NoP.blk (NoP.thn (NoP.thn (NoP.blk (NoP.thn NoP.ret))))))) rfl (by kernel_rfl) (by kernel_rfl) (by kernel_rfl) (fun w1 hc => Ex.cutLv (i := 1) st_25 rfl rfl hc.shp (Nat.succ_pos _)) rfl <| AwC.only (by assumption) (i := 5) (by kernel_rfl) rfl ?_
   refine Lw.unit (Xu.stA (cs := [t0.x, t0.y]) (k := 2) (by kernel_rfl) rfl rfl rfl one0 b_t8 rfl) ?_
   rintro w9 ⟨b_t9, hg9, hz9⟩
   have hB9 := hB8.grown hg9 hB8.size (by rintro _ e; have := Option.some.inj e; omega)
   have hgs9 := ((hgt.bs (hB3.trans (hB9.mono z4)))).1
   have b_n9 := b_n8.by hg9 (fun e => by have := Option.some.inj e; omega)
   refine AwC.back <| AwC.take (i := 6) (NoP.blk (NoP.thn (NoP.blk (NoP.thn (NoP.thn (NoP.blk (NoP.thn NoP.ret))))))) rfl (by kernel_rfl) (by kernel_rfl) (by kernel_rfl) (fun w1 hc => Ex.assign rfl) rfl <| AwC.done (by assumption) (by kernel_rfl) ?_
   refine Pw.blkN <| Pw.thenN <| Cw.out <| Cw.seq <| Cw.seq <| Cw.region <| Lw.val (Ex.ldA (ag_29 _) (sz_29 _) rfl rfl (by assumption)) rfl ?_
   refine Lw.val (Ex.fieldAddr (q := 0) Tryz.underlying45 rfl (sz_26 _) rfl) rfl <| Lw.val (Ex.ldB (ag_26 _) rfl (by assumption) rfl) rfl ?_
   have hB4 := hB9
   have z8 := hB4.size
   have b_n := b_n9
   have b_t := b_t9
   have ht0 : t0.at w9 := (hgt.2 t0 (by simp)).bs (hB3.trans (hB9.mono z4))
   have hxz := hx.bs hB4
   have h_s := hxz.s
   refine Lw.callF rfl rfl (fits_c t0 x.y x.s w9 ht0 h_s) ?_
   rintro _ wy ⟨rfl, hny⟩
   have hB4 := hB4.trans (hny.mono z8)
   have zy := hny.size
   have b_t := b_t.bs hny
   have hBy := hB.trans (hB4.mono (by omega))
   refine Lw.val (Ex.not rfl) rfl <| Lw.nil <| Pw.thenN <| Cw.out <| Cw.cond rfl ?_ ?_
   ·intro gf
    have gf : fitP (pv t0) x.s = false := by
     show (tok t0.s t0.l && decide (t0.s = x.s)) = false
     cases hq : (tok t0.s t0.l && decide (t0.s = x.s)) with
     | false => rfl
     | true => rw [hq] at gf; cases gf
    refine Cw.seq <| Cw.region <| Lw.val (Ex.assign rfl) rfl <| Lw.val (Ex.assign rfl) rfl <| Lw.nil <| Pw.thenN <| Cw.out <| Cw.ret <| Pw.thenR <| Pw.blkR <| Pw.thenR <| Pw.thenR <| Pw.blkR <| Pw.thenR <| Pw.ret2 rfl rfl rfl ?_
    have hN : R = none := by rw [hrec, gf]; rfl
    rw [hN]
    exact ⟨hBy, rfl⟩
   intro gf
   have gf : fitP (pv t0) x.s = true := by
    show (tok t0.s t0.l && decide (t0.s = x.s)) = true
    cases hq : (tok t0.s t0.l && decide (t0.s = x.s)) with
    | true => rfl
    | false => rw [hq] at gf; cases gf
   rw [gf, if_pos rfl] at hrec
   have ktok : tok t0.s t0.l = true := by unfold fitP at gf; rw [Bool.and_eq_true] at gf; exact gf.1
   obtain ⟨kok, klen⟩ := tok_ok ktok
   have ksz := Shapes.size_le t0.s
   refine Cw.skip <| Pw.thenN <| Cw.out <| Cw.region <| Lw.val (Ex.move rfl) rfl <| Lw.val (Ex.ldA (ag_29 _) (sz_29 _) rfl rfl (by assumption)) rfl ?_
   refine Lw.callF rfl rfl (twin_c t0 wy (ht0.bs hny) (by have := (ok_len kok).2; omega) (by omega)) ?_
   rintro _ wx ⟨hnx, cx, cy, rfl, hM⟩
   have zx := hnx.size
   have hB4 := hB4.trans (hnx.mono (by omega))
   have c1 : [cx, cy].all (·.oneCell') = true := by rw [List.all_cons, List.all_cons, hM.row.slT.one', hM.col.slT.one']; rfl
   obtain ⟨c, hc⟩ : ∃ c : T4, c = ⟨cx, cy, t0.s, t0.l⟩ := ⟨_, rfl⟩
   have cpv : pv c = pv t0 := by rw [hc]; rfl
   have cmk : MadeK W wx c.x c.y c.s c.l := by rw [hc]; exact hM.mono (by omega)
   have cc : [cx, cy] = [c.x, c.y] := by rw [hc]
   refine Lw.valW (Xw.litA1 (cs := [cx, cy]) st_25 it_29 rfl rfl (by decide) (by decide)) rfl ?_
   rintro q wv ⟨o_q, -, hnv, -⟩
   rw [cc] at o_q
   have zv := hnv.size
   have hB4 := hB4.trans (hnv.mono (by omega))
   have o_l := own_bs o_l hB4
   have hoff := hoff.bs hB4
   have c1' : [c.x, c.y].all (·.oneCell') = true := by rw [← cc]; exact c1
   refine Lw.valW (Xw.append2 (base := w3.heap.size) st_25 it_29 rfl (by decide) rfl rfl o_l (own_sl o_q) c1' (by omega) (by omega) (by omega)) rfl ?_
   rintro l' wu ⟨o_l', hnu, hgu, -⟩
   have e1 : cellsOf ts ++ [c.x, c.y] = cellsOf (ts ++ [c]) := by rw [cellsOf_app]; rfl
   have hoff2 : madeA W wv (ts ++ [c]) := hoff.snoc (cmk.bs hnv)
   have hoff3 := hoff2.ty hgu (fun b e => own_ty o_l e) (by decide) (by decide)
   have e2 : ts.length + 1 = (ts ++ [c]).length := by rw [List.length_append]; rfl
   rw [e1, e2] at o_l'
   have hB3' := (hB3.trans (hB4.mono z4)).trans hnu
   have epv : (ts ++ [c]).map pv = ts.map pv ++ [pv c] := by rw [List.map_append]; rfl
   refine Lw.val (Ex.assign rfl) rfl <| Lw.nil <| Pw.blkN <| Pw.thenN <| Cw.out <| Cw.region <| Lw.val (Ex.addI rfl rfl (by omega)) rfl <| Lw.val (Ex.move rfl) rfl <| Lw.nil ?_
   exact Pw.thenN (Pw.next ((i + 1, cut gq 2 1 (gts'.length + 1), gts', wq, wts, l', ts ++ [c])) ⟨rfl, rfl, rfl, rfl, rfl, rfl, rfl, trivial⟩ (⟨hi', hB3', hgt.tail, hwt, (show gts'.length = inputs (ls.drop (i + 1)) by omega), (show wts.length = wtsN (ls.drop (i + 1)) by omega), o_l', hoff3, by rw [List.length_append, lts]; rfl, by simp only; rw [epv, cpv]; exact hrec.symm⟩) (by simp only; omega))
  intro g1
  have g1 : ¬ x.k = 1#8 := of_decide_eq_false g1
  rw [if_neg g1] at lg2
  refine Cw.seq <| Cw.region <| Lw.val (Ex.fieldAddr (q := 0) Tryz.underlying45 rfl (sz_43 _) rfl) rfl <| Lw.val (Ex.ldB (ag_43 _) rfl (by assumption) rfl) rfl ?_
  refine Lw.val (Ex.eql8 rfl (show _ = some (b8 (2#8)) from rfl)) rfl <| Lw.val (Ex.assign rfl) rfl <| Lw.nil <| Pw.thenN <| Cw.out <| Cw.cond rfl ?_ ?_
  ·intro g2
   have g2 : x.k = 2#8 := of_decide_eq_true g2
   rw [if_pos g2] at lw2
   obtain ⟨t0, wts', rfl⟩ : ∃ t0 wts', wts = t0 :: wts' := by
    cases wts with
    | nil => simp at lw2; omega
    | cons t0 wts' => exact ⟨t0, wts', rfl⟩
   have hrec : R = if fitP (pv t0) x.s = true then allR (ts.map pv ++ [pv t0]) (gts.map pv) (wts'.map pv) (ls.drop (i + 1)) else none := by rw [← hrec, List.map_cons]; simp only [allR]; rw [if_neg g1, if_pos g2]
   have hws := (hwt.bs (hB.trans (hB4.mono (by omega)))).1
   have ht0 := ((hwt.2 t0 (by simp)).bs (hB.trans (hB4.mono (by omega))))
   simp only [List.length_cons] at lw2
   refine Cw.any mixed (fun w8 hd _ => ?_)
   refine Aw.cls (fun w' => Sl w' 2 wq (t0 :: wts').length (cellsOf (t0 :: wts'))) (fun hC => ?_) ((hws.bs hd))
   have b_n8 := b_n.bs hd
   have b_t8 := b_t.bs hd
   have hB8 := hB4.trans (hd.mono z7)
   have ht8 := ht0.bs hd
   have hws8 := hws.bs hd
   have one0 : [t0.x, t0.y].all (·.oneCell') = true := by rw [List.all_cons, List.all_cons, ht0.1.one', ht0.2.one']; rfl
   refine AwC.take (i := 0) (NoP.blk (NoP.thn (NoP.blk (NoP.thn (NoP.thn (NoP.blk (NoP.thn NoP.ret))))))) rfl (by kernel_rfl) (by kernel_rfl) (by kernel_rfl) (fun w1 hc => Ex.move rfl) rfl <| AwC.take (i := 1) (NoP.blk (NoP.thn (NoP.blk (NoP.thn (NoP.thn (NoP.blk (NoP.thn NoP.ret))))))) rfl (by kernel_rfl) (by kernel_rfl) (by kernel_rfl) (fun w1 hc => Ex.idx st_25 rfl rfl hc 0 rfl (Nat.succ_pos _)) rfl <| AwC.take (i := 2) (NoP.blk (NoP.thn (NoP.blk (NoP.thn (NoP.thn (NoP.blk (NoP.thn NoP.ret))))))) rfl (by kernel_rfl) (by kernel_rfl) (by kernel_rfl) (fun w1 hc => Ex.ldE (cs := [t0.x, t0.y]) (ag_29 _) (sz_29 _) rfl hc rfl (by decide) (ten_cells (ts := t0 :: wts') (j := 0) (Nat.succ_pos _))) rfl <| AwC.take (i := 3) (NoP.blk (NoP.thn (NoP.blk (NoP.thn (NoP.thn (NoP.blk (NoP.thn NoP.ret))))))) rfl (by kernel_rfl) (by kernel_rfl) (by kernel_rfl) (fun w1 hc => Ex.move rfl) rfl <| AwC.take (i := 4) (NoP.blk (NoP.thn (NoP.blk (NoP.thn (NoP.thn (NoP.blk (NoP.thn NoP.ret))))))) rfl (by kernel_rfl) (by kernel_rfl) (by kernel_rfl) (fun w1 hc => Ex.cutLv (i := 1) st_25 rfl rfl hc.shp (Nat.succ_pos _)) rfl <| AwC.only (by assumption) (i := 5) (by kernel_rfl) rfl ?_
   refine Lw.unit (Xu.stA (cs := [t0.x, t0.y]) (k := 2) (by kernel_rfl) rfl rfl rfl one0 b_t8 rfl) ?_
   rintro w9 ⟨b_t9, hg9, hz9⟩
   have hB9 := hB8.grown hg9 hB8.size (by rintro _ e; have := Option.some.inj e; omega)
   have hws9 := ((hwt.bs (hB.trans (hB9.mono (by omega))))).1
   have b_n9 := b_n8.by hg9 (fun e => by have := Option.some.inj e; omega)
   refine AwC.back <| AwC.take (i := 6) (NoP.blk (NoP.thn (NoP.blk (NoP.thn (NoP.thn (NoP.blk (NoP.thn NoP.ret))))))) rfl (by kernel_rfl) (by kernel_rfl) (by kernel_rfl) (fun w1 hc => Ex.assign rfl) rfl <| AwC.done (by assumption) (by kernel_rfl) ?_
   refine Pw.blkN <| Pw.thenN <| Cw.out <| Cw.seq <| Cw.seq <| Cw.region <| Lw.val (Ex.ldA (ag_29 _) (sz_29 _) rfl rfl (by assumption)) rfl ?_
   refine Lw.val (Ex.fieldAddr (q := 0) Tryz.underlying45 rfl (sz_26 _) rfl) rfl <| Lw.val (Ex.ldB (ag_26 _) rfl (by assumption) rfl) rfl ?_
   have hB4 := hB9
   have z8 := hB4.size
   have b_n := b_n9
   have b_t := b_t9
   have ht0 : t0.at w9 := (hwt.2 t0 (by simp)).bs (hB.trans (hB9.mono (by omega)))
   have hxz := hx.bs hB4
   have h_s := hxz.s
   refine Lw.callF rfl rfl (fits_c t0 x.y x.s w9 ht0 h_s) ?_
   rintro _ wy ⟨rfl, hny⟩
   have hB4 := hB4.trans (hny.mono z8)
   have zy := hny.size
   have b_t := b_t.bs hny
   have hBy := hB.trans (hB4.mono (by omega))
   refine Lw.val (Ex.not rfl) rfl <| Lw.nil <| Pw.thenN <| Cw.out <| Cw.cond rfl ?_ ?_
   ·intro gf
    have gf : fitP (pv t0) x.s = false := by
     show (tok t0.s t0.l && decide (t0.s = x.s)) = false
     cases hq : (tok t0.s t0.l && decide (t0.s = x.s)) with
     | false => rfl
     | true => rw [hq] at gf; cases gf
    refine Cw.seq <| Cw.region <| Lw.val (Ex.assign rfl) rfl <| Lw.val (Ex.assign rfl) rfl <| Lw.nil <| Pw.thenN <| Cw.out <| Cw.ret <| Pw.thenR <| Pw.blkR <| Pw.thenR <| Pw.thenR <| Pw.blkR <| Pw.thenR <| Pw.ret2 rfl rfl rfl ?_
    have hN : R = none := by rw [hrec, gf]; rfl
    rw [hN]
    exact ⟨hBy, rfl⟩
   intro gf
   have gf : fitP (pv t0) x.s = true := by
    show (tok t0.s t0.l && decide (t0.s = x.s)) = true
    cases hq : (tok t0.s t0.l && decide (t0.s = x.s)) with
    | true => rfl
    | false => rw [hq] at gf; cases gf
   rw [gf, if_pos rfl] at hrec
   have ktok : tok t0.s t0.l = true := by unfold fitP at gf; rw [Bool.and_eq_true] at gf; exact gf.1
   obtain ⟨kok, klen⟩ := tok_ok ktok
   have ksz := Shapes.size_le t0.s
   refine Cw.skip <| Pw.thenN <| Cw.out <| Cw.region <| Lw.val (Ex.move rfl) rfl <| Lw.val (Ex.ldA (ag_29 _) (sz_29 _) rfl rfl (by assumption)) rfl ?_
   refine Lw.callF rfl rfl (twin_c t0 wy (ht0.bs hny) (by have := (ok_len kok).2; omega) (by omega)) ?_
   rintro _ wx ⟨hnx, cx, cy, rfl, hM⟩
   have zx := hnx.size
   have hB4 := hB4.trans (hnx.mono (by omega))
   have c1 : [cx, cy].all (·.oneCell') = true := by rw [List.all_cons, List.all_cons, hM.row.slT.one', hM.col.slT.one']; rfl
   obtain ⟨c, hc⟩ : ∃ c : T4, c = ⟨cx, cy, t0.s, t0.l⟩ := ⟨_, rfl⟩
   have cpv : pv c = pv t0 := by rw [hc]; rfl
   have cmk : MadeK W wx c.x c.y c.s c.l := by rw [hc]; exact hM.mono (by omega)
   have cc : [cx, cy] = [c.x, c.y] := by rw [hc]
   refine Lw.valW (Xw.litA1 (cs := [cx, cy]) st_25 it_29 rfl rfl (by decide) (by decide)) rfl ?_
   rintro q wv ⟨o_q, -, hnv, -⟩
   rw [cc] at o_q
   have zv := hnv.size
   have hB4 := hB4.trans (hnv.mono (by omega))
   have o_l := own_bs o_l hB4
   have hoff := hoff.bs hB4
   have c1' : [c.x, c.y].all (·.oneCell') = true := by rw [← cc]; exact c1
   refine Lw.valW (Xw.append2 (base := w3.heap.size) st_25 it_29 rfl (by decide) rfl rfl o_l (own_sl o_q) c1' (by omega) (by omega) (by omega)) rfl ?_
   rintro l' wu ⟨o_l', hnu, hgu, -⟩
   have e1 : cellsOf ts ++ [c.x, c.y] = cellsOf (ts ++ [c]) := by rw [cellsOf_app]; rfl
   have hoff2 : madeA W wv (ts ++ [c]) := hoff.snoc (cmk.bs hnv)
   have hoff3 := hoff2.ty hgu (fun b e => own_ty o_l e) (by decide) (by decide)
   have e2 : ts.length + 1 = (ts ++ [c]).length := by rw [List.length_append]; rfl
   rw [e1, e2] at o_l'
   have hB3' := (hB3.trans (hB4.mono z4)).trans hnu
   have epv : (ts ++ [c]).map pv = ts.map pv ++ [pv c] := by rw [List.map_append]; rfl
   refine Lw.val (Ex.assign rfl) rfl <| Lw.nil <| Pw.blkN <| Pw.thenN <| Cw.out <| Cw.region <| Lw.val (Ex.addI rfl rfl (by omega)) rfl <| Lw.val (Ex.move rfl) rfl <| Lw.nil ?_
   exact Pw.thenN (Pw.next ((i + 1, gq, gts, cut wq 2 1 (wts'.length + 1), wts', l', ts ++ [c])) ⟨rfl, rfl, rfl, rfl, rfl, rfl, rfl, trivial⟩ (⟨hi', hB3', hgt, hwt.tail, (show gts.length = inputs (ls.drop (i + 1)) by omega), (show wts'.length = wtsN (ls.drop (i + 1)) by omega), o_l', hoff3, by rw [List.length_append, lts]; rfl, by simp only; rw [epv, cpv]; exact hrec.symm⟩) (by simp only; omega))
  intro g2
  have g2 : ¬ x.k = 2#8 := of_decide_eq_false g2
  rw [if_neg g2] at lw2
  obtain ⟨ins, hins⟩ : ∃ ins : List T4, ins = x.i.map fun j => ts.getD j.toNat default := ⟨_, rfl⟩
  have lins : ins.length = x.i.length := by rw [hins, List.length_map]
  have hnorm : ins.map norm = insP (ts.map pv) x := by
   rw [hins, List.map_map]
   unfold insP
   refine List.map_congr_left fun j hj => ?_
   have hb := hji j hj
   simp only [List.length_nil, Nat.zero_add] at hb
   show norm (ts.getD j.toNat default) = _
   unfold norm
   congr 1
   rw [List.getD_eq_getElem?_getD, List.getD_eq_getElem?_getD, List.getElem?_map, List.getElem?_eq_getElem (by omega)]; rfl
  obtain ⟨dn1, dn2⟩ := do_norm x ins
  rw [hnorm] at dn1 dn2
  have hrec : R = if doE x (insP (ts.map pv) x) = 0 then allR (ts.map pv ++ [(actS x.k x (insP (ts.map pv) x), actL x.k x (insP (ts.map pv) x))]) (gts.map pv) (wts.map pv) (ls.drop (i + 1)) else none := by rw [← hrec]; simp only [allR]; rw [if_neg g1, if_neg g2]
  have hx7 := hx.bs hB4
  have h_i := hx7.i
  have hi4 := kindF_len (gshR_all ls [] ss hgR x (hxd ▸ List.getElem_mem hi'))
  refine Cw.seq <| Cw.region <| Lw.val (Ex.assign rfl) rfl <| Lw.nil <| Pw.thenN <| Cw.out <| Cw.seq <| Cw.seq <| Cw.region <| Lw.val (Ex.fieldAddr (q := 0) Tryz.underlying45 rfl (sz_26 _) rfl) rfl <| Lw.val (Ex.ldB (ag_26 _) rfl (by assumption) rfl) rfl ?_
  refine Lw.val (Ex.lenS st_26 rfl (by assumption)) rfl ?_
  refine Lw.val (Ex.move rfl) rfl <| Lw.nil <| Pw.thenN <| Cw.out <| Cw.block ?_
  refine Cw.loop (S := (Nat × Value)) (fun y => [(6, l), (7, .int .i64 0), (8, gq), (9, wq), (11, .pointer (some ⟨A_n, 0, none⟩)), (12, .pointer (some ⟨A_t, 0, none⟩)), (13, y.2), (31, v), (32, .int .i64 (ls.length : Int)), (33, .int .i64 (i : Int)), (38, x.x), (39, .int .i64 (x.i.length : Int)), (40, .int .i64 (y.1 : Int))]) (fun y w' => y.1 ≤ x.i.length ∧ Below w4.heap.size w4 w' ∧ w7.heap.size ≤ w'.heap.size ∧ Blk w' A_n 45 x.cells ∧ Blk w' A_t tenT [.slice none 0 0, .slice none 0 0] ∧ w'.ownsRow w7.heap.size tenT 2 y.2 y.1 (cellsOf (ins.take y.1))) (fun y => x.i.length - y.1) ((0, .slice none 0 0)) ⟨rfl, rfl, rfl, rfl, rfl, rfl, rfl, rfl, rfl, rfl, rfl, rfl, rfl, trivial⟩ ?_ ?_
  ·exact ⟨Nat.zero_le _, hB4, Nat.le_refl _, b_n, b_t, ⟨rfl, .inl ⟨rfl, rfl⟩⟩⟩
  clear b_n b_t h_i hx7
  rintro ⟨j, iq⟩ w8 ⟨hj, hB4, z78, b_n, b_t, o_q⟩
  dsimp only at hj hB4 z78 b_n b_t o_q ⊢
  have h_i := (hx.bs hB4).i
  have o_l8 := own_bs o_l hB4
  have sl_l8 := own_sl o_l8
  have z8 := hB4.size
  refine Cw.seq <| Cw.region <| Lw.val (Ex.lss rfl rfl) rfl <| Lw.nil <| Pw.thenN <| Cw.out <| Cw.seq <| Cw.cond rfl ?_ ?_
  ·intro gj
   have hj' : j < x.i.length := by have := of_decide_eq_true gj; omega
   obtain ⟨k, hk⟩ : ∃ k, k = x.i.getD j default := ⟨_, rfl⟩
   have hkm : k ∈ x.i := by rw [hk]; exact getD_mem hj'
   have hkb := hji k hkm
   simp only [List.length_nil, Nat.zero_add] at hkb
   have hkl : k.toNat < ts.length := by omega
   obtain ⟨q, hq⟩ : ∃ q, q = ts[k.toNat] := ⟨_, rfl⟩
   have hqm : q ∈ ts := by rw [hq]; exact List.getElem_mem hkl
   have hqat := ((hoff.bs hB4) q hqm).at
   have hqc := ten_cells hkl
   rw [← hq] at hqc
   have einq : ins[j]'(by omega) = q := by
    simp only [hins, List.getElem_map]
    have ek : x.i[j] = k := by rw [hk, List.getD_eq_getElem?_getD, List.getElem?_eq_getElem hj']; rfl
    rw [ek, hq, List.getD_eq_getElem?_getD, List.getElem?_eq_getElem hkl]; rfl
   have one1 : [q.x, q.y].all (·.oneCell') = true := by rw [List.all_cons, List.all_cons, hqat.1.one', hqat.2.one']; rfl
   refine Cw.skip <| Pw.thenN <| Cw.out <| Cw.seq <| Cw.block <| Cw.seq <| Cw.region <| Lw.val (Ex.idxT st_26 rfl rfl (by assumption) _ rfl (by omega)) rfl ?_
   refine Lw.val (Ex.as (Ex.ldT (ag_3 _) rfl h_i hj') (congrArg (Value.int .i64) hk.symm)) rfl <| Lw.val (Ex.assign rfl) rfl <| Lw.nil <| Pw.thenN <| Cw.out <| Cw.region <| Lw.val (Ex.move rfl) rfl <| Lw.val (Ex.move rfl) rfl <| Lw.val (Ex.move rfl) rfl <| Lw.val (Ex.idx st_25 rfl rfl sl_l8 k.toNat (show k = ((k.toNat : Nat) : Int) by omega) hkl) rfl <| Lw.val (Ex.ldE (cs := [q.x, q.y]) (ag_29 _) (sz_29 _) rfl sl_l8 rfl (by decide) hqc) rfl <| Lw.valW (Xw.litA1 (cs := [q.x, q.y]) st_25 it_29 rfl rfl (by decide) (by decide)) rfl ?_
   rintro lq w9 ⟨o_lq, -, hn9, -⟩
   have o_q := own_bs o_q hn9
   have z9 := hn9.size
   refine Lw.valW (Xw.append2 (base := w7.heap.size) st_25 it_29 rfl (by decide) rfl rfl o_q (own_sl o_lq) one1 (by omega) (by omega) (by omega)) rfl ?_
   rintro iq' w10 ⟨o_q', hn10, -, -⟩
   have e1 : cellsOf (ins.take j) ++ [q.x, q.y] = cellsOf (ins.take (j + 1)) := by
    rw [List.take_succ_eq_append_getElem (by omega), cellsOf_app, einq]; rfl
   rw [e1] at o_q'
   have b_n := (b_n.bs hn9).bl hn10 (by omega)
   have b_t := (b_t.bs hn9).bl hn10 (by omega)
   refine Lw.val (Ex.assign rfl) rfl <| Lw.nil <| Pw.blkN <| Pw.thenN <| Cw.out <| Cw.region <| Lw.val (Ex.addI rfl rfl (by omega)) rfl <| Lw.val (Ex.move rfl) rfl <| Lw.nil ?_
   exact Pw.thenN (Pw.next ((j + 1, iq')) ⟨rfl, rfl, rfl, rfl, rfl, rfl, rfl, rfl, rfl, rfl, rfl, rfl, rfl, trivial⟩ (⟨hj', (hB4.trans (hn9.mono z8)).trans (hn10.mono z7), by have := hn10.size; omega, b_n, b_t, o_q'⟩) (by simp only; omega))
  intro gj
  have hj' : j = x.i.length := by have := of_decide_eq_false gj; omega
  subst hj'
  rw [← lins, List.take_length] at o_q
  have hT : Tens w8 iq ins := ⟨own_sl o_q, fun q hq => by
   rw [hins] at hq
   obtain ⟨k, hk, rfl⟩ := List.mem_map.1 hq
   have hkb := hji k hk
   simp only [List.length_nil, Nat.zero_add] at hkb
   have hkl : k.toNat < ts.length := by omega
   have e : ts.getD k.toNat default = ts[k.toNat] := by rw [List.getD_eq_getElem?_getD, List.getElem?_eq_getElem hkl]; rfl
   rw [e]
   exact ((hoff.bs hB4) _ (List.getElem_mem hkl)).at⟩
  refine Cw.exit <| Pw.thenE <| Pw.thenE <| Pw.blkHit <| Pw.thenN <| Cw.out <| Cw.seq <| Cw.seq <| Cw.region <| Lw.val (Ex.ldA (ag_45 _) (sz_45 _) rfl rfl (by assumption)) rfl ?_
  refine Lw.val (Ex.move rfl) rfl <| Lw.callF rfl rfl (do_c x iq ins w8 (hx.bs hB4) hT) ?_
  rintro _ w9 ⟨hn9, c, rfl, hcat, hcno, hcyes⟩
  have z9 := hn9.size
  have hB4 := hB4.trans (hn9.mono z8)
  have b_n := b_n.bs hn9
  have b_t := b_t.bs hn9
  have c1 : [c.x, c.y].all (·.oneCell') = true := by rw [List.all_cons, List.all_cons, hcat.1.one', hcat.2.one']; rfl
  have b_t9 := b_t
  refine Lw.val (Ex.move rfl) rfl <| Lw.val (Ex.extract (i := 0) rfl rfl) rfl <| Lw.val (Ex.extract (i := 1) rfl rfl) rfl <| Lw.unit (Xu.stA (cs := [c.x, c.y]) (k := 2) (by kernel_rfl) rfl rfl rfl c1 b_t rfl) ?_
  rintro w10 ⟨b_t, hg10, hz10⟩
  have hB4 := hB4.grown hg10 hB4.size (by rintro _ e; have := Option.some.inj e; omega)
  have hB10 := hB.trans (hB4.mono (by omega))
  refine Lw.val (Ex.assign rfl) rfl <| Lw.nil <| Pw.thenN <| Cw.out <| Cw.seq <| Cw.region <| Lw.val (Ex.move rfl) rfl <| Lw.val (Ex.neq rfl rfl) rfl <| Lw.nil <| Pw.thenN <| Cw.out <| Cw.cond rfl ?_ ?_
  ·intro ge
   have ge : ¬ doE x ins = 0 := by simpa using ge
   refine Cw.seq <| Cw.region <| Lw.val (Ex.assign rfl) rfl <| Lw.val (Ex.assign rfl) rfl <| Lw.nil <| Pw.thenN <| Cw.out <| Cw.ret <| Pw.thenR <| Pw.blkR <| Pw.thenR <| Pw.blkR <| Pw.thenR <| Pw.thenR <| Pw.blkR <| Pw.thenR <| Pw.ret2 rfl rfl rfl ?_
   have hN : R = none := by rw [hrec, if_neg (by rw [dn1]; exact ge)]
   rw [hN]
   exact ⟨hB10, rfl⟩
  intro ge
  have ge : doE x ins = 0 := by simpa using ge
  obtain ⟨cs1, cl1, hM⟩ := hcyes ge
  rw [if_pos (by rw [dn1]; exact ge)] at hrec
  obtain ⟨es1, el1⟩ := dn2 ge
  have cpv : pv c = (actS x.k x (insP (ts.map pv) x), actL x.k x (insP (ts.map pv) x)) := by rw [es1, el1]; unfold pv; rw [cs1, cl1]
  rw [← cpv] at hrec
  have cmk : MadeK W w10 c.x c.y c.s c.l := by
   rw [cs1, cl1]
   have hm : MadeK W w9 c.x c.y (actS x.k x ins) (actL x.k x ins) := hM.mono (by omega)
   exact hm.ty hg10 (fun b e => by cases e; exact ⟨_, b_t9⟩) (by decide) (by decide)
  obtain ⟨cx, hcx⟩ : ∃ cx, cx = c.x := ⟨_, rfl⟩
  obtain ⟨cy, hcy⟩ : ∃ cy, cy = c.y := ⟨_, rfl⟩
  have cc : [cx, cy] = [c.x, c.y] := by rw [hcx, hcy]
  rw [← cc] at c1 b_t
  refine Cw.skip <| Pw.thenN <| Cw.out <| Cw.seq <| Cw.region <| Lw.val (Ex.move rfl) rfl <| Lw.val (Ex.ldA (ag_29 _) (sz_29 _) rfl rfl (by assumption)) rfl ?_
  refine Lw.valW (Xw.litA1 (cs := [cx, cy]) st_25 it_29 rfl rfl (by decide) (by decide)) rfl ?_
  rintro q wv ⟨o_q, -, hnv, -⟩
  rw [cc] at o_q
  have zv := hnv.size
  have hB4 := hB4.trans (hnv.mono (by omega))
  have o_l := own_bs o_l hB4
  have hoff := hoff.bs hB4
  have c1' : [c.x, c.y].all (·.oneCell') = true := by rw [← cc]; exact c1
  refine Lw.valW (Xw.append2 (base := w3.heap.size) st_25 it_29 rfl (by decide) rfl rfl o_l (own_sl o_q) c1' (by omega) (by omega) (by omega)) rfl ?_
  rintro l' wu ⟨o_l', hnu, hgu, -⟩
  have e1 : cellsOf ts ++ [c.x, c.y] = cellsOf (ts ++ [c]) := by rw [cellsOf_app]; rfl
  have hoff2 : madeA W wv (ts ++ [c]) := hoff.snoc (cmk.bs hnv)
  have hoff3 := hoff2.ty hgu (fun b e => own_ty o_l e) (by decide) (by decide)
  have e2 : ts.length + 1 = (ts ++ [c]).length := by rw [List.length_append]; rfl
  rw [e1, e2] at o_l'
  have hB3' := (hB3.trans (hB4.mono z4)).trans hnu
  have epv : (ts ++ [c]).map pv = ts.map pv ++ [pv c] := by rw [List.map_append]; rfl
  refine Lw.val (Ex.assign rfl) rfl <| Lw.nil <| Pw.thenN <| Cw.out <| Cw.exit <| Pw.blkE rfl <| Pw.thenE <| Pw.blkHit <| Pw.thenN <| Cw.out <| Cw.region <| Lw.val (Ex.addI rfl rfl (by omega)) rfl <| Lw.val (Ex.move rfl) rfl <| Lw.nil ?_
  exact Pw.thenN (Pw.next ((i + 1, gq, gts, wq, wts, l', ts ++ [c])) ⟨rfl, (congrArg (fun z => some (Value.int .i64 z)) ge), rfl, rfl, rfl, rfl, rfl, trivial⟩ (⟨hi', hB3', hgt, hwt, (show gts.length = inputs (ls.drop (i + 1)) by omega), (show wts.length = wtsN (ls.drop (i + 1)) by omega), o_l', hoff3, by rw [List.length_append, lts]; rfl, by simp only; rw [epv]; exact hrec.symm⟩) (by simp only; omega))
 intro gi
 have hi' : i = ls.length := by have := of_decide_eq_false gi; omega
 subst hi'
 rw [List.drop_length] at hrec
 have hR2 : R = some (ts.map pv) := by rw [← hrec]; rfl
 refine Cw.exit <| Pw.thenE <| Pw.thenE <| Pw.blkHit <| Pw.thenN <| Cw.out <| Cw.seq <| Cw.region <| Lw.val (Ex.move rfl) rfl <| Lw.callF rfl rfl (clipTs_c l ts w4 (own_sl o_l)) ?_
 rintro _ w5 ⟨rfl, hn5⟩
 refine Lw.val (Ex.assign rfl) rfl <| Lw.val (Ex.assign rfl) rfl <| Lw.nil <| Pw.thenN <| Cw.out <| Cw.ret <| Pw.ret2 rfl rfl rfl ?_
 rw [hR2]
 exact ⟨hB.trans (hn5.mono (by omega)), _, ts, rfl, ⟨(Sl.clip (own_sl o_l)).bs hn5, fun q hq => (hoff q hq).at.bs hn5⟩, hoff.bs hn5, rfl⟩
theorem allR_len : ∀ (l : List N5) (acc gv ws vs : List PV), allR acc gv ws l = some vs → vs.length = acc.length + l.length
 | [], acc, gv, ws, vs, h => by cases h; simp
 | x :: l, acc, gv, ws, vs, h => by
  unfold allR at h
  split at h
  ·split at h
   ·split at h
    ·have := allR_len l _ _ _ _ h; simp only [List.length_append, List.length_cons, List.length_nil] at this ⊢; omega
    ·cases h
   ·cases h
  ·split at h
   ·split at h
    ·split at h
     ·have := allR_len l _ _ _ _ h; simp only [List.length_append, List.length_cons, List.length_nil] at this ⊢; omega
     ·cases h
    ·cases h
   ·split at h
    ·have := allR_len l _ _ _ _ h; simp only [List.length_append, List.length_cons, List.length_nil] at this ⊢; omega
    ·cases h
theorem allG_some {ls : List N5} {ws vs : List PV} {t : PV} (h : allG ls ws t = some vs) : (∃ ss, gsh ls = some ss) ∧ ws.length = wtsN ls ∧ allR [] [t] ws ls = some vs ∧ vs.length = ls.length := by
 unfold allG at h
 split at h
 ·rename_i hc
  simp only [Bool.and_eq_true, decide_eq_true_eq] at hc
  refine ⟨Option.isSome_iff_exists.1 hc.1, hc.2, h, ?_⟩
  have := allR_len _ _ _ _ _ h
  simpa using this
 ·cases h
def lastV (vs : List PV) : PV := vs.getD (vs.length - 1) ([], [])
theorem run_c (v : Value) (ls : List N5) (u : Value) (ws : List T4) (t : T4) (W : World) (h : GN W v ls) (hw : Tens W u ws) (ht : t.at W) :
  Fnc Tryz.prog 11 [.agg [v].toArray, u, t.v] W (fun r w' => Below W.heap.size W w' ∧ match allG ls (ws.map pv) (pv t) with
   | none => r = .tuple #[.agg #[.slice none 0 0, .slice none 0 0], .int .i64 1]
   | some vs => ∃ c : T4, r = .tuple #[c.v, .int .i64 0] ∧ MadeK W w' c.x c.y c.s c.l ∧ pv c = lastV vs) := by
 have hB := Below.refl W.heap.size W
 obtain ⟨R, hR⟩ : ∃ R, R = allG ls (ws.map pv) (pv t) := ⟨_, rfl⟩
 rw [← hR]
 refine Fnc.enter (n := 27) Tryz.func11 (by kernel_rfl) rfl rfl rfl <| Cw.seq <| Cw.region <| Lw.boxV (cs := [v]) rfl rfl rfl ?_
 rintro A_g w eA_g b_g hn -
 replace hB := hB.bs hn
 clear hn
 have yg := blk_lt b_g
 refine Lw.boxV (cs := [t.x, t.y]) rfl rfl rfl ?_
 rintro A_in w eA_in b_in hn -
 replace hB := hB.bs hn
 replace b_g := b_g.bs hn
 clear hn
 have yi := blk_lt b_in
 refine Lw.newA it_29 rfl ?_
 rintro A_r w eA_r b_r hn -
 replace hB := hB.bs hn
 replace b_g := b_g.bs hn
 replace b_in := b_in.bs hn
 clear hn
 refine Lw.val (Ex.assign rfl) rfl <| Lw.nil <| Pw.thenN <| Cw.out <| Cw.seq <| Cw.region <| Lw.val (Ex.ldA (ag_24 _) (sz_24 _) rfl rfl (by assumption)) rfl ?_
 refine Lw.val (Ex.move rfl) rfl <| Lw.val (Ex.ldA (ag_29 _) (sz_29 _) rfl rfl (by assumption)) rfl ?_
 have z0 := below_size hB
 have yr := blk_lt b_r
 refine Lw.callF rfl rfl (all_c v ls u ws t w (h.bs hB) (hw.bs hB) (ht.bs hB)) ?_
 rintro r w1 ⟨hn1, hr⟩
 rw [← hR] at hr
 have b_r := b_r.bs hn1
 have z1 := hn1.size
 have hB1 := hB.trans (hn1.mono z0)
 cases eR : R with
 | none =>
  rw [eR] at hr
  obtain rfl := hr
  refine Lw.val (Ex.move rfl) rfl <| Lw.val (Ex.extract (i := 0) rfl rfl) rfl <| Lw.val (Ex.extract (i := 1) rfl rfl) rfl <| Lw.val (Ex.assign rfl) rfl <| Lw.val (Ex.assign rfl) rfl <| Lw.nil <| Pw.thenN <| Cw.out <| Cw.seq <| Cw.seq <| Cw.region <| Lw.val (Ex.move rfl) rfl <| Lw.val (Ex.neq rfl rfl) rfl <| Lw.nil <| Pw.thenN <| Cw.out <| Cw.condB rfl true (rfl) <| Cw.seq <| Cw.region <| Lw.val (Ex.build (vs := []) (cs := [.slice none 0 0, .slice none 0 0]) rfl (by kernel_rfl)) rfl <| Lw.val (Ex.move rfl) rfl <| Lw.unit (Xu.stA (cs := [.slice none 0 0, .slice none 0 0]) (k := 2) (by kernel_rfl) rfl rfl rfl rfl b_r rfl) ?_
  rintro w2 ⟨b_r, hg, hz⟩
  have hB2 := hB1.grown hg (by omega) (by rintro _ e; have := Option.some.inj e; omega)
  refine Lw.val (Ex.assign rfl) rfl <| Lw.nil <| Pw.thenN <| Cw.out <| Cw.ret <| Pw.thenR <| Pw.retCT rfl rfl rfl (by assumption) (Tryz.underlying29) rfl rfl rfl ?_
  exact ⟨hB2, rfl⟩
 | some vs =>
  rw [eR] at hr
  obtain ⟨q, ts, rfl, hT, hM, hv⟩ := hr
  obtain ⟨⟨ss, hss⟩, -, -, hvl⟩ := allG_some (hR.symm.trans eR)
  have lts : ts.length = ls.length := by rw [← hvl, ← hv, List.length_map]
  have hl1 := (gsh_R hss).2.2.1
  have hl32 := (gsh_R hss).2.2.2
  have hlt : ts.length - 1 < ts.length := by omega
  obtain ⟨c, hc⟩ : ∃ c, c = ts[ts.length - 1] := ⟨_, rfl⟩
  have hcm : c ∈ ts := hc ▸ List.getElem_mem hlt
  have hM1 := hM c hcm
  have hcc := ten_cells hlt
  rw [← hc] at hcc
  have c1 : [c.x, c.y].all (·.oneCell') = true := by rw [List.all_cons, List.all_cons, hM1.row.slT.one', hM1.col.slT.one']; rfl
  have hT1 := hT.1
  refine Lw.val (Ex.move rfl) rfl <| Lw.val (Ex.extract (i := 0) rfl rfl) rfl <| Lw.val (Ex.extract (i := 1) rfl rfl) rfl <| Lw.val (Ex.assign rfl) rfl <| Lw.val (Ex.assign rfl) rfl <| Lw.nil <| Pw.thenN <| Cw.out <| Cw.seq <| Cw.seq <| Cw.region <| Lw.val (Ex.move rfl) rfl <| Lw.val (Ex.neq rfl rfl) rfl <| Lw.nil <| Pw.thenN <| Cw.out <| Cw.condB rfl false (rfl) <| Cw.skip <| Pw.thenN <| Cw.out <| Cw.seq <| Cw.region <| Lw.val (Ex.move rfl) rfl <| Lw.val (Ex.move rfl) rfl <| Lw.val (Ex.lenS st_25 rfl (by assumption)) rfl ?_
  refine Lw.val (Ex.as (Ex.subI rfl rfl (by omega)) (congrArg (Value.int .i64) (show (ts.length : Int) - 1 = ((ts.length - 1 : Nat) : Int) by omega))) rfl <| Lw.val (Ex.idx st_25 rfl rfl hT1 (ts.length - 1) rfl hlt) rfl <| Lw.val (Ex.ldE (cs := [c.x, c.y]) (ag_29 _) (sz_29 _) rfl hT1 rfl (by decide) hcc) rfl <| Lw.unit (Xu.stA (cs := [c.x, c.y]) (k := 2) (by kernel_rfl) rfl rfl rfl c1 b_r rfl) ?_
  rintro w2 ⟨b_r2, hg, hz⟩
  have hB2 := hB1.grown hg (by omega) (by rintro _ e; have := Option.some.inj e; omega)
  have hM2 := (hM1.ty hg (fun b e => by cases e; exact ⟨_, b_r⟩) (by decide) (by decide)).mono (W := W) z0
  have hp : pv c = lastV vs := by
   unfold lastV
   rw [← hv, List.length_map, List.getD_eq_getElem?_getD, List.getElem?_map, List.getElem?_eq_getElem hlt, ← hc]; rfl
  refine Lw.val (Ex.assign rfl) rfl <| Lw.nil <| Pw.thenN <| Cw.out <| Cw.ret <| Pw.retCT rfl rfl rfl (by assumption) (Tryz.underlying29) rfl rfl rfl ?_
  exact ⟨hB2, c, rfl, hM2, hp⟩
end Go.Proofs.YtmipoeanpnnjoaaGreat

/-! Contracts: lists of tensors that are the same; how great a node, and tensors, are. -/
namespace Go.Proofs.YtmipoeanpnnjoaaGreat
open Go Go.Dd Go.RowKit
set_option maxRecDepth 100000

theorem sameT_c (a b : T4) (W : World) (h_a : a.at W) (h_b : b.at W) : Fnc Tryz.prog 50 [a.v, b.v] W (fun r w' => r = .bool (decide (pv a = pv b)) ∧ Below W.heap.size W w') := by
 have hB := Below.refl W.heap.size W
 have ep : decide (pv a = pv b) = (decide (a.s = b.s) && decide (a.l = b.l)) := by
  rw [← Bool.decide_and]
  exact decide_eq_decide.2 ⟨fun h => ⟨congrArg (·.1) h, congrArg (·.2) h⟩, fun ⟨h1, h2⟩ => by unfold pv; rw [h1, h2]⟩
 rw [ep]
 refine Fnc.enter (n := 17) Tryz.func50 (by kernel_rfl) rfl rfl rfl <| Cw.seq <| Cw.region <| Lw.boxV (cs := [a.x, a.y]) rfl rfl rfl ?_
 rintro A_a w eA_a b_a hn -
 replace hB := hB.bs hn
 replace h_a := h_a.bs hn
 replace h_b := h_b.bs hn
 clear hn
 refine Lw.boxV (cs := [b.x, b.y]) rfl rfl rfl ?_
 rintro A_b w eA_b b_b hn -
 replace hB := hB.bs hn
 replace h_a := h_a.bs hn
 replace h_b := h_b.bs hn
 replace b_a := b_a.bs hn
 clear hn
 refine Lw.val (Ex.assign rfl) rfl <| Lw.nil <| Pw.thenN <| Cw.out <| Cw.seq <| Cw.region <| Lw.val (Ex.fieldAddr (q := 0) Tryz.underlying29 rfl (sz_26 _) rfl) rfl <| Lw.val (Ex.ldB (ag_26 _) rfl (by assumption) rfl) rfl ?_
 refine Lw.val (Ex.fieldAddr (q := 0) Tryz.underlying29 rfl (sz_26 _) rfl) rfl <| Lw.val (Ex.ldB (ag_26 _) rfl (by assumption) rfl) rfl ?_
 have s_a := h_a.1
 have l_a := h_a.2
 refine Lw.callF rfl rfl (sameInts_c a.x b.x a.s b.s w h_a.1 h_b.1) ?_
 rintro _ w1 ⟨rfl, hn⟩
 have b_a := b_a.bs hn
 have b_b := b_b.bs hn
 have hB := bt hB hn
 have h_a := h_a.bs hn
 have h_b := h_b.bs hn
 refine Lw.val (Ex.move rfl) rfl ?_
 refine Lw.part 10 rfl ?_ ?_
 ·intro g
  refine Lw.take (dj := 10) rfl rfl <| Lw.val (Ex.fieldAddr (q := 0) Tryz.underlying29 rfl (sz_27 _) rfl) rfl <| Lw.take (dj := 10) rfl rfl <| Lw.val (Ex.ldB (ag_27 _) rfl (by assumption) rfl) rfl ?_
  refine Lw.take (dj := 10) rfl rfl <| Lw.val (Ex.fieldAddr (q := 0) Tryz.underlying29 rfl (sz_27 _) rfl) rfl <| Lw.take (dj := 10) rfl rfl <| Lw.val (Ex.ldB (ag_27 _) rfl (by assumption) rfl) rfl ?_
  refine Lw.take (dj := 10) rfl rfl <| Lw.callF rfl rfl (sameNumbers_c a.y b.y a.l b.l w1 h_a.2 h_b.2) ?_
  rintro _ w2 ⟨rfl, hn2⟩
  refine Lw.val (Ex.pickT rfl rfl) rfl <| Lw.val (Ex.assign rfl) rfl <| Lw.nil <| Pw.thenN <| Cw.out <| Cw.ret <| Pw.ret1 rfl rfl ?_
  exact ⟨by rw [g, Bool.true_and], bt hB hn2⟩
 intro g
 refine Lw.pass (dj := 10) rfl rfl rfl rfl <| Lw.pass (dj := 10) rfl rfl rfl rfl <| Lw.pass (dj := 10) rfl rfl rfl rfl <| Lw.pass (dj := 10) rfl rfl rfl rfl <| Lw.pass (dj := 10) rfl rfl rfl rfl <| Lw.val (Ex.pickF rfl rfl) rfl <| Lw.val (Ex.assign rfl) rfl <| Lw.nil <| Pw.thenN <| Cw.out <| Cw.ret <| Pw.ret1 rfl rfl ?_
 exact ⟨by rw [g]; rfl, hB⟩
theorem sameTs_c (u v : Value) (xs ys : List T4) (W : World) (hu : Tens W u xs) (hv : Tens W v ys) : Fnc Tryz.prog 18 [u, v] W (fun r w' => r = .bool (decide (xs.map pv = ys.map pv)) ∧ Below W.heap.size W w') := by
 have su := hu.1
 have sv := hv.1
 have lu := hu.1.le
 refine Fnc.enter (n := 27) Tryz.func18 (by kernel_rfl) rfl rfl rfl <| Cw.seq <| Cw.region <| Lw.val (Ex.assign rfl) rfl <| Lw.nil <| Pw.thenN <| Cw.out <| Cw.seq <| Cw.seq <| Cw.region <| Lw.val (Ex.move rfl) rfl <| Lw.val (Ex.lenS st_25 rfl (by assumption)) rfl ?_
 refine Lw.val (Ex.move rfl) rfl <| Lw.val (Ex.lenS st_25 rfl (by assumption)) rfl ?_
 refine Lw.val (Ex.neq rfl rfl) rfl <| Lw.nil <| Pw.thenN <| Cw.out <| Cw.cond rfl ?_ ?_
 ·intro g
  have g1 : ¬ xs.length = ys.length := fun e => by rw [e] at g; simp at g
  refine Cw.seq <| Cw.region <| Lw.val (Ex.assign rfl) rfl <| Lw.nil <| Pw.thenN <| Cw.out <| Cw.ret <| Pw.thenR <| Pw.ret1 rfl rfl ?_
  exact ⟨by rw [decide_eq_false fun e => g1 (by have := congrArg List.length e; simpa using this)], Below.refl _ _⟩
 intro g
 have g1 : xs.length = ys.length := by simp at g; omega
 refine Cw.skip <| Pw.thenN <| Cw.out <| Cw.seq <| Cw.seq <| Cw.region <| Lw.val (Ex.assign rfl) rfl <| Lw.nil <| Pw.thenN <| Cw.out <| Cw.block ?_
 refine Cw.loop (S := Nat) (fun i => [(0, u), (1, v), (5, .int .i64 (i : Int))]) (fun i w' => i ≤ xs.length ∧ (xs.take i).map pv = (ys.take i).map pv ∧ Below W.heap.size W w') (fun i => xs.length - i) (0) ⟨rfl, rfl, rfl, trivial⟩ ?_ ?_
 ·exact ⟨Nat.zero_le _, rfl, Below.refl _ _⟩
 rintro i w1 ⟨hi, he, hB⟩
 have su := hu.1.bs hB
 have sv := hv.1.bs hB
 refine Cw.seq <| Cw.seq <| Cw.region <| Lw.val (Ex.move rfl) rfl <| Lw.val (Ex.move rfl) rfl <| Lw.val (Ex.lenS st_25 rfl (by assumption)) rfl ?_
 refine Lw.val (Ex.lss rfl rfl) rfl <| Lw.nil <| Pw.thenN <| Cw.out <| Cw.cond rfl ?_ ?_
 ·intro h
  have hi' : i < xs.length := by have := of_decide_eq_true h; omega
  have hi2 : i < ys.length := by omega
  obtain ⟨a, ha⟩ : ∃ a, a = xs[i] := ⟨_, rfl⟩
  obtain ⟨b, hb⟩ : ∃ b, b = ys[i] := ⟨_, rfl⟩
  have ca := ten_cells hi'
  have cb := ten_cells hi2
  rw [← ha] at ca
  rw [← hb] at cb
  have h_a := (hu.2 a (ha ▸ List.getElem_mem hi')).bs hB
  have h_b := (hv.2 b (hb ▸ List.getElem_mem hi2)).bs hB
  have ea : (xs.take (i + 1)).map pv = (xs.take i).map pv ++ [pv a] := by rw [List.take_succ_eq_append_getElem hi', List.map_append, ← ha]; rfl
  have eb : (ys.take (i + 1)).map pv = (ys.take i).map pv ++ [pv b] := by rw [List.take_succ_eq_append_getElem hi2, List.map_append, ← hb]; rfl
  refine Cw.skip <| Pw.thenN <| Cw.out <| Cw.seq <| Cw.block <| Cw.seq ?_
  refine Cw.any mixed (fun w2 hd _ => ?_)
  refine Aw.cls (fun w' => Below w1.heap.size w1 w') (fun hC => ?_) (hd)
  refine AwC.take (i := 0) (NoP.thn (NoP.blk (NoP.thn (NoP.thn (NoP.blk (NoP.thn NoP.ret)))))) rfl (by kernel_rfl) (by kernel_rfl) (by kernel_rfl) (fun w1 hc => Ex.move rfl) rfl <| AwC.take (i := 1) (NoP.thn (NoP.blk (NoP.thn (NoP.thn (NoP.blk (NoP.thn NoP.ret)))))) rfl (by kernel_rfl) (by kernel_rfl) (by kernel_rfl) (fun w1 hc => Ex.move rfl) rfl <| AwC.take (i := 2) (NoP.thn (NoP.blk (NoP.thn (NoP.thn (NoP.blk (NoP.thn NoP.ret)))))) rfl (by kernel_rfl) (by kernel_rfl) (by kernel_rfl) (fun w1 hc => Ex.idx st_25 rfl rfl (su.bs hc) i rfl hi') rfl <| AwC.take (i := 3) (NoP.thn (NoP.blk (NoP.thn (NoP.thn (NoP.blk (NoP.thn NoP.ret)))))) rfl (by kernel_rfl) (by kernel_rfl) (by kernel_rfl) (fun w1 hc => Ex.ldE (cs := [a.x, a.y]) (ag_29 _) (sz_29 _) rfl (su.bs hc) rfl (by decide) ca) rfl <| AwC.take (i := 4) (NoP.thn (NoP.blk (NoP.thn (NoP.thn (NoP.blk (NoP.thn NoP.ret)))))) rfl (by kernel_rfl) (by kernel_rfl) (by kernel_rfl) (fun w1 hc => Ex.move rfl) rfl <| AwC.take (i := 5) (NoP.thn (NoP.blk (NoP.thn (NoP.thn (NoP.blk (NoP.thn NoP.ret)))))) rfl (by kernel_rfl) (by kernel_rfl) (by kernel_rfl) (fun w1 hc => Ex.move rfl) rfl <| AwC.take (i := 6) (NoP.thn (NoP.blk (NoP.thn (NoP.thn (NoP.blk (NoP.thn NoP.ret)))))) rfl (by kernel_rfl) (by kernel_rfl) (by kernel_rfl) (fun w1 hc => Ex.idx st_25 rfl rfl (sv.bs hc) i rfl hi2) rfl ?_
  refine AwC.take (i := 7) (NoP.thn (NoP.blk (NoP.thn (NoP.thn (NoP.blk (NoP.thn NoP.ret)))))) rfl (by kernel_rfl) (by kernel_rfl) (by kernel_rfl) (fun w1 hc => Ex.ldE (cs := [b.x, b.y]) (ag_29 _) (sz_29 _) rfl (sv.bs hc) rfl (by decide) cb) rfl <| AwC.only (by assumption) (i := 8) (by kernel_rfl) rfl ?_
  refine Lw.callF rfl rfl (sameT_c a b w2 (h_a.bs hd) (h_b.bs hd)) ?_
  rintro _ w3 ⟨rfl, hn⟩
  have hd3 : Below w1.heap.size w1 w3 := hd.trans (hn.mono hd.size)
  have hB3 := hB.trans (hd3.mono (below_size hB))
  refine AwC.back <| AwC.take (i := 9) (NoP.thn (NoP.blk (NoP.thn (NoP.thn (NoP.blk (NoP.thn NoP.ret)))))) rfl (by kernel_rfl) (by kernel_rfl) (by kernel_rfl) (fun w1 hc => Ex.not rfl) rfl <| AwC.done (by assumption) (by kernel_rfl) ?_
  refine Pw.thenN <| Cw.out <| Cw.cond rfl ?_ ?_
  ·intro g2
   have g2 : ¬ pv a = pv b := by simpa using g2
   refine Cw.seq <| Cw.region <| Lw.val (Ex.assign rfl) rfl <| Lw.nil <| Pw.thenN <| Cw.out <| Cw.ret <| Pw.blkR <| Pw.thenR <| Pw.thenR <| Pw.blkR <| Pw.thenR <| Pw.ret1 rfl rfl ?_
   refine ⟨?_, hB3⟩
   rw [decide_eq_false fun e => g2 ?_]
   have h1 : (xs.map pv)[i]? = some (pv a) := by rw [List.getElem?_map, List.getElem?_eq_getElem hi', ← ha]; rfl
   have h2 : (ys.map pv)[i]? = some (pv b) := by rw [List.getElem?_map, List.getElem?_eq_getElem hi2, ← hb]; rfl
   rw [e, h2] at h1
   exact (Option.some.inj h1).symm
  intro g2
  have g2 : pv a = pv b := by simpa using g2
  refine Cw.skip <| Pw.blkN <| Pw.thenN <| Cw.out <| Cw.region <| Lw.val (Ex.move rfl) rfl <| Lw.val (Ex.addI rfl rfl (by omega)) rfl <| Lw.val (Ex.assign rfl) rfl <| Lw.nil ?_
  exact Pw.thenN (Pw.next (i + 1) ⟨rfl, rfl, rfl, trivial⟩ (⟨hi', by rw [ea, eb, he, g2], hB3⟩) (by omega))
 intro h
 have hi' : i = xs.length := by have := of_decide_eq_false h; omega
 subst hi'
 have e2 : ys.take xs.length = ys := by rw [g1, List.take_length]
 rw [List.take_length, e2] at he
 refine Cw.exit <| Pw.thenE <| Pw.thenE <| Pw.blkHit <| Pw.thenN <| Cw.out <| Cw.seq <| Cw.region <| Lw.val (Ex.assign rfl) rfl <| Lw.nil <| Pw.thenN <| Cw.out <| Cw.ret <| Pw.ret1 rfl rfl ?_
 exact ⟨by rw [decide_eq_true he], hB⟩
end Go.Proofs.YtmipoeanpnnjoaaGreat

/-! Plain law: what a node comes to may be, and has the shape that the graph tells. -/
namespace Go.Proofs.YtmipoeanpnnjoaaGreat
open Go Go.Dd Go.RowKit
set_option maxRecDepth 100000

theorem dRow_kind : ∀ k : BitVec 8, (dRow k.toNat).isSome = true → (k = 3#8 ∨ k = 4#8 ∨ k = 5#8 ∨ k = 6#8 ∨ k = 7#8 ∨ k = 8#8 ∨ k = 9#8 ∨ k = 10#8 ∨ k = 11#8 ∨ k = 12#8 ∨ k = 13#8) := by decide +kernel
theorem tok_rng {S : List Int} {f : Nat → BitVec 32} (h : Shapes.ok S = true) : tok S ((List.range (Shapes.size S).toNat).map f) = true := by
 unfold tok
 rw [h, Bool.true_and, List.length_map, List.length_range, decide_eq_true_iff]
 have := Shapes.size_ok h
 have := (Shapes.ok_iff S).1 h
 have h2 : 0 < Shapes.size S := of_decide_eq_true h
 omega
structure ShO (x : N5) (ts : List T4) : Prop where
 toks : ∀ t ∈ ts, tok t.s t.l = true
 tok : tok (actS x.k x ts) (actL x.k x ts) = true
 sh : gshN x.k x.s x.n x.p (ts.map (·.s)) = actS x.k x ts
theorem shO_mk {x : N5} {ts : List T4} {k : BitVec 8} (S : List Int) (L : List (BitVec 32)) (hk : x.k = k) (ht : ∀ t ∈ ts, Proofs.YtmipoeanpnnjoaaGreat.tok t.s t.l = true) (hS : actS k x ts = S) (hL : actL k x ts = L) (hG : gshN k x.s x.n x.p (ts.map (·.s)) = S) (h : Proofs.YtmipoeanpnnjoaaGreat.tok S L = true) : ShO x ts :=
 ⟨ht, by rw [hk, hS, hL]; exact h, by rw [hk, hG, hS]⟩
theorem all1 {a : T4} (h : tok a.s a.l = true) : ∀ t ∈ [a], tok t.s t.l = true := fun t ht => by rw [List.mem_singleton.1 ht]; exact h
theorem all2 {a b : T4} (h : tok a.s a.l = true) (g : tok b.s b.l = true) : ∀ t ∈ [a, b], tok t.s t.l = true := fun t ht => by
 rcases List.mem_cons.1 ht with rfl | ht
 ·exact h
 ·rw [List.mem_singleton.1 ht]; exact g
theorem e2_0 {s t : List Int} {l m : List (BitVec 32)} (h : e2 s l t m = 0) : tok s l = true ∧ tok t m = true ∧ t = s := by
 unfold e2 at h
 split at h
 ·rename_i hc
  rw [Bool.and_eq_true] at hc
  split at h
  ·exact ⟨hc.1, hc.2, by assumption⟩
  ·cases h
 ·cases h
theorem e1_0 {s : List Int} {l : List (BitVec 32)} (h : e1 s l = 0) : tok s l = true := by
 unfold e1 at h
 split at h
 ·assumption
 ·cases h
theorem sh_two {x : N5} {a b : T4} (hk : x.k = 3#8 ∨ x.k = 4#8) (e : e2 a.s a.l b.s b.l = 0) : ShO x [a, b] := by
  obtain ⟨h1, h2, h3⟩ := e2_0 e
  rcases hk with hk | hk
  · exact shO_mk a.s (z2 (· + ·) a.s a.l b.l) hk (all2 h1 h2) rfl rfl (by show (if a.s = b.s then a.s else []) = a.s; rw [h3, if_pos rfl]) (tok_rng (tok_ok h1).1)
  · exact shO_mk a.s (z2 (· * ·) a.s a.l b.l) hk (all2 h1 h2) rfl rfl (by show (if a.s = b.s then a.s else []) = a.s; rw [h3, if_pos rfl]) (tok_rng (tok_ok h1).1)
theorem sh_relu {x : N5} {a : T4} (hk : x.k = 5#8) (e : e1 a.s a.l = 0) : ShO x [a] :=
 shO_mk a.s (z1 reluB a.s a.l) hk (all1 (e1_0 e)) rfl rfl rfl (tok_rng (tok_ok (e1_0 e)).1)
theorem sh_shift {x : N5} {a : T4} (hk : x.k = 6#8) (e : eSh a.s a.l x.n = 0) : ShO x [a] := by
 have h : tok a.s a.l = true := by
  unfold eSh at e
  split at e
  ·cases e
  ·exact e1_0 e
 exact shO_mk a.s (z1 (shB x.n.toNat) a.s a.l) hk (all1 h) rfl rfl rfl (tok_rng (tok_ok h).1)
theorem sh_prod {x : N5} {a b : T4} (hk : x.k = 7#8) (e : prdE a b = 0) : ShO x [a, b] := by
 unfold prdE at e
 split at e
 ·rename_i hc
  rw [Bool.and_eq_true] at hc
  obtain ⟨h1, h2⟩ := hc
  have ha := (tok_ok h1).1
  have hb := (tok_ok h2).1
  have e0 := e
  unfold pshE at e
  rw [ha, hb, Bool.and_self, if_pos rfl] at e
  split at e
  ·rename_i hl
   have d0 := ok_dims ha (i := 0) (by omega)
   have d1 := ok_dims hb (i := 1) (by omega)
   have hp : a.s.getD 0 default * b.s.getD 1 default ≤ 4096 := by
    have := Int.mul_le_mul d0.2 d1.2 (by omega) (by omega)
    omega
   have ok := two_ok d0 d1 hp
   refine shO_mk [a.s.getD 0 default, b.s.getD 1 default] (prdL a b) hk (all2 h1 h2) rfl rfl (by show (if pshE a.s b.s = 0 then _ else _) = _; rw [if_pos e0]; rfl) ?_
   unfold tok
   rw [ok, Bool.true_and, decide_eq_true_iff, size_two ok rfl]
   show ((prdL a b).length : Int) = a.s.getD 0 default * b.s.getD 1 default
   unfold prdL
   rw [prd_length]
   rw [Int.natCast_mul, Int.toNat_of_nonneg (by omega), Int.toNat_of_nonneg (by omega)]
  ·cases e
 ·cases e
theorem sh_win {x : N5} {a b : T4} (hk : x.k = 8#8) (e : wofE a b x.n x.p = 0) : ShO x [a, b] := by
 unfold wofE at e
 split at e
 ·rename_i hc
  rw [Bool.and_eq_true] at hc
  have ok : Shapes.ok (wshS a.s b.s x.n x.p) = true := by
   have e := e
   unfold wshE at e
   split at e
   ·cases e
   ·split at e
    ·rename_i h; rw [Bool.and_eq_true] at h; exact h.2
    ·cases e
  exact shO_mk _ _ hk (all2 hc.1 hc.2) rfl rfl (by show (if wshE a.s b.s x.n x.p = 0 then _ else _) = _; rw [if_pos e]; rfl) (tok_rng ok)
 ·cases e
theorem sh_pool {x : N5} {a : T4} (hk : x.k = 9#8) (e : wpoE a x.n = 0) : ShO x [a] := by
 unfold wpoE at e
 split at e
 ·rename_i hc
  exact shO_mk _ _ hk (all1 hc) rfl rfl (by show (if poolE a.s x.n = 0 then _ else _) = _; rw [if_pos e]; rfl) (tok_rng (pool_ok hc e).ok)
 ·cases e
theorem sh_shape {x : N5} {a : T4} (hk : x.k = 10#8) (e : mvE a x.s = 0) : ShO x [a] := by
 unfold mvE at e
 split at e
 ·rename_i hc
  rw [Bool.and_eq_true] at hc
  split at e
  ·rename_i hs
   have hl := (tok_ok hc.1).2
   have h0 : 0 < Shapes.size a.s := of_decide_eq_true (tok_ok hc.1).1
   exact shO_mk x.s a.l hk (all1 hc.1) rfl rfl (by show (if Shapes.size a.s = Shapes.size x.s then _ else _) = _; rw [if_pos (by omega)]) (by unfold tok; rw [hc.2, Bool.true_and, decide_eq_true_iff]; exact hs.symm)
  ·cases e
 ·cases e
theorem sh_turn {x : N5} {a : T4} (hk : x.k = 11#8) (e : tnE a x.s = 0) : ShO x [a] := by
 unfold tnE at e
 split at e
 ·rename_i hc
  simp only [Bool.and_eq_true, decide_eq_true_eq] at hc
  exact shO_mk _ _ hk (all1 hc.1.1) rfl rfl (by show trnG a.s x.s = _; unfold trnG; rw [if_pos hc.1.2.symm]; rfl) (tok_rng (turn_ok (tok_ok hc.1.1).1 hc.2 hc.1.2))
 ·cases e
theorem sh_sum {x : N5} {a : T4} (hk : x.k = 13#8) (e : suE a x.n = 0) : ShO x [a] := by
 unfold suE at e
 split at e
 ·rename_i hc
  simp only [Bool.and_eq_true, decide_eq_true_eq] at hc
  obtain ⟨⟨h1, h2⟩, h3⟩ := hc
  have hn : x.n.toNat < a.s.length := by omega
  refine shO_mk (without a.s x.n.toNat) (suL a.s a.l x.n.toNat) hk (all1 h1) rfl rfl ?_ (tok_rng (without_ok (tok_ok h1).1 hn))
  show woG a.s x.n = without a.s x.n.toNat
  unfold woG without
  rw [if_neg (by omega)]
  split
  ·rfl
  ·rw [List.eraseIdx_eq_take_drop_succ]
 ·cases e
theorem alk_at {a b : List Int} {k : Nat} (h : alk a b k = true) : a.length = b.length ∧ ∀ m, m ≠ k → a.getD m default = b.getD m default := by
 simp only [alk, Bool.and_eq_true, decide_eq_true_eq] at h
 obtain ⟨⟨h1, h2⟩, h3⟩ := h
 refine ⟨h1, fun m hm => ?_⟩
 rw [List.getD_eq_getElem?_getD, List.getD_eq_getElem?_getD]
 by_cases e : m < k
 ·have := congrArg (fun l : List Int => l[m]?) h2
  simp only [List.getElem?_take, e, if_true] at this
  rw [this]
 ·have := congrArg (fun l : List Int => l[m - (k + 1)]?) h3
  simp only [List.getElem?_drop, show k + 1 + (m - (k + 1)) = m by omega] at this
  rw [this]
theorem jnR_alk {k : Nat} {s0 : List Int} (hk : k < s0.length) : ∀ (ts : List T4) (c : Int), (∀ t ∈ ts, alk t.s s0 k = true) → jnR k (s0.set k c) (ts.map (·.s)) = some (s0.set k (c + jsum k ts))
 | [], c, _ => by simp [jnR, jsum]
 | t :: ts, c, h => by
  obtain ⟨h1, h2⟩ := alk_at (h t (by simp))
  have e1 : jn1 k (s0.set k c) t.s = some (s0.set k (c + t.s.getD k default)) := by
   have hc : t.s.length = (s0.set k c).length ∧ k < (s0.set k c).length ∧ ∀ m, m < (s0.set k c).length → m ≠ k → (s0.set k c).getD m default = t.s.getD m default :=
    ⟨by rw [List.length_set]; exact h1, by rw [List.length_set]; exact hk, fun m hm hne => by rw [h2 m hne, List.getD_eq_getElem?_getD, List.getElem?_set_ne (by omega), ← List.getD_eq_getElem?_getD]⟩
   have e2 : (s0.set k c).getD k default = c := by simp [hk]
   unfold jn1
   rw [if_pos hc, e2, List.set_set]
  rw [List.map_cons]
  unfold jnR
  rw [e1]
  show jnR k _ _ = _
  rw [jnR_alk hk ts _ fun t ht => h t (List.mem_cons_of_mem _ ht)]
  simp only [jsum]
  rw [Int.add_assoc]
theorem sh_join {x : N5} {ts : List T4} (hk : x.k = 12#8) (e : jnE ts x.n = 0) : ShO x ts := by
 unfold jnE at e
 split at e
 ·cases e
 ·rename_i hA
  split at e
  ·rename_i hc
   rw [Bool.and_eq_true, List.all_eq_true] at hc
   obtain ⟨hal, hok⟩ := hc
   have hA : jnA ts x.n = false := by simpa using hA
   unfold jnA at hA
   simp only [Bool.or_eq_false_iff, decide_eq_false_iff_not] at hA
   obtain ⟨⟨⟨⟨a1, a2⟩, a3⟩, a4⟩, a5⟩ := hA
   refine shO_mk (jnS ts x.n.toNat) (jnL ts x.n.toNat) hk (fun t ht => badT_at a3 ht) rfl rfl ?_ (tok_rng hok)
   show jnG (ts.map (·.s)) x.n.toNat = jnS ts x.n.toNat
   match ts, a1 with
   | t :: us, _ =>
    have hk : x.n.toNat < t.s.length := by have : ¬ ((t.s.length : Int) ≤ x.n) := a5; omega
    have key := jnR_alk hk us (t.s.getD x.n.toNat default) fun u hu => hal u (List.mem_cons_of_mem _ hu)
    have e0 : t.s.set x.n.toNat (t.s.getD x.n.toNat default) = t.s := by
     rw [List.getD_eq_getElem?_getD, List.getElem?_eq_getElem hk]
     exact List.set_getElem_self hk
    rw [e0] at key
    unfold jnG
    show (match jnR x.n.toNat t.s (us.map (·.s)) with | some s => if x.n.toNat < s.length then s else [] | none => []) = _
    rw [key]
    show (if x.n.toNat < (t.s.set x.n.toNat _).length then _ else _) = _
    rw [List.length_set, if_pos hk]
    rfl
  ·cases e
theorem doE_0 {x : N5} {ts : List T4} (h : doE x ts = 0) : doOk x ts = true ∧ actE x.k x ts = 0 := by
 unfold doE at h
 split at h
 ·exact ⟨by assumption, h⟩
 ·cases h
theorem doOk_row {x : N5} {ts : List T4} (h : doOk x ts = true) : ∃ a b c d, dRow x.k.toNat = some (a, b, c, d) ∧ ts.length = x.i.length ∧ a ≤ (ts.length : Int) ∧ (ts.length : Int) ≤ b ∧ c ≤ x.n ∧ x.n ≤ d ∧ fldB x.k x.s x.p = true := by
 unfold doOk at h
 split at h
 ·rename_i a b c d hd
  simp only [Bool.and_eq_true, decide_eq_true_eq] at h
  exact ⟨a, b, c, d, hd, by omega, by omega, by omega, by omega, by omega, h.2⟩
 ·cases h
theorem t1_of {ts : List T4} (h : ts.length = 1) : ∃ a, ts = [a] := by
 match ts, h with
 | [a], _ => exact ⟨a, rfl⟩
theorem t2_of {ts : List T4} (h : ts.length = 2) : ∃ a b, ts = [a, b] := by
 match ts, h with
 | [a, b], _ => exact ⟨a, b, rfl⟩
/-- What a node comes to may be, so may those that it takes in, and its shape is the one that the graph tells. -/
theorem do_shape {x : N5} {ts : List T4} (h : doE x ts = 0) : ShO x ts := by
 obtain ⟨h1, h2⟩ := doE_0 h
 obtain ⟨a, b, c, d, hr, hl, ha, hb, -, -, -⟩ := doOk_row h1
 have hk := dRow_kind x.k (by rw [hr]; rfl)
 rcases hk with hk | hk | hk | hk | hk | hk | hk | hk | hk | hk | hk <;> (rw [hk] at hr h2; have hr2 := Option.some.inj hr; simp only [Prod.mk.injEq] at hr2; obtain ⟨r1, r2, -, -⟩ := hr2)
 ·obtain ⟨p, q, rfl⟩ := t2_of (ts := ts) (by omega)
  exact sh_two (.inl hk) h2
 ·obtain ⟨p, q, rfl⟩ := t2_of (ts := ts) (by omega)
  exact sh_two (.inr hk) h2
 ·obtain ⟨p, rfl⟩ := t1_of (ts := ts) (by omega)
  exact sh_relu hk h2
 ·obtain ⟨p, rfl⟩ := t1_of (ts := ts) (by omega)
  exact sh_shift hk h2
 ·obtain ⟨p, q, rfl⟩ := t2_of (ts := ts) (by omega)
  exact sh_prod hk h2
 ·obtain ⟨p, q, rfl⟩ := t2_of (ts := ts) (by omega)
  exact sh_win hk h2
 ·obtain ⟨p, rfl⟩ := t1_of (ts := ts) (by omega)
  exact sh_pool hk h2
 ·obtain ⟨p, rfl⟩ := t1_of (ts := ts) (by omega)
  exact sh_shape hk h2
 ·obtain ⟨p, rfl⟩ := t1_of (ts := ts) (by omega)
  exact sh_turn hk h2
 ·exact sh_join hk h2
 ·obtain ⟨p, rfl⟩ := t1_of (ts := ts) (by omega)
  exact sh_sum hk h2
end Go.Proofs.YtmipoeanpnnjoaaGreat

/-! Contracts: the chapter's graph; some answers. -/
namespace Go.Proofs.YtmipoeanpnnjoaaGreat
open Go Go.Dd Go.RowKit
set_option maxRecDepth 100000

def kx (k : Nat) (x y : Value) (i s : List Int) : N5 := ⟨BitVec.ofNat 8 k, x, y, i, s, 0, 0⟩
def knownL (a b c d : Value) : List N5 := [kx 1 (.slice none 0 0) a [] [2], kx 2 (.slice none 0 0) b [] [2], kx 4 c (.slice none 0 0) [0, 1] [], kx 13 d (.slice none 0 0) [2] []]
theorem known_ok (a b c d : Value) : allG (knownL a b c d) [([2], [3#32, 4#32])] ([2], [1#32, 2#32]) = some [([2], [1#32, 2#32]), ([2], [3#32, 4#32]), ([2], [3#32, 8#32]), ([1], [11#32])] := by kernel_rfl
theorem known_none (a b c d : Value) : allG (knownL a b c d) [] ([2], [1#32, 2#32]) = none := by kernel_rfl
theorem known_one (a b c d : Value) : allG (knownL a b c d) [([2], [3#32, 4#32])] ([1], [1#32]) = none := by kernel_rfl
/-! ### What stays, of what a region's operations come to -/
inductive Ph where
 | val (v : Value)
 | nums (l : List (BitVec 32))
 | ten (l : List (BitVec 32))
 | tens (ps : List PV)
def Ph.ok : Ph → Value → World → Prop
 | .val u, v, _ => v = u
 | .nums l, v, w => SlT i32 w v l
 | .ten l, v, w => ∃ x u, v = .agg #[x, u] ∧ SlT (Value.int .i64) w x [(l.length : Int)] ∧ SlT i32 w u l
 | .tens ps, v, w => ∃ ts, Tens w v ts ∧ ts.map pv = ps
theorem Ph.stab {p : Ph} {v : Value} {w w' : World} (h : p.ok v w) (g : Below w.heap.size w w') : p.ok v w' := by
 cases p with
 | val u => exact h
 | nums l => exact Sl.bs h g
 | ten l => obtain ⟨x, u, e, h1, h2⟩ := h; exact ⟨x, u, e, h1.bs g, h2.bs g⟩
 | tens ps => obtain ⟨ts, h1, h2⟩ := h; exact ⟨ts, h1.bs g, h2⟩
def vt : Ph := .val (.bool true)
def vi (n : Int) : Ph := .val (.int .i64 n)
def liveT (a q : Value) : List Ph := [vi 0, vt, vt, .val a, .nums [11#32], .ten [11#32], vt, vt, vt, vi 0, vt, vt, vt, .val q, .nums [1#32, 2#32], .ten [1#32, 2#32], .nums [3#32, 4#32], .ten [3#32, 4#32], .nums [3#32, 8#32], .ten [3#32, 8#32], .nums [11#32], .ten [11#32], .tens [([2], [1#32, 2#32]), ([2], [3#32, 4#32]), ([2], [3#32, 8#32]), ([1], [11#32])], vt, vt, vt, vi 1, vt, vt, vt, vi 1, vt, vt, vt, vi 10, vt, vt, vt, vi 1, vt, vt, vt]
def PhiT (T : List Ph) (i : Nat) (v : Value) (w : World) : Prop := (T.getD i vt).ok v w
theorem dep {T : List Ph} {s : Nat → Value} {w : World} {o : Oper} (hd : ∀ j ∈ depsOf o, PhiT T j (s j) w) (j : Nat) (h : (depsOf o).contains j = true) : PhiT T j (s j) w := hd j (by simpa using h)
theorem live_in (x y : Value) : doE ⟨1#8, x, y, [], [2], 0, 0⟩ [] = 1 := by kernel_rfl
theorem mof_c (v : Value) (l : List (BitVec 32)) (w : World) (hv : SlT i32 w v l) : Fnc Tryz.prog 25 [v] w (fun r w' => Below w.heap.size w w' ∧ ∃ s, r = .agg [s, v].toArray ∧ SlT (Value.int .i64) w' s [(l.length : Int)]) := by
 have hB := Below.refl w.heap.size w
 refine Fnc.enter (n := 8) Tryz.func25 (by kernel_rfl) rfl rfl rfl <| Cw.seq <| Cw.region <| Lw.newA it_29 rfl ?_
 rintro A_r w eA_r b_r hn -
 replace hB := hB.bs hn
 replace hv := hv.bs hn
 clear hn
 refine Lw.nil <| Pw.thenN <| Cw.out <| Cw.seq <| Cw.region <| Lw.val (Ex.move rfl) rfl <| Lw.val (Ex.lenS st_27 rfl (by assumption)) rfl ?_
 have z0 := below_size hB
 have yr := blk_lt b_r
 refine Lw.valW (Xw.lit (vs := [(l.length : Int)].map (Value.int .i64)) st_26 it_3 rfl rfl rfl rfl rfl) rfl ?_
 rintro s w1 ⟨o_s, -, hn, -⟩
 replace hB := hB.bs hn
 replace hv := hv.bs hn
 replace b_r := b_r.bs hn
 clear hn
 have sb := own_block o_s
 have hone : [s, v].all (·.oneCell') = true := by rw [List.all_cons, List.all_cons, (own_sl o_s).one', hv.one']; rfl
 refine Lw.val (Ex.move rfl) rfl <| Lw.val (Ex.build (vs := [(0, s), (1, v)]) (cs := [s, v]) rfl (bt_ten _ _ (own_sl o_s).one hv.one)) rfl <| Lw.unit (Xu.stA (cs := [s, v]) (k := 2) (by kernel_rfl) rfl rfl rfl hone b_r rfl) ?_
 rintro w2 ⟨b_r2, hg, hz⟩
 have hB2 := hB.grown hg (below_size hB) (by rintro _ ⟨⟩; omega)
 have o_s2 := own_heap o_s (fun k e => hg.block k (sb k e).2 (by intro e2; cases e2; have := sb _ e; omega))
 refine Lw.nil <| Pw.thenN <| Cw.out <| Cw.ret <| Pw.retC rfl rfl (by assumption) (Tryz.underlying29) rfl rfl rfl ?_
 exact ⟨hB2, s, rfl, own_slT o_s2⟩
theorem sl_form {w : World} {sz n : Nat} {v : Value} {xs : List Value} (h : Sl w sz v n xs) : ∃ ao n c, v = .slice ao n c := by
 obtain ⟨_, ao, cap, rfl, _⟩ := h; exact ⟨_, _, _, rfl⟩
theorem bt_nodeS (k : BitVec 8) (s : Value) (hs : ∃ ao n c, s = .slice ao n c) : Tryz.prog.built nodeT [(0, b8 k), (2, s)] = some [b8 k, .slice none 0 0, s, .int .i64 0, .int .i64 0].toArray := by
 obtain ⟨ao, n, c, rfl⟩ := hs
 have h1 : Tryz.prog.info? nodeT = some Tryz.t45 := by kernel_rfl
 have h2 : Tryz.prog.info? 3 = some Tryz.t3 := by kernel_rfl
 have h3 : Tryz.prog.info? 43 = some Tryz.t43 := by kernel_rfl
 have h4 : Tryz.prog.info? 26 = some Tryz.t26 := by kernel_rfl
 simp [Program.built, h1, Tryz.underlying45, h2, h3, h4, Instr.fill, Value.cells]
 rfl
theorem bt_nodeI (k : BitVec 8) (s : Value) (hs : ∃ ao n c, s = .slice ao n c) : Tryz.prog.built nodeT [(0, b8 k), (1, s)] = some [b8 k, s, .slice none 0 0, .int .i64 0, .int .i64 0].toArray := by
 obtain ⟨ao, n, c, rfl⟩ := hs
 have h1 : Tryz.prog.info? nodeT = some Tryz.t45 := by kernel_rfl
 have h2 : Tryz.prog.info? 3 = some Tryz.t3 := by kernel_rfl
 have h3 : Tryz.prog.info? 43 = some Tryz.t43 := by kernel_rfl
 have h4 : Tryz.prog.info? 26 = some Tryz.t26 := by kernel_rfl
 simp [Program.built, h1, Tryz.underlying45, h2, h3, h4, Instr.fill, Value.cells]
 rfl
theorem bt_graph (s : Value) (hs : ∃ ao n c, s = .slice ao n c) : Tryz.prog.built 24 [(0, s)] = some [s].toArray := by
 obtain ⟨ao, n, c, rfl⟩ := hs
 have h1 : Tryz.prog.info? 24 = some Tryz.t24 := by kernel_rfl
 have h4 : Tryz.prog.info? 22 = some Tryz.t22 := by kernel_rfl
 simp [Program.built, h1, Tryz.underlying24, h4, Instr.fill, Value.cells]
 rfl
theorem fill4 (a b c d : List Value) (ha : a.length = 5) (hb : b.length = 5) (hc : c.length = 5) (hd : d.length = 5) :
  Instr.fill (fun i => some (i * 5, 5)) ((Array.range (4 * 5)).map (([b8 0#8, .slice none 0 0, .slice none 0 0, .int .i64 0, .int .i64 0] : List Value).toArray[· % ([b8 0#8, .slice none 0 0, .slice none 0 0, .int .i64 0, .int .i64 0] : List Value).toArray.size]!)) [(0, .agg a.toArray), (1, .agg b.toArray), (2, .agg c.toArray), (3, .agg d.toArray)] = some ([a, b, c, d].flatten).toArray := by
 have e0 : (Array.range (4 * 5)).map (([b8 0#8, .slice none 0 0, .slice none 0 0, .int .i64 0, .int .i64 0] : List Value).toArray[· % ([b8 0#8, .slice none 0 0, .slice none 0 0, .int .i64 0, .int .i64 0] : List Value).toArray.size]!) = (List.replicate 4 [b8 0#8, .slice none 0 0, .slice none 0 0, .int .i64 0, .int .i64 0]).flatten.toArray := by kernel_rfl
 rw [e0]
 have r0 : ∀ r ∈ List.replicate 4 ([b8 0#8, .slice none 0 0, .slice none 0 0, .int .i64 0, .int .i64 0] : List Value), r.length = 5 := fun r hr => by rw [(List.mem_replicate.1 hr).2]; rfl
 rw [fill_row r0 (by simp) ha]
 have r1 := set5 (i := 0) (ds := a) r0 ha
 rw [fill_row r1 (by simp) hb]
 have r2 := set5 (i := 1) (ds := b) r1 hb
 rw [fill_row r2 (by simp) hc]
 have r3 := set5 (i := 2) (ds := c) r2 hc
 rw [fill_row r3 (by simp) hd]
 rfl
theorem known_c (w : World) : Fnc Tryz.prog 26 [] w (fun r w' => Below w.heap.size w w' ∧ ∃ v a b c d, r = .agg [v].toArray ∧ GN w' v (knownL a b c d)) := by
 have hB := Below.refl w.heap.size w
 refine Fnc.enter (n := 11) Tryz.func26 (by kernel_rfl) rfl rfl rfl <| Cw.seq <| Cw.region <| Lw.newA it_24 rfl ?_
 rintro A_r w eA_r b_r hn -
 replace hB := hB.bs hn
 clear hn
 refine Lw.nil <| Pw.thenN <| Cw.out <| Cw.seq <| Cw.region ?_
 have yr := blk_lt b_r
 have z0 := below_size hB
 refine Lw.valW (Xw.lit (vs := ([2] : List Int).map (Value.int .i64)) st_26 it_3 rfl rfl rfl rfl rfl) rfl ?_
 rintro a w ⟨o_a, -, hn, -⟩
 replace hB := hB.bs hn
 replace b_r := b_r.bs hn
 clear hn
 refine Lw.val (Ex.build (cs := [b8 1#8, .slice none 0 0, a, .int .i64 0, .int .i64 0]) rfl (bt_nodeS 1#8 a (sl_form (own_sl o_a)))) rfl <| Lw.valW (Xw.lit (vs := ([2] : List Int).map (Value.int .i64)) st_26 it_3 rfl rfl rfl rfl rfl) rfl ?_
 rintro b w ⟨o_b, -, hn, -⟩
 replace hB := hB.bs hn
 replace b_r := b_r.bs hn
 replace o_a := o_a.bs hn
 clear hn
 refine Lw.val (Ex.build (cs := [b8 2#8, .slice none 0 0, b, .int .i64 0, .int .i64 0]) rfl (bt_nodeS 2#8 b (sl_form (own_sl o_b)))) rfl <| Lw.valW (Xw.lit (vs := ([0, 1] : List Int).map (Value.int .i64)) st_26 it_3 rfl rfl rfl rfl rfl) rfl ?_
 rintro c w ⟨o_c, -, hn, -⟩
 replace hB := hB.bs hn
 replace b_r := b_r.bs hn
 replace o_a := o_a.bs hn
 replace o_b := o_b.bs hn
 clear hn
 refine Lw.val (Ex.build (cs := [b8 4#8, c, .slice none 0 0, .int .i64 0, .int .i64 0]) rfl (bt_nodeI 4#8 c (sl_form (own_sl o_c)))) rfl <| Lw.valW (Xw.lit (vs := ([2] : List Int).map (Value.int .i64)) st_26 it_3 rfl rfl rfl rfl rfl) rfl ?_
 rintro d w ⟨o_d, -, hn, -⟩
 replace hB := hB.bs hn
 replace b_r := b_r.bs hn
 replace o_a := o_a.bs hn
 replace o_b := o_b.bs hn
 replace o_c := o_c.bs hn
 clear hn
 obtain ⟨ls, hls⟩ : ∃ ls, ls = knownL a b c d := ⟨_, rfl⟩
 have hcs : flw N5.cells ls = [[b8 1#8, .slice none 0 0, a, .int .i64 0, .int .i64 0], [b8 2#8, .slice none 0 0, b, .int .i64 0, .int .i64 0], [b8 4#8, c, .slice none 0 0, .int .i64 0, .int .i64 0], [b8 13#8, d, .slice none 0 0, .int .i64 0, .int .i64 0]].flatten := by rw [hls]; rfl
 refine Lw.val (Ex.build (cs := [b8 13#8, d, .slice none 0 0, .int .i64 0, .int .i64 0]) rfl (bt_nodeI 13#8 d (sl_form (own_sl o_d)))) rfl <| Lw.valW (Xw.litA (k := 4) (sz := 5) (vs := [(0, .agg [b8 1#8, .slice none 0 0, a, .int .i64 0, .int .i64 0].toArray), (1, .agg [b8 2#8, .slice none 0 0, b, .int .i64 0, .int .i64 0].toArray), (2, .agg [b8 4#8, c, .slice none 0 0, .int .i64 0, .int .i64 0].toArray), (3, .agg [b8 13#8, d, .slice none 0 0, .int .i64 0, .int .i64 0].toArray)]) (cs := flw N5.cells ls) st_22 it_45 rfl (by decide) (by decide) (by decide) (by rw [hcs]; exact fill4 _ _ _ _ rfl rfl rfl rfl) (by rw [hls]; rfl)) rfl ?_
 rintro v w1 ⟨o_v, -, hn, -⟩
 replace hB := hB.bs hn
 replace b_r := b_r.bs hn
 replace o_a := o_a.bs hn
 replace o_b := o_b.bs hn
 replace o_c := o_c.bs hn
 replace o_d := o_d.bs hn
 clear hn
 have v1 : [v].all (·.oneCell') = true := by rw [List.all_cons, (own_sl o_v).one']; rfl
 have b_r1 := b_r
 refine Lw.val (Ex.build (vs := [(0, v)]) (cs := [v]) rfl (bt_graph v (sl_form (own_sl o_v)))) rfl <| Lw.unit (Xu.stA (cs := [v]) (k := 1) (by kernel_rfl) rfl rfl rfl v1 b_r rfl) ?_
 rintro w2 ⟨b_r2, hg, hz⟩
 have o_v := own_apart o_v b_r1 (by decide) hg
 have o_a := own_apart o_a b_r1 (by decide) hg
 have o_b := own_apart o_b b_r1 (by decide) hg
 have o_c := own_apart o_c b_r1 (by decide) hg
 have o_d := own_apart o_d b_r1 (by decide) hg
 have hB2 := hB.grown hg (below_size hB) (by rintro _ ⟨⟩; omega)
 have hG : GN w2 v ls := ⟨by have := own_sl o_v; rw [hls] at this ⊢; exact this, fun x hx => by
  rw [hls] at hx
  simp only [knownL, List.mem_cons, List.not_mem_nil, or_false] at hx
  rcases hx with rfl | rfl | rfl | rfl
  ·exact ⟨Sl.nil _ _, own_slT o_a⟩
  ·exact ⟨Sl.nil _ _, own_slT o_b⟩
  ·exact ⟨own_slT o_c, Sl.nil _ _⟩
  ·exact ⟨own_slT o_d, Sl.nil _ _⟩⟩
 refine Lw.nil <| Pw.thenN <| Cw.out <| Cw.ret <| Pw.retC rfl rfl (by assumption) (Tryz.underlying24) rfl rfl rfl ?_
 exact ⟨hB2, v, a, b, c, d, rfl, hls ▸ hG⟩
set_option maxHeartbeats 1600000 in
theorem alive_c (W : World) : Fnc Tryz.prog 8 [] W (fun r w' => r = .bool true ∧ Below W.heap.size W w') := by
 have hB := Below.refl W.heap.size W
 obtain ⟨w, hw⟩ : ∃ w, w = W := ⟨_, rfl⟩
 refine Fnc.enter (n := 108) Tryz.func8 (by kernel_rfl) rfl rfl rfl <| Cw.seq <| Cw.region <| Lw.val (Ex.assign rfl) rfl <| Lw.nil <| Pw.thenN <| Cw.out <| Cw.seq <| Cw.region <| Lw.callF rfl rfl (known_c W) ?_
 rintro _ w ⟨hn, v, ka, kb, kc, kd, rfl, hG⟩
 replace hB := hB.bs hn
 clear hn
 obtain ⟨ls, hls⟩ : ∃ ls, ls = knownL ka kb kc kd := ⟨_, rfl⟩
 rw [← hls] at hG
 refine Lw.boxed (cs := [v]) it_24 rfl rfl rfl rfl (fun _ => rfl) ((by rw [List.all_cons, hG.sl.one']; rfl)) ?_
 rintro A_g w eA_g b_g hn -
 replace hB := hB.bs hn
 replace hG := hG.bs hn
 clear hn
 refine Lw.nil <| Pw.thenN <| Cw.out <| Cw.seq <| Cw.region <| Lw.valW (Xw.lit (vs := ([3#32, 4#32] : List (BitVec 32)).map i32) st_27 it_21 rfl (by kernel_rfl) rfl rfl rfl) rfl ?_
 rintro u3 w ⟨ho, -, hn, -⟩
 have t_u3 := own_slT ho
 clear ho
 replace hB := hB.bs hn
 replace hG := hG.bs hn
 replace b_g := b_g.bs hn
 clear hn
 refine Lw.callF rfl rfl (mof_c u3 [3#32, 4#32] w t_u3) ?_
 rintro _ w ⟨hn, x3, rfl, s_x3⟩
 replace hB := hB.bs hn
 replace hG := hG.bs hn
 replace b_g := b_g.bs hn
 replace t_u3 := t_u3.bs hn
 clear hn
 refine Lw.valW (Xw.litA1 (cs := [x3, u3]) st_25 it_29 rfl rfl (by decide) (by decide)) rfl ?_
 rintro u w ⟨ho, -, hn, -⟩
 replace hB := hB.bs hn
 replace hG := hG.bs hn
 replace b_g := b_g.bs hn
 replace t_u3 := t_u3.bs hn
 replace s_x3 := s_x3.bs hn
 clear hn
 obtain ⟨c34, hc34⟩ : ∃ c : T4, c = ⟨x3, u3, [2], [3#32, 4#32]⟩ := ⟨_, rfl⟩
 have hW : Tens w u [c34] := ⟨by rw [hc34]; exact own_sl ho, fun q hq => by rw [List.mem_singleton.1 hq, hc34]; exact ⟨s_x3, t_u3⟩⟩
 have K1 : ∀ x y, allG ls ([c34].map pv) (pv ⟨x, y, [2], [1#32, 2#32]⟩) = some [([2], [1#32, 2#32]), ([2], [3#32, 4#32]), ([2], [3#32, 8#32]), ([1], [11#32])] := fun x y => by rw [hc34, hls]; exact known_ok _ _ _ _
 have K2 : ∀ x y, allG ls (([] : List T4).map pv) (pv ⟨x, y, [2], [1#32, 2#32]⟩) = none := fun x y => by rw [hls]; exact known_none _ _ _ _
 have K3 : ∀ x y, allG ls ([c34].map pv) (pv ⟨x, y, [1], [1#32]⟩) = none := fun x y => by rw [hc34, hls]; exact known_one _ _ _ _
 obtain ⟨w0, hw0⟩ : ∃ w0, w0 = w := ⟨_, rfl⟩
 rw [← hw0] at hB hG b_g hW
 have z0 := below_size hB
 refine Lw.val (Ex.assign rfl) rfl <| Lw.nil <| Pw.thenN <| Cw.out <| Cw.seq ?_
 rw [← hw0]
 refine Cw.midS (St := (Nat × T4)) (fun s => [(1, .pointer (some ⟨A_g, 0, none⟩)), (2, u), (3, .pointer (some ⟨s.1, 0, none⟩)), (4, .int .i64 0)]) (fun s w' => Below w0.heap.size w0 w' ∧ Blk w' s.1 tenT [s.2.x, s.2.y] ∧ MadeK w0 w' s.2.x s.2.y s.2.s s.2.l ∧ pv s.2 = ([1], [11#32])) ?_ ?_
 ·refine Cw.any mixed (fun w hC _ => ?_)
  refine Aw.cls (fun w' => Below w0.heap.size w0 w') (fun hC => ?_) (hC)
  refine AwC.take (i := 0) NoP.midS rfl (by kernel_rfl) (by kernel_rfl) (by kernel_rfl) (fun w1 hc => Ex.ldA (k := 1) (ag_24 _) (sz_24 _) rfl rfl (b_g.bs hc)) rfl <| AwC.take (i := 1) NoP.midS rfl (by kernel_rfl) (by kernel_rfl) (by kernel_rfl) (fun w1 hc => Ex.move rfl) rfl ?_
  refine AwC.two (by assumption) (i := 2) (j := 8) (by kernel_rfl) rfl rfl ?_ ?_
  refine Lw.valW (Xw.lit (vs := ([1#32, 2#32] : List (BitVec 32)).map i32) st_27 it_21 rfl (by kernel_rfl) rfl rfl rfl) rfl ?_
  rintro u1 w ⟨ho, -, hn, -⟩
  have t_u := own_slT ho
  clear ho
  replace hC := hC.bs hn
  clear hn
  refine AwC.back ?_
  refine AwC.two (by assumption) (i := 3) (j := 8) (by kernel_rfl) rfl rfl ?_ ?_
  refine Lw.callF rfl rfl (mof_c u1 [1#32, 2#32] w t_u) ?_
  rintro _ w ⟨hn, x1, rfl, s_x⟩
  replace hC := hC.bs hn
  replace t_u := t_u.bs hn
  clear hn
  have h_x : (T4.mk x1 u1 [2] [1#32, 2#32]).at w := ⟨s_x, t_u⟩
  refine AwC.back ?_
  refine AwC.two (by assumption) (i := 4) (j := 8) (by kernel_rfl) rfl rfl ?_ ?_
  have zc := hC.size
  refine Lw.callF rfl rfl (run_c v ls u [c34] (T4.mk x1 u1 [2] [1#32, 2#32]) w (hG.bs hC) (hW.bs hC) h_x) ?_
  rintro _ w ⟨hn, hr⟩
  rw [K1] at hr
  obtain ⟨a, rfl, h_a, pa⟩ := hr
  replace h_a := h_a.mono (W := w0) zc
  replace hC := hC.bs hn
  replace t_u := t_u.bs hn
  replace s_x := s_x.bs hn
  replace h_x := h_x.bs hn
  clear hn zc
  refine AwC.back <| AwC.take (i := 5) NoP.midS rfl (by kernel_rfl) (by kernel_rfl) (by kernel_rfl) (fun w1 hc => Ex.move rfl) rfl <| AwC.take (i := 6) NoP.midS rfl (by kernel_rfl) (by kernel_rfl) (by kernel_rfl) (fun w1 hc => Ex.extract (i := 0) rfl rfl) rfl <| AwC.take (i := 7) NoP.midS rfl (by kernel_rfl) (by kernel_rfl) (by kernel_rfl) (fun w1 hc => Ex.extract (i := 1) rfl rfl) rfl <| AwC.only (by assumption) (i := 8) (by kernel_rfl) rfl ?_
  have zc := hC.size
  refine Lw.newA it_29 rfl ?_
  rintro A_t w eA_t b_t hn -
  replace hC := hC.bs hn
  replace t_u := t_u.bs hn
  replace s_x := s_x.bs hn
  replace h_x := h_x.bs hn
  replace h_a := h_a.bs hn
  clear hn
  refine AwC.back <| AwC.only (by assumption) (i := 9) (by kernel_rfl) rfl ?_
  have yt : w0.heap.size ≤ A_t := by omega
  clear zc
  have c1 : [a.x, a.y].all (·.oneCell') = true := by rw [List.all_cons, List.all_cons, h_a.row.slT.one', h_a.col.slT.one']; rfl
  refine Lw.unit (Xu.stA (cs := [a.x, a.y]) (k := 2) (by kernel_rfl) rfl rfl rfl c1 b_t rfl) ?_
  rintro w' ⟨b_t', hg, hz⟩
  have hC' := hC.grown hg hC.size (by rintro _ e; have := Option.some.inj e; omega)
  have h_a' := h_a.ty hg (fun b e => by cases e; exact ⟨_, b_t⟩) (by decide) (by decide)
  refine AwC.back <| AwC.take (i := 10) NoP.midS rfl (by kernel_rfl) (by kernel_rfl) (by kernel_rfl) (fun w1 hc => Ex.assign rfl) rfl <| AwC.done (by assumption) (by kernel_rfl) ?_
  exact Pw.midS ((A_t, a)) ⟨rfl, rfl, rfl, rfl, trivial⟩ (⟨hC', b_t', h_a', pa⟩)
  have zc := hC.size
  refine Lw.newA it_29 rfl ?_
  rintro A_t w eA_t b_t hn -
  replace hC := hC.bs hn
  replace t_u := t_u.bs hn
  replace s_x := s_x.bs hn
  replace h_x := h_x.bs hn
  clear hn
  refine AwC.back <| AwC.only (by assumption) (i := 4) (by kernel_rfl) rfl ?_
  have yt : w0.heap.size ≤ A_t := by omega
  clear zc
  have zc := hC.size
  refine Lw.callF rfl rfl (run_c v ls u [c34] (T4.mk x1 u1 [2] [1#32, 2#32]) w (hG.bs hC) (hW.bs hC) h_x) ?_
  rintro _ w ⟨hn, hr⟩
  rw [K1] at hr
  obtain ⟨a, rfl, h_a, pa⟩ := hr
  replace h_a := h_a.mono (W := w0) zc
  replace hC := hC.bs hn
  replace t_u := t_u.bs hn
  replace s_x := s_x.bs hn
  replace h_x := h_x.bs hn
  replace b_t := b_t.bs hn
  clear hn zc
  refine AwC.back <| AwC.take (i := 5) NoP.midS rfl (by kernel_rfl) (by kernel_rfl) (by kernel_rfl) (fun w1 hc => Ex.move rfl) rfl <| AwC.take (i := 6) NoP.midS rfl (by kernel_rfl) (by kernel_rfl) (by kernel_rfl) (fun w1 hc => Ex.extract (i := 0) rfl rfl) rfl <| AwC.take (i := 7) NoP.midS rfl (by kernel_rfl) (by kernel_rfl) (by kernel_rfl) (fun w1 hc => Ex.extract (i := 1) rfl rfl) rfl <| AwC.only (by assumption) (i := 9) (by kernel_rfl) rfl ?_
  have c1 : [a.x, a.y].all (·.oneCell') = true := by rw [List.all_cons, List.all_cons, h_a.row.slT.one', h_a.col.slT.one']; rfl
  refine Lw.unit (Xu.stA (cs := [a.x, a.y]) (k := 2) (by kernel_rfl) rfl rfl rfl c1 b_t rfl) ?_
  rintro w' ⟨b_t', hg, hz⟩
  have hC' := hC.grown hg hC.size (by rintro _ e; have := Option.some.inj e; omega)
  have h_a' := h_a.ty hg (fun b e => by cases e; exact ⟨_, b_t⟩) (by decide) (by decide)
  refine AwC.back <| AwC.take (i := 10) NoP.midS rfl (by kernel_rfl) (by kernel_rfl) (by kernel_rfl) (fun w1 hc => Ex.assign rfl) rfl <| AwC.done (by assumption) (by kernel_rfl) ?_
  exact Pw.midS ((A_t, a)) ⟨rfl, rfl, rfl, rfl, trivial⟩ (⟨hC', b_t', h_a', pa⟩)
  have zc := hC.size
  refine Lw.newA it_29 rfl ?_
  rintro A_t w eA_t b_t hn -
  replace hC := hC.bs hn
  replace t_u := t_u.bs hn
  clear hn
  refine AwC.back <| AwC.only (by assumption) (i := 3) (by kernel_rfl) rfl ?_
  have yt : w0.heap.size ≤ A_t := by omega
  clear zc
  refine Lw.callF rfl rfl (mof_c u1 [1#32, 2#32] w t_u) ?_
  rintro _ w ⟨hn, x1, rfl, s_x⟩
  replace hC := hC.bs hn
  replace t_u := t_u.bs hn
  replace b_t := b_t.bs hn
  clear hn
  have h_x : (T4.mk x1 u1 [2] [1#32, 2#32]).at w := ⟨s_x, t_u⟩
  refine AwC.back <| AwC.only (by assumption) (i := 4) (by kernel_rfl) rfl ?_
  have zc := hC.size
  refine Lw.callF rfl rfl (run_c v ls u [c34] (T4.mk x1 u1 [2] [1#32, 2#32]) w (hG.bs hC) (hW.bs hC) h_x) ?_
  rintro _ w ⟨hn, hr⟩
  rw [K1] at hr
  obtain ⟨a, rfl, h_a, pa⟩ := hr
  replace h_a := h_a.mono (W := w0) zc
  replace hC := hC.bs hn
  replace t_u := t_u.bs hn
  replace b_t := b_t.bs hn
  replace s_x := s_x.bs hn
  replace h_x := h_x.bs hn
  clear hn zc
  refine AwC.back <| AwC.take (i := 5) NoP.midS rfl (by kernel_rfl) (by kernel_rfl) (by kernel_rfl) (fun w1 hc => Ex.move rfl) rfl <| AwC.take (i := 6) NoP.midS rfl (by kernel_rfl) (by kernel_rfl) (by kernel_rfl) (fun w1 hc => Ex.extract (i := 0) rfl rfl) rfl <| AwC.take (i := 7) NoP.midS rfl (by kernel_rfl) (by kernel_rfl) (by kernel_rfl) (fun w1 hc => Ex.extract (i := 1) rfl rfl) rfl <| AwC.only (by assumption) (i := 9) (by kernel_rfl) rfl ?_
  have c1 : [a.x, a.y].all (·.oneCell') = true := by rw [List.all_cons, List.all_cons, h_a.row.slT.one', h_a.col.slT.one']; rfl
  refine Lw.unit (Xu.stA (cs := [a.x, a.y]) (k := 2) (by kernel_rfl) rfl rfl rfl c1 b_t rfl) ?_
  rintro w' ⟨b_t', hg, hz⟩
  have hC' := hC.grown hg hC.size (by rintro _ e; have := Option.some.inj e; omega)
  have h_a' := h_a.ty hg (fun b e => by cases e; exact ⟨_, b_t⟩) (by decide) (by decide)
  refine AwC.back <| AwC.take (i := 10) NoP.midS rfl (by kernel_rfl) (by kernel_rfl) (by kernel_rfl) (fun w1 hc => Ex.assign rfl) rfl <| AwC.done (by assumption) (by kernel_rfl) ?_
  exact Pw.midS ((A_t, a)) ⟨rfl, rfl, rfl, rfl, trivial⟩ (⟨hC', b_t', h_a', pa⟩)
  have zc := hC.size
  refine Lw.newA it_29 rfl ?_
  rintro A_t w eA_t b_t hn -
  replace hC := hC.bs hn
  clear hn
  refine AwC.back <| AwC.only (by assumption) (i := 2) (by kernel_rfl) rfl ?_
  have yt : w0.heap.size ≤ A_t := by omega
  clear zc
  refine Lw.valW (Xw.lit (vs := ([1#32, 2#32] : List (BitVec 32)).map i32) st_27 it_21 rfl (by kernel_rfl) rfl rfl rfl) rfl ?_
  rintro u1 w ⟨ho, -, hn, -⟩
  have t_u := own_slT ho
  clear ho
  replace hC := hC.bs hn
  replace b_t := b_t.bs hn
  clear hn
  refine AwC.back <| AwC.only (by assumption) (i := 3) (by kernel_rfl) rfl ?_
  refine Lw.callF rfl rfl (mof_c u1 [1#32, 2#32] w t_u) ?_
  rintro _ w ⟨hn, x1, rfl, s_x⟩
  replace hC := hC.bs hn
  replace b_t := b_t.bs hn
  replace t_u := t_u.bs hn
  clear hn
  have h_x : (T4.mk x1 u1 [2] [1#32, 2#32]).at w := ⟨s_x, t_u⟩
  refine AwC.back <| AwC.only (by assumption) (i := 4) (by kernel_rfl) rfl ?_
  have zc := hC.size
  refine Lw.callF rfl rfl (run_c v ls u [c34] (T4.mk x1 u1 [2] [1#32, 2#32]) w (hG.bs hC) (hW.bs hC) h_x) ?_
  rintro _ w ⟨hn, hr⟩
  rw [K1] at hr
  obtain ⟨a, rfl, h_a, pa⟩ := hr
  replace h_a := h_a.mono (W := w0) zc
  replace hC := hC.bs hn
  replace b_t := b_t.bs hn
  replace t_u := t_u.bs hn
  replace s_x := s_x.bs hn
  replace h_x := h_x.bs hn
  clear hn zc
  refine AwC.back <| AwC.take (i := 5) NoP.midS rfl (by kernel_rfl) (by kernel_rfl) (by kernel_rfl) (fun w1 hc => Ex.move rfl) rfl <| AwC.take (i := 6) NoP.midS rfl (by kernel_rfl) (by kernel_rfl) (by kernel_rfl) (fun w1 hc => Ex.extract (i := 0) rfl rfl) rfl <| AwC.take (i := 7) NoP.midS rfl (by kernel_rfl) (by kernel_rfl) (by kernel_rfl) (fun w1 hc => Ex.extract (i := 1) rfl rfl) rfl <| AwC.only (by assumption) (i := 9) (by kernel_rfl) rfl ?_
  have c1 : [a.x, a.y].all (·.oneCell') = true := by rw [List.all_cons, List.all_cons, h_a.row.slT.one', h_a.col.slT.one']; rfl
  refine Lw.unit (Xu.stA (cs := [a.x, a.y]) (k := 2) (by kernel_rfl) rfl rfl rfl c1 b_t rfl) ?_
  rintro w' ⟨b_t', hg, hz⟩
  have hC' := hC.grown hg hC.size (by rintro _ e; have := Option.some.inj e; omega)
  have h_a' := h_a.ty hg (fun b e => by cases e; exact ⟨_, b_t⟩) (by decide) (by decide)
  refine AwC.back <| AwC.take (i := 10) NoP.midS rfl (by kernel_rfl) (by kernel_rfl) (by kernel_rfl) (fun w1 hc => Ex.assign rfl) rfl <| AwC.done (by assumption) (by kernel_rfl) ?_
  exact Pw.midS ((A_t, a)) ⟨rfl, rfl, rfl, rfl, trivial⟩ (⟨hC', b_t', h_a', pa⟩)
 rintro ⟨A3, a3⟩ w3 ⟨hC, b_3, h_a3, p_a3⟩
 replace b_3 : Blk w3 A3 tenT [a3.x, a3.y] := b_3
 replace h_a3 : a3.at w3 := h_a3.at
 replace p_a3 : pv a3 = ([1], [11#32]) := p_a3
 replace hB := bt hB hC
 replace hG := hG.bs hC
 replace b_g := b_g.bs hC
 replace hW := hW.bs hC
 clear hC hw0 z0
 clear w0
 obtain ⟨w0, hw0⟩ : ∃ w0, w0 = w3 := ⟨_, rfl⟩
 rw [← hw0] at hB hG b_g hW b_3 h_a3
 have z0 := below_size hB
 rw [← hw0]
 refine Cw.seq ?_
 refine Cw.midS (St := (Value × List T4)) (fun s => [(1, .pointer (some ⟨A_g, 0, none⟩)), (2, u), (3, .pointer (some ⟨A3, 0, none⟩)), (4, .int .i64 0), (5, s.1), (6, .int .i64 0)]) (fun s w' => Below w0.heap.size w0 w' ∧ Tens w' s.1 s.2 ∧ madeA w0 w' s.2 ∧ s.2.map pv = [([2], [1#32, 2#32]), ([2], [3#32, 4#32]), ([2], [3#32, 8#32]), ([1], [11#32])]) ?_ ?_
 ·refine Cw.any mixed (fun w hC _ => ?_)
  refine Aw.cls (fun w' => Below w0.heap.size w0 w') (fun hC => ?_) (hC)
  refine AwC.take (i := 0) NoP.midS rfl (by kernel_rfl) (by kernel_rfl) (by kernel_rfl) (fun w1 hc => Ex.ldA (k := 1) (ag_24 _) (sz_24 _) rfl rfl (b_g.bs hc)) rfl <| AwC.take (i := 1) NoP.midS rfl (by kernel_rfl) (by kernel_rfl) (by kernel_rfl) (fun w1 hc => Ex.move rfl) rfl <| AwC.only (by assumption) (i := 2) (by kernel_rfl) rfl ?_
  refine Lw.valW (Xw.lit (vs := ([1#32, 2#32] : List (BitVec 32)).map i32) st_27 it_21 rfl (by kernel_rfl) rfl rfl rfl) rfl ?_
  rintro u1 w ⟨ho, -, hn, -⟩
  have t_u := own_slT ho
  clear ho
  replace hC := hC.bs hn
  clear hn
  refine AwC.back <| AwC.only (by assumption) (i := 3) (by kernel_rfl) rfl ?_
  refine Lw.callF rfl rfl (mof_c u1 [1#32, 2#32] w t_u) ?_
  rintro _ w ⟨hn, x1, rfl, s_x⟩
  replace hC := hC.bs hn
  replace t_u := t_u.bs hn
  clear hn
  have h_x : (T4.mk x1 u1 [2] [1#32, 2#32]).at w := ⟨s_x, t_u⟩
  refine AwC.back <| AwC.only (by assumption) (i := 4) (by kernel_rfl) rfl ?_
  have zc := hC.size
  refine Lw.callF rfl rfl (all_c v ls u [c34] (T4.mk x1 u1 [2] [1#32, 2#32]) w (hG.bs hC) (hW.bs hC) h_x) ?_
  rintro _ w ⟨hn, hr⟩
  rw [K1] at hr
  obtain ⟨q, ts, rfl, h_q, ma, pq⟩ := hr
  have h_ms : madeA w0 w ts := fun t ht => (ma t ht).mono (W := w0) zc
  replace hC := hC.bs hn
  replace t_u := t_u.bs hn
  replace s_x := s_x.bs hn
  replace h_x := h_x.bs hn
  clear hn zc
  refine AwC.back <| AwC.take (i := 5) NoP.midS rfl (by kernel_rfl) (by kernel_rfl) (by kernel_rfl) (fun w1 hc => Ex.move rfl) rfl <| AwC.take (i := 6) NoP.midS rfl (by kernel_rfl) (by kernel_rfl) (by kernel_rfl) (fun w1 hc => Ex.extract (i := 0) rfl rfl) rfl <| AwC.take (i := 7) NoP.midS rfl (by kernel_rfl) (by kernel_rfl) (by kernel_rfl) (fun w1 hc => Ex.extract (i := 1) rfl rfl) rfl <| AwC.take (i := 8) NoP.midS rfl (by kernel_rfl) (by kernel_rfl) (by kernel_rfl) (fun w1 hc => Ex.assign rfl) rfl <| AwC.take (i := 9) NoP.midS rfl (by kernel_rfl) (by kernel_rfl) (by kernel_rfl) (fun w1 hc => Ex.assign rfl) rfl <| AwC.done (by assumption) (by kernel_rfl) ?_
  exact Pw.midS ((q, ts)) ⟨rfl, rfl, rfl, rfl, rfl, rfl, trivial⟩ (⟨hC, h_q, h_ms, pq⟩)
 rintro ⟨q4, ts4⟩ w4 ⟨hC, h_q4, h_m4, p_4⟩
 replace h_q4 : Tens w4 q4 ts4 := h_q4
 replace p_4 : ts4.map pv = [([2], [1#32, 2#32]), ([2], [3#32, 4#32]), ([2], [3#32, 8#32]), ([1], [11#32])] := p_4
 clear h_m4
 replace hB := bt hB hC
 replace hG := hG.bs hC
 replace b_g := b_g.bs hC
 replace hW := hW.bs hC
 replace b_3 := b_3.bs hC
 replace h_a3 := h_a3.bs hC
 clear hC hw0 z0
 clear w0
 obtain ⟨w0, hw0⟩ : ∃ w0, w0 = w4 := ⟨_, rfl⟩
 rw [← hw0] at hB hG b_g hW b_3 h_a3 h_q4
 have z0 := below_size hB
 rw [← hw0]
 refine Cw.seq ?_
 refine Cw.midS (St := Unit) (fun s => [(1, .pointer (some ⟨A_g, 0, none⟩)), (2, u), (3, .pointer (some ⟨A3, 0, none⟩)), (4, .int .i64 0), (5, q4), (6, .int .i64 0), (8, .int .i64 1)]) (fun s w' => Below w0.heap.size w0 w') ?_ ?_
 ·refine Cw.any mixed (fun w hC _ => ?_)
  refine Aw.cls (fun w' => Below w0.heap.size w0 w') (fun hC => ?_) (hC)
  refine AwC.take (i := 0) NoP.midS rfl (by kernel_rfl) (by kernel_rfl) (by kernel_rfl) (fun w1 hc => Ex.ldA (k := 1) (ag_24 _) (sz_24 _) rfl rfl (b_g.bs hc)) rfl ?_
  refine AwC.two (by assumption) (i := 1) (j := 7) (by kernel_rfl) rfl rfl ?_ ?_
  refine Lw.valW (Xw.lit (vs := ([1#32, 2#32] : List (BitVec 32)).map i32) st_27 it_21 rfl (by kernel_rfl) rfl rfl rfl) rfl ?_
  rintro u1 w ⟨ho, -, hn, -⟩
  have t_u := own_slT ho
  clear ho
  replace hC := hC.bs hn
  clear hn
  refine AwC.back ?_
  refine AwC.two (by assumption) (i := 2) (j := 7) (by kernel_rfl) rfl rfl ?_ ?_
  refine Lw.callF rfl rfl (mof_c u1 [1#32, 2#32] w t_u) ?_
  rintro _ w ⟨hn, x1, rfl, s_x⟩
  replace hC := hC.bs hn
  replace t_u := t_u.bs hn
  clear hn
  have h_x : (T4.mk x1 u1 [2] [1#32, 2#32]).at w := ⟨s_x, t_u⟩
  refine AwC.back ?_
  refine AwC.two (by assumption) (i := 3) (j := 7) (by kernel_rfl) rfl rfl ?_ ?_
  have zc := hC.size
  refine Lw.callF rfl rfl (run_c v ls (.slice none 0 0) [] (T4.mk x1 u1 [2] [1#32, 2#32]) w (hG.bs hC) ⟨Sl.nil _ _, fun _ h => by cases h⟩ h_x) ?_
  rintro _ w ⟨hn, hr⟩
  rw [K2] at hr
  obtain rfl := hr
  replace hC := hC.bs hn
  replace t_u := t_u.bs hn
  replace s_x := s_x.bs hn
  replace h_x := h_x.bs hn
  clear hn zc
  refine AwC.back <| AwC.take (i := 4) NoP.midS rfl (by kernel_rfl) (by kernel_rfl) (by kernel_rfl) (fun w1 hc => Ex.move rfl) rfl <| AwC.take (i := 5) NoP.midS rfl (by kernel_rfl) (by kernel_rfl) (by kernel_rfl) (fun w1 hc => Ex.extract (i := 0) rfl rfl) rfl <| AwC.take (i := 6) NoP.midS rfl (by kernel_rfl) (by kernel_rfl) (by kernel_rfl) (fun w1 hc => Ex.extract (i := 1) rfl rfl) rfl <| AwC.only (by assumption) (i := 7) (by kernel_rfl) rfl ?_
  have zc := hC.size
  refine Lw.newA it_29 rfl ?_
  rintro A_t w eA_t b_t hn -
  replace hC := hC.bs hn
  replace t_u := t_u.bs hn
  replace s_x := s_x.bs hn
  replace h_x := h_x.bs hn
  clear hn
  refine AwC.back <| AwC.only (by assumption) (i := 8) (by kernel_rfl) rfl ?_
  have yt : w0.heap.size ≤ A_t := by omega
  clear zc
  refine Lw.unit (Xu.stA (cs := [.slice none 0 0, .slice none 0 0]) (k := 2) (by kernel_rfl) rfl rfl rfl rfl b_t rfl) ?_
  rintro w' ⟨-, hg, hz⟩
  have hC' := hC.grown hg hC.size (by rintro _ e; have := Option.some.inj e; omega)
  refine AwC.back <| AwC.take (i := 9) NoP.midS rfl (by kernel_rfl) (by kernel_rfl) (by kernel_rfl) (fun w1 hc => Ex.assign rfl) rfl <| AwC.done (by assumption) (by kernel_rfl) ?_
  exact Pw.midS (()) ⟨rfl, rfl, rfl, rfl, rfl, rfl, rfl, trivial⟩ (hC')
  have zc := hC.size
  refine Lw.newA it_29 rfl ?_
  rintro A_t w eA_t b_t hn -
  replace hC := hC.bs hn
  replace t_u := t_u.bs hn
  replace s_x := s_x.bs hn
  replace h_x := h_x.bs hn
  clear hn
  refine AwC.back <| AwC.only (by assumption) (i := 3) (by kernel_rfl) rfl ?_
  have yt : w0.heap.size ≤ A_t := by omega
  clear zc
  have zc := hC.size
  refine Lw.callF rfl rfl (run_c v ls (.slice none 0 0) [] (T4.mk x1 u1 [2] [1#32, 2#32]) w (hG.bs hC) ⟨Sl.nil _ _, fun _ h => by cases h⟩ h_x) ?_
  rintro _ w ⟨hn, hr⟩
  rw [K2] at hr
  obtain rfl := hr
  replace hC := hC.bs hn
  replace t_u := t_u.bs hn
  replace s_x := s_x.bs hn
  replace h_x := h_x.bs hn
  replace b_t := b_t.bs hn
  clear hn zc
  refine AwC.back <| AwC.take (i := 4) NoP.midS rfl (by kernel_rfl) (by kernel_rfl) (by kernel_rfl) (fun w1 hc => Ex.move rfl) rfl <| AwC.take (i := 5) NoP.midS rfl (by kernel_rfl) (by kernel_rfl) (by kernel_rfl) (fun w1 hc => Ex.extract (i := 0) rfl rfl) rfl <| AwC.take (i := 6) NoP.midS rfl (by kernel_rfl) (by kernel_rfl) (by kernel_rfl) (fun w1 hc => Ex.extract (i := 1) rfl rfl) rfl <| AwC.only (by assumption) (i := 8) (by kernel_rfl) rfl ?_
  refine Lw.unit (Xu.stA (cs := [.slice none 0 0, .slice none 0 0]) (k := 2) (by kernel_rfl) rfl rfl rfl rfl b_t rfl) ?_
  rintro w' ⟨-, hg, hz⟩
  have hC' := hC.grown hg hC.size (by rintro _ e; have := Option.some.inj e; omega)
  refine AwC.back <| AwC.take (i := 9) NoP.midS rfl (by kernel_rfl) (by kernel_rfl) (by kernel_rfl) (fun w1 hc => Ex.assign rfl) rfl <| AwC.done (by assumption) (by kernel_rfl) ?_
  exact Pw.midS (()) ⟨rfl, rfl, rfl, rfl, rfl, rfl, rfl, trivial⟩ (hC')
  have zc := hC.size
  refine Lw.newA it_29 rfl ?_
  rintro A_t w eA_t b_t hn -
  replace hC := hC.bs hn
  replace t_u := t_u.bs hn
  clear hn
  refine AwC.back <| AwC.only (by assumption) (i := 2) (by kernel_rfl) rfl ?_
  have yt : w0.heap.size ≤ A_t := by omega
  clear zc
  refine Lw.callF rfl rfl (mof_c u1 [1#32, 2#32] w t_u) ?_
  rintro _ w ⟨hn, x1, rfl, s_x⟩
  replace hC := hC.bs hn
  replace t_u := t_u.bs hn
  replace b_t := b_t.bs hn
  clear hn
  have h_x : (T4.mk x1 u1 [2] [1#32, 2#32]).at w := ⟨s_x, t_u⟩
  refine AwC.back <| AwC.only (by assumption) (i := 3) (by kernel_rfl) rfl ?_
  have zc := hC.size
  refine Lw.callF rfl rfl (run_c v ls (.slice none 0 0) [] (T4.mk x1 u1 [2] [1#32, 2#32]) w (hG.bs hC) ⟨Sl.nil _ _, fun _ h => by cases h⟩ h_x) ?_
  rintro _ w ⟨hn, hr⟩
  rw [K2] at hr
  obtain rfl := hr
  replace hC := hC.bs hn
  replace t_u := t_u.bs hn
  replace b_t := b_t.bs hn
  replace s_x := s_x.bs hn
  replace h_x := h_x.bs hn
  clear hn zc
  refine AwC.back <| AwC.take (i := 4) NoP.midS rfl (by kernel_rfl) (by kernel_rfl) (by kernel_rfl) (fun w1 hc => Ex.move rfl) rfl <| AwC.take (i := 5) NoP.midS rfl (by kernel_rfl) (by kernel_rfl) (by kernel_rfl) (fun w1 hc => Ex.extract (i := 0) rfl rfl) rfl <| AwC.take (i := 6) NoP.midS rfl (by kernel_rfl) (by kernel_rfl) (by kernel_rfl) (fun w1 hc => Ex.extract (i := 1) rfl rfl) rfl <| AwC.only (by assumption) (i := 8) (by kernel_rfl) rfl ?_
  refine Lw.unit (Xu.stA (cs := [.slice none 0 0, .slice none 0 0]) (k := 2) (by kernel_rfl) rfl rfl rfl rfl b_t rfl) ?_
  rintro w' ⟨-, hg, hz⟩
  have hC' := hC.grown hg hC.size (by rintro _ e; have := Option.some.inj e; omega)
  refine AwC.back <| AwC.take (i := 9) NoP.midS rfl (by kernel_rfl) (by kernel_rfl) (by kernel_rfl) (fun w1 hc => Ex.assign rfl) rfl <| AwC.done (by assumption) (by kernel_rfl) ?_
  exact Pw.midS (()) ⟨rfl, rfl, rfl, rfl, rfl, rfl, rfl, trivial⟩ (hC')
  have zc := hC.size
  refine Lw.newA it_29 rfl ?_
  rintro A_t w eA_t b_t hn -
  replace hC := hC.bs hn
  clear hn
  refine AwC.back <| AwC.only (by assumption) (i := 1) (by kernel_rfl) rfl ?_
  have yt : w0.heap.size ≤ A_t := by omega
  clear zc
  refine Lw.valW (Xw.lit (vs := ([1#32, 2#32] : List (BitVec 32)).map i32) st_27 it_21 rfl (by kernel_rfl) rfl rfl rfl) rfl ?_
  rintro u1 w ⟨ho, -, hn, -⟩
  have t_u := own_slT ho
  clear ho
  replace hC := hC.bs hn
  replace b_t := b_t.bs hn
  clear hn
  refine AwC.back <| AwC.only (by assumption) (i := 2) (by kernel_rfl) rfl ?_
  refine Lw.callF rfl rfl (mof_c u1 [1#32, 2#32] w t_u) ?_
  rintro _ w ⟨hn, x1, rfl, s_x⟩
  replace hC := hC.bs hn
  replace b_t := b_t.bs hn
  replace t_u := t_u.bs hn
  clear hn
  have h_x : (T4.mk x1 u1 [2] [1#32, 2#32]).at w := ⟨s_x, t_u⟩
  refine AwC.back <| AwC.only (by assumption) (i := 3) (by kernel_rfl) rfl ?_
  have zc := hC.size
  refine Lw.callF rfl rfl (run_c v ls (.slice none 0 0) [] (T4.mk x1 u1 [2] [1#32, 2#32]) w (hG.bs hC) ⟨Sl.nil _ _, fun _ h => by cases h⟩ h_x) ?_
  rintro _ w ⟨hn, hr⟩
  rw [K2] at hr
  obtain rfl := hr
  replace hC := hC.bs hn
  replace b_t := b_t.bs hn
  replace t_u := t_u.bs hn
  replace s_x := s_x.bs hn
  replace h_x := h_x.bs hn
  clear hn zc
  refine AwC.back <| AwC.take (i := 4) NoP.midS rfl (by kernel_rfl) (by kernel_rfl) (by kernel_rfl) (fun w1 hc => Ex.move rfl) rfl <| AwC.take (i := 5) NoP.midS rfl (by kernel_rfl) (by kernel_rfl) (by kernel_rfl) (fun w1 hc => Ex.extract (i := 0) rfl rfl) rfl <| AwC.take (i := 6) NoP.midS rfl (by kernel_rfl) (by kernel_rfl) (by kernel_rfl) (fun w1 hc => Ex.extract (i := 1) rfl rfl) rfl <| AwC.only (by assumption) (i := 8) (by kernel_rfl) rfl ?_
  refine Lw.unit (Xu.stA (cs := [.slice none 0 0, .slice none 0 0]) (k := 2) (by kernel_rfl) rfl rfl rfl rfl b_t rfl) ?_
  rintro w' ⟨-, hg, hz⟩
  have hC' := hC.grown hg hC.size (by rintro _ e; have := Option.some.inj e; omega)
  refine AwC.back <| AwC.take (i := 9) NoP.midS rfl (by kernel_rfl) (by kernel_rfl) (by kernel_rfl) (fun w1 hc => Ex.assign rfl) rfl <| AwC.done (by assumption) (by kernel_rfl) ?_
  exact Pw.midS (()) ⟨rfl, rfl, rfl, rfl, rfl, rfl, rfl, trivial⟩ (hC')
 rintro ⟨⟩ w5 hC
 replace hB := bt hB hC
 replace hG := hG.bs hC
 replace b_g := b_g.bs hC
 replace hW := hW.bs hC
 replace b_3 := b_3.bs hC
 replace h_a3 := h_a3.bs hC
 replace h_q4 := h_q4.bs hC
 clear hC hw0 z0
 clear w0
 obtain ⟨w0, hw0⟩ : ∃ w0, w0 = w5 := ⟨_, rfl⟩
 rw [← hw0] at hB hG b_g hW b_3 h_a3 h_q4
 have z0 := below_size hB
 rw [← hw0]
 refine Cw.seq ?_
 refine Cw.midS (St := Unit) (fun s => [(3, .pointer (some ⟨A3, 0, none⟩)), (4, .int .i64 0), (5, q4), (6, .int .i64 0), (8, .int .i64 1), (10, .int .i64 1)]) (fun s w' => Below w0.heap.size w0 w') ?_ ?_
 ·refine Cw.any mixed (fun w hC _ => ?_)
  refine Aw.cls (fun w' => Below w0.heap.size w0 w') (fun hC => ?_) (hC)
  refine AwC.take (i := 0) NoP.midS rfl (by kernel_rfl) (by kernel_rfl) (by kernel_rfl) (fun w1 hc => Ex.ldA (k := 1) (ag_24 _) (sz_24 _) rfl rfl (b_g.bs hc)) rfl <| AwC.take (i := 1) NoP.midS rfl (by kernel_rfl) (by kernel_rfl) (by kernel_rfl) (fun w1 hc => Ex.move rfl) rfl ?_
  refine AwC.two (by assumption) (i := 2) (j := 8) (by kernel_rfl) rfl rfl ?_ ?_
  refine Lw.valW (Xw.lit (vs := ([1#32] : List (BitVec 32)).map i32) st_27 it_21 rfl (by kernel_rfl) rfl rfl rfl) rfl ?_
  rintro u1 w ⟨ho, -, hn, -⟩
  have t_u := own_slT ho
  clear ho
  replace hC := hC.bs hn
  clear hn
  refine AwC.back ?_
  refine AwC.two (by assumption) (i := 3) (j := 8) (by kernel_rfl) rfl rfl ?_ ?_
  refine Lw.callF rfl rfl (mof_c u1 [1#32] w t_u) ?_
  rintro _ w ⟨hn, x1, rfl, s_x⟩
  replace hC := hC.bs hn
  replace t_u := t_u.bs hn
  clear hn
  have h_x : (T4.mk x1 u1 [1] [1#32]).at w := ⟨s_x, t_u⟩
  refine AwC.back ?_
  refine AwC.two (by assumption) (i := 4) (j := 8) (by kernel_rfl) rfl rfl ?_ ?_
  have zc := hC.size
  refine Lw.callF rfl rfl (run_c v ls u [c34] (T4.mk x1 u1 [1] [1#32]) w (hG.bs hC) (hW.bs hC) h_x) ?_
  rintro _ w ⟨hn, hr⟩
  rw [K3] at hr
  obtain rfl := hr
  replace hC := hC.bs hn
  replace t_u := t_u.bs hn
  replace s_x := s_x.bs hn
  replace h_x := h_x.bs hn
  clear hn zc
  refine AwC.back <| AwC.take (i := 5) NoP.midS rfl (by kernel_rfl) (by kernel_rfl) (by kernel_rfl) (fun w1 hc => Ex.move rfl) rfl <| AwC.take (i := 6) NoP.midS rfl (by kernel_rfl) (by kernel_rfl) (by kernel_rfl) (fun w1 hc => Ex.extract (i := 0) rfl rfl) rfl <| AwC.take (i := 7) NoP.midS rfl (by kernel_rfl) (by kernel_rfl) (by kernel_rfl) (fun w1 hc => Ex.extract (i := 1) rfl rfl) rfl <| AwC.only (by assumption) (i := 8) (by kernel_rfl) rfl ?_
  have zc := hC.size
  refine Lw.newA it_29 rfl ?_
  rintro A_t w eA_t b_t hn -
  replace hC := hC.bs hn
  replace t_u := t_u.bs hn
  replace s_x := s_x.bs hn
  replace h_x := h_x.bs hn
  clear hn
  refine AwC.back <| AwC.only (by assumption) (i := 9) (by kernel_rfl) rfl ?_
  have yt : w0.heap.size ≤ A_t := by omega
  clear zc
  refine Lw.unit (Xu.stA (cs := [.slice none 0 0, .slice none 0 0]) (k := 2) (by kernel_rfl) rfl rfl rfl rfl b_t rfl) ?_
  rintro w' ⟨-, hg, hz⟩
  have hC' := hC.grown hg hC.size (by rintro _ e; have := Option.some.inj e; omega)
  refine AwC.back <| AwC.take (i := 10) NoP.midS rfl (by kernel_rfl) (by kernel_rfl) (by kernel_rfl) (fun w1 hc => Ex.assign rfl) rfl <| AwC.done (by assumption) (by kernel_rfl) ?_
  exact Pw.midS (()) ⟨rfl, rfl, rfl, rfl, rfl, rfl, trivial⟩ (hC')
  have zc := hC.size
  refine Lw.newA it_29 rfl ?_
  rintro A_t w eA_t b_t hn -
  replace hC := hC.bs hn
  replace t_u := t_u.bs hn
  replace s_x := s_x.bs hn
  replace h_x := h_x.bs hn
  clear hn
  refine AwC.back <| AwC.only (by assumption) (i := 4) (by kernel_rfl) rfl ?_
  have yt : w0.heap.size ≤ A_t := by omega
  clear zc
  have zc := hC.size
  refine Lw.callF rfl rfl (run_c v ls u [c34] (T4.mk x1 u1 [1] [1#32]) w (hG.bs hC) (hW.bs hC) h_x) ?_
  rintro _ w ⟨hn, hr⟩
  rw [K3] at hr
  obtain rfl := hr
  replace hC := hC.bs hn
  replace t_u := t_u.bs hn
  replace s_x := s_x.bs hn
  replace h_x := h_x.bs hn
  replace b_t := b_t.bs hn
  clear hn zc
  refine AwC.back <| AwC.take (i := 5) NoP.midS rfl (by kernel_rfl) (by kernel_rfl) (by kernel_rfl) (fun w1 hc => Ex.move rfl) rfl <| AwC.take (i := 6) NoP.midS rfl (by kernel_rfl) (by kernel_rfl) (by kernel_rfl) (fun w1 hc => Ex.extract (i := 0) rfl rfl) rfl <| AwC.take (i := 7) NoP.midS rfl (by kernel_rfl) (by kernel_rfl) (by kernel_rfl) (fun w1 hc => Ex.extract (i := 1) rfl rfl) rfl <| AwC.only (by assumption) (i := 9) (by kernel_rfl) rfl ?_
  refine Lw.unit (Xu.stA (cs := [.slice none 0 0, .slice none 0 0]) (k := 2) (by kernel_rfl) rfl rfl rfl rfl b_t rfl) ?_
  rintro w' ⟨-, hg, hz⟩
  have hC' := hC.grown hg hC.size (by rintro _ e; have := Option.some.inj e; omega)
  refine AwC.back <| AwC.take (i := 10) NoP.midS rfl (by kernel_rfl) (by kernel_rfl) (by kernel_rfl) (fun w1 hc => Ex.assign rfl) rfl <| AwC.done (by assumption) (by kernel_rfl) ?_
  exact Pw.midS (()) ⟨rfl, rfl, rfl, rfl, rfl, rfl, trivial⟩ (hC')
  have zc := hC.size
  refine Lw.newA it_29 rfl ?_
  rintro A_t w eA_t b_t hn -
  replace hC := hC.bs hn
  replace t_u := t_u.bs hn
  clear hn
  refine AwC.back <| AwC.only (by assumption) (i := 3) (by kernel_rfl) rfl ?_
  have yt : w0.heap.size ≤ A_t := by omega
  clear zc
  refine Lw.callF rfl rfl (mof_c u1 [1#32] w t_u) ?_
  rintro _ w ⟨hn, x1, rfl, s_x⟩
  replace hC := hC.bs hn
  replace t_u := t_u.bs hn
  replace b_t := b_t.bs hn
  clear hn
  have h_x : (T4.mk x1 u1 [1] [1#32]).at w := ⟨s_x, t_u⟩
  refine AwC.back <| AwC.only (by assumption) (i := 4) (by kernel_rfl) rfl ?_
  have zc := hC.size
  refine Lw.callF rfl rfl (run_c v ls u [c34] (T4.mk x1 u1 [1] [1#32]) w (hG.bs hC) (hW.bs hC) h_x) ?_
  rintro _ w ⟨hn, hr⟩
  rw [K3] at hr
  obtain rfl := hr
  replace hC := hC.bs hn
  replace t_u := t_u.bs hn
  replace b_t := b_t.bs hn
  replace s_x := s_x.bs hn
  replace h_x := h_x.bs hn
  clear hn zc
  refine AwC.back <| AwC.take (i := 5) NoP.midS rfl (by kernel_rfl) (by kernel_rfl) (by kernel_rfl) (fun w1 hc => Ex.move rfl) rfl <| AwC.take (i := 6) NoP.midS rfl (by kernel_rfl) (by kernel_rfl) (by kernel_rfl) (fun w1 hc => Ex.extract (i := 0) rfl rfl) rfl <| AwC.take (i := 7) NoP.midS rfl (by kernel_rfl) (by kernel_rfl) (by kernel_rfl) (fun w1 hc => Ex.extract (i := 1) rfl rfl) rfl <| AwC.only (by assumption) (i := 9) (by kernel_rfl) rfl ?_
  refine Lw.unit (Xu.stA (cs := [.slice none 0 0, .slice none 0 0]) (k := 2) (by kernel_rfl) rfl rfl rfl rfl b_t rfl) ?_
  rintro w' ⟨-, hg, hz⟩
  have hC' := hC.grown hg hC.size (by rintro _ e; have := Option.some.inj e; omega)
  refine AwC.back <| AwC.take (i := 10) NoP.midS rfl (by kernel_rfl) (by kernel_rfl) (by kernel_rfl) (fun w1 hc => Ex.assign rfl) rfl <| AwC.done (by assumption) (by kernel_rfl) ?_
  exact Pw.midS (()) ⟨rfl, rfl, rfl, rfl, rfl, rfl, trivial⟩ (hC')
  have zc := hC.size
  refine Lw.newA it_29 rfl ?_
  rintro A_t w eA_t b_t hn -
  replace hC := hC.bs hn
  clear hn
  refine AwC.back <| AwC.only (by assumption) (i := 2) (by kernel_rfl) rfl ?_
  have yt : w0.heap.size ≤ A_t := by omega
  clear zc
  refine Lw.valW (Xw.lit (vs := ([1#32] : List (BitVec 32)).map i32) st_27 it_21 rfl (by kernel_rfl) rfl rfl rfl) rfl ?_
  rintro u1 w ⟨ho, -, hn, -⟩
  have t_u := own_slT ho
  clear ho
  replace hC := hC.bs hn
  replace b_t := b_t.bs hn
  clear hn
  refine AwC.back <| AwC.only (by assumption) (i := 3) (by kernel_rfl) rfl ?_
  refine Lw.callF rfl rfl (mof_c u1 [1#32] w t_u) ?_
  rintro _ w ⟨hn, x1, rfl, s_x⟩
  replace hC := hC.bs hn
  replace b_t := b_t.bs hn
  replace t_u := t_u.bs hn
  clear hn
  have h_x : (T4.mk x1 u1 [1] [1#32]).at w := ⟨s_x, t_u⟩
  refine AwC.back <| AwC.only (by assumption) (i := 4) (by kernel_rfl) rfl ?_
  have zc := hC.size
  refine Lw.callF rfl rfl (run_c v ls u [c34] (T4.mk x1 u1 [1] [1#32]) w (hG.bs hC) (hW.bs hC) h_x) ?_
  rintro _ w ⟨hn, hr⟩
  rw [K3] at hr
  obtain rfl := hr
  replace hC := hC.bs hn
  replace b_t := b_t.bs hn
  replace t_u := t_u.bs hn
  replace s_x := s_x.bs hn
  replace h_x := h_x.bs hn
  clear hn zc
  refine AwC.back <| AwC.take (i := 5) NoP.midS rfl (by kernel_rfl) (by kernel_rfl) (by kernel_rfl) (fun w1 hc => Ex.move rfl) rfl <| AwC.take (i := 6) NoP.midS rfl (by kernel_rfl) (by kernel_rfl) (by kernel_rfl) (fun w1 hc => Ex.extract (i := 0) rfl rfl) rfl <| AwC.take (i := 7) NoP.midS rfl (by kernel_rfl) (by kernel_rfl) (by kernel_rfl) (fun w1 hc => Ex.extract (i := 1) rfl rfl) rfl <| AwC.only (by assumption) (i := 9) (by kernel_rfl) rfl ?_
  refine Lw.unit (Xu.stA (cs := [.slice none 0 0, .slice none 0 0]) (k := 2) (by kernel_rfl) rfl rfl rfl rfl b_t rfl) ?_
  rintro w' ⟨-, hg, hz⟩
  have hC' := hC.grown hg hC.size (by rintro _ e; have := Option.some.inj e; omega)
  refine AwC.back <| AwC.take (i := 10) NoP.midS rfl (by kernel_rfl) (by kernel_rfl) (by kernel_rfl) (fun w1 hc => Ex.assign rfl) rfl <| AwC.done (by assumption) (by kernel_rfl) ?_
  exact Pw.midS (()) ⟨rfl, rfl, rfl, rfl, rfl, rfl, trivial⟩ (hC')
 rintro ⟨⟩ w6 hC
 replace hB := bt hB hC
 replace hG := hG.bs hC
 replace b_g := b_g.bs hC
 replace hW := hW.bs hC
 replace b_3 := b_3.bs hC
 replace h_a3 := h_a3.bs hC
 replace h_q4 := h_q4.bs hC
 clear hC hw0 z0
 clear w0
 obtain ⟨w0, hw0⟩ : ∃ w0, w0 = w6 := ⟨_, rfl⟩
 rw [← hw0] at hB hG b_g hW b_3 h_a3 h_q4
 have z0 := below_size hB
 rw [← hw0]
 refine Cw.seq <| Cw.region <| Lw.valW (Xw.lit (vs := ([0, 0] : List Int).map (Value.int .i64)) st_26 it_3 rfl rfl rfl rfl rfl) rfl ?_
 rintro z w ⟨o_z, -, hn, -⟩
 replace hB := hB.bs hn
 replace b_3 := b_3.bs hn
 replace h_a3 := h_a3.bs hn
 replace h_q4 := h_q4.bs hn
 clear hn
 refine Lw.val (Ex.build (cs := [b8 3#8, z, .slice none 0 0, .int .i64 0, .int .i64 0]) rfl (bt_nodeI 3#8 z (sl_form (own_sl o_z)))) rfl <| Lw.valW (Xw.lit (vs := ([1#32, 2#32] : List (BitVec 32)).map i32) st_27 it_21 rfl (by kernel_rfl) rfl rfl rfl) rfl ?_
 rintro p w ⟨ho, -, hn, -⟩
 have t_p := own_slT ho
 clear ho
 replace hB := hB.bs hn
 replace b_3 := b_3.bs hn
 replace h_a3 := h_a3.bs hn
 replace h_q4 := h_q4.bs hn
 replace o_z := o_z.bs hn
 clear hn
 refine Lw.callF rfl rfl (mof_c p [1#32, 2#32] w t_p) ?_
 rintro _ w ⟨hn, x_p, rfl, s_p⟩
 replace hB := hB.bs hn
 replace b_3 := b_3.bs hn
 replace h_a3 := h_a3.bs hn
 replace h_q4 := h_q4.bs hn
 replace o_z := o_z.bs hn
 replace t_p := t_p.bs hn
 clear hn
 refine Lw.valW (Xw.lit (vs := ([1#32] : List (BitVec 32)).map i32) st_27 it_21 rfl (by kernel_rfl) rfl rfl rfl) rfl ?_
 rintro q w ⟨ho, -, hn, -⟩
 have t_q := own_slT ho
 clear ho
 replace hB := hB.bs hn
 replace b_3 := b_3.bs hn
 replace h_a3 := h_a3.bs hn
 replace h_q4 := h_q4.bs hn
 replace o_z := o_z.bs hn
 replace t_p := t_p.bs hn
 replace s_p := s_p.bs hn
 clear hn
 refine Lw.callF rfl rfl (mof_c q [1#32] w t_q) ?_
 rintro _ w ⟨hn, x_q, rfl, s_q⟩
 replace hB := hB.bs hn
 replace b_3 := b_3.bs hn
 replace h_a3 := h_a3.bs hn
 replace h_q4 := h_q4.bs hn
 replace o_z := o_z.bs hn
 replace t_p := t_p.bs hn
 replace s_p := s_p.bs hn
 replace t_q := t_q.bs hn
 clear hn
 refine Lw.valW (Xw.litA (vs := [(0, (T4.mk x_p p [2] [1#32, 2#32]).v), (1, (T4.mk x_q q [1] [1#32]).v)]) (cs := cellsOf [⟨x_p, p, [2], [1#32, 2#32]⟩, ⟨x_q, q, [1], [1#32]⟩]) st_25 it_29 rfl (by decide) (by decide) (by decide) (by kernel_rfl) rfl) rfl ?_
 rintro d7 w ⟨ho, -, hn, -⟩
 replace hB := hB.bs hn
 replace b_3 := b_3.bs hn
 replace h_a3 := h_a3.bs hn
 replace h_q4 := h_q4.bs hn
 replace o_z := o_z.bs hn
 replace t_p := t_p.bs hn
 replace s_p := s_p.bs hn
 replace t_q := t_q.bs hn
 replace s_q := s_q.bs hn
 clear hn
 have hT7 : Tens w d7 [⟨x_p, p, [2], [1#32, 2#32]⟩, ⟨x_q, q, [1], [1#32]⟩] := ⟨own_sl ho, fun t ht => by
  rcases List.mem_cons.1 ht with rfl | ht
  ·exact ⟨s_p, t_p⟩
  ·rw [List.mem_singleton.1 ht]; exact ⟨s_q, t_q⟩⟩
 refine Lw.callF rfl rfl (do_c ⟨3#8, z, .slice none 0 0, [0, 0], [], 0, 0⟩ d7 _ w ⟨own_slT o_z, Sl.nil _ _⟩ hT7) ?_
 rintro _ w ⟨hn, hA⟩
 replace hB := hB.bs hn
 replace b_3 := b_3.bs hn
 replace h_a3 := h_a3.bs hn
 replace h_q4 := h_q4.bs hn
 replace o_z := o_z.bs hn
 replace t_p := t_p.bs hn
 replace s_p := s_p.bs hn
 replace t_q := t_q.bs hn
 replace s_q := s_q.bs hn
 clear hn hT7
 have e7 : doE ⟨3#8, z, .slice none 0 0, [0, 0], [], 0, 0⟩ [⟨x_p, p, [2], [1#32, 2#32]⟩, ⟨x_q, q, [1], [1#32]⟩] = 10 := by kernel_rfl
 rw [e7] at hA
 obtain ⟨c7, rfl, h_c7, -, -⟩ := hA
 refine Lw.val (Ex.move rfl) rfl <| Lw.val (Ex.extract (i := 0) rfl rfl) rfl <| Lw.val (Ex.extract (i := 1) rfl rfl) rfl <| Lw.boxed (cs := [c7.x, c7.y]) it_29 rfl rfl rfl rfl (fun _ => rfl) (h_c7.one) ?_
 rintro A_c7 w eA_c7 b_c7 hn -
 replace hB := hB.bs hn
 replace b_3 := b_3.bs hn
 replace h_a3 := h_a3.bs hn
 replace h_q4 := h_q4.bs hn
 replace o_z := o_z.bs hn
 replace t_p := t_p.bs hn
 replace s_p := s_p.bs hn
 replace t_q := t_q.bs hn
 replace s_q := s_q.bs hn
 clear hn
 refine Lw.val (Ex.assign rfl) rfl <| Lw.nil <| Pw.thenN <| Cw.out <| Cw.seq <| Cw.region <| Lw.valW (Xw.lit (vs := ([2] : List Int).map (Value.int .i64)) st_26 it_3 rfl rfl rfl rfl rfl) rfl ?_
 rintro y w ⟨o_y, -, hn, -⟩
 replace hB := hB.bs hn
 replace b_3 := b_3.bs hn
 replace h_a3 := h_a3.bs hn
 replace h_q4 := h_q4.bs hn
 clear hn
 refine Lw.val (Ex.build (cs := [b8 1#8, .slice none 0 0, y, .int .i64 0, .int .i64 0]) rfl (bt_nodeS 1#8 y (sl_form (own_sl o_y)))) rfl <| Lw.callF rfl rfl (do_c ⟨1#8, .slice none 0 0, y, [], [2], 0, 0⟩ (.slice none 0 0) [] w ⟨Sl.nil _ _, own_slT o_y⟩ ⟨Sl.nil _ _, fun _ h => by cases h⟩) ?_
 rintro _ w ⟨hn, hA⟩
 replace hB := hB.bs hn
 replace b_3 := b_3.bs hn
 replace h_a3 := h_a3.bs hn
 replace h_q4 := h_q4.bs hn
 replace o_y := o_y.bs hn
 clear hn
 have e8 : doE ⟨1#8, .slice none 0 0, y, [], [2], 0, 0⟩ [] = 1 := live_in _ _
 rw [e8] at hA
 obtain ⟨c8, rfl, h_c8, -, -⟩ := hA
 refine Lw.val (Ex.move rfl) rfl <| Lw.val (Ex.extract (i := 0) rfl rfl) rfl <| Lw.val (Ex.extract (i := 1) rfl rfl) rfl <| Lw.boxed (cs := [c8.x, c8.y]) it_29 rfl rfl rfl rfl (fun _ => rfl) (h_c8.one) ?_
 rintro A_c8 w eA_c8 b_c8 hn -
 replace hB := hB.bs hn
 replace b_3 := b_3.bs hn
 replace h_a3 := h_a3.bs hn
 replace h_q4 := h_q4.bs hn
 replace o_y := o_y.bs hn
 clear hn
 refine Lw.val (Ex.assign rfl) rfl <| Lw.nil <| Pw.thenN <| Cw.out <| Cw.seq ?_
 refine Cw.mono (fun i v w' => PhiT (liveT a3.v q4) i v w') mixed (by kernel_rfl) (fun i v w w' h g => Ph.stab h g) ?_ ?_ (by kernel_rfl)
 ·skip
  refine AllOps.cons (fun s w' hB0 hd => ⟨fun j g h => (by cases h), Ow.val (Ex.move rfl) ⟨Below.refl _ _, fun _ => rfl⟩⟩) ?_
  refine AllOps.cons (fun s w' hB0 hd => ⟨fun j g h => (by cases h), Ow.val (Ex.eql (m := 0) (q := 0) (congrArg some (show s 0 = .int .i64 0 from dep hd 0 (by kernel_rfl))) rfl) ⟨Below.refl _ _, fun _ => rfl⟩⟩) ?_
  refine AllOps.cons (fun s w' hB0 hd => ⟨fun j g h => (by cases h), Ow.val (Ex.move rfl) ⟨Below.refl _ _, fun _ => dep hd 1 (by kernel_rfl)⟩⟩) ?_
  refine AllOps.cons (fun s w' hB0 hd => ⟨fun j g h => (by cases h; exact dep hd 2 (by kernel_rfl)), Ow.val (Ex.ldA (k := 2) (ag_29 _) (sz_29 _) rfl rfl (b_3.bs hB0)) ⟨Below.refl _ _, fun _ => rfl⟩⟩) ?_
  refine AllOps.cons (fun s w' hB0 hd => ⟨fun j g h => (by cases h; exact dep hd 2 (by kernel_rfl)), Ow.mk (Xw.lit (vs := ([11#32] : List (BitVec 32)).map i32) st_27 it_21 rfl (by kernel_rfl) rfl rfl rfl) (fun v w2 h => ⟨h.2.2.1, fun _ => own_slT h.1⟩)⟩) ?_
  refine AllOps.cons (fun s w' hB0 hd => ⟨fun j g h => (by cases h; exact dep hd 2 (by kernel_rfl)), ?_⟩) ?_
  ·have hs : SlT i32 w' (s 4) [11#32] := dep hd 4 (by kernel_rfl)
   refine Ow.call (Xc.mk (mof_c (s 4) [11#32] w' hs).1 rfl) (mof_c (s 4) [11#32] w' hs) (fun v w2 ⟨hn, x, e, sx⟩ => ⟨hn, fun _ => ⟨x, s 4, e, sx, hs.bs hn⟩⟩)
  refine AllOps.cons (fun s w' hB0 hd => ⟨fun j g h => (by cases h; exact dep hd 2 (by kernel_rfl)), ?_⟩) ?_
  ·have e3 : s 3 = a3.v := dep hd 3 (by kernel_rfl)
   obtain ⟨x, u, e5, h1, h2⟩ := show Ph.ok (.ten [11#32]) (s 5) w' from dep hd 5 (by kernel_rfl)
   have hc := same_c a3.x a3.y x u a3.s [((([11#32] : List (BitVec 32)).length : Nat) : Int)] a3.l [11#32] w' (h_a3.bs hB0).1 (h_a3.bs hB0).2 h1 h2
   refine Ow.call (Xc.mk (vs := [a3.v, .agg #[x, u]]) hc.1 (by show some [s 3, s 5] = _; rw [e3, e5])) hc (fun v w2 ⟨e, hn⟩ => ⟨hn, fun _ => ?_⟩)
   have p1 : a3.s = [1] := congrArg Prod.fst p_a3
   have p2 : a3.l = [11#32] := congrArg Prod.snd p_a3
   rw [e, p1, p2]
   rfl
  refine AllOps.cons (fun s w' hB0 hd => ⟨fun j g h => (by cases h), Ow.val (Ex.pickT (congrArg some (show s 2 = .bool true from dep hd 2 (by kernel_rfl))) rfl) ⟨Below.refl _ _, fun _ => dep hd 6 (by kernel_rfl)⟩⟩) ?_
  refine AllOps.cons (fun s w' hB0 hd => ⟨fun j g h => (by cases h), Ow.val (Ex.move rfl) ⟨Below.refl _ _, fun _ => dep hd 7 (by kernel_rfl)⟩⟩) ?_
  refine AllOps.cons (fun s w' hB0 hd => ⟨fun j g h => (by cases h; exact dep hd 8 (by kernel_rfl)), Ow.val (Ex.move rfl) ⟨Below.refl _ _, fun _ => rfl⟩⟩) ?_
  refine AllOps.cons (fun s w' hB0 hd => ⟨fun j g h => (by cases h; exact dep hd 8 (by kernel_rfl)), Ow.val (Ex.eql (m := 0) (q := 0) (congrArg some (show s 9 = .int .i64 0 from dep hd 9 (by kernel_rfl))) rfl) ⟨Below.refl _ _, fun _ => rfl⟩⟩) ?_
  refine AllOps.cons (fun s w' hB0 hd => ⟨fun j g h => (by cases h), Ow.val (Ex.pickT (congrArg some (show s 8 = .bool true from dep hd 8 (by kernel_rfl))) rfl) ⟨Below.refl _ _, fun _ => dep hd 10 (by kernel_rfl)⟩⟩) ?_
  refine AllOps.cons (fun s w' hB0 hd => ⟨fun j g h => (by cases h), Ow.val (Ex.move rfl) ⟨Below.refl _ _, fun _ => dep hd 11 (by kernel_rfl)⟩⟩) ?_
  refine AllOps.cons (fun s w' hB0 hd => ⟨fun j g h => (by cases h; exact dep hd 12 (by kernel_rfl)), Ow.val (Ex.move rfl) ⟨Below.refl _ _, fun _ => rfl⟩⟩) ?_
  refine AllOps.cons (fun s w' hB0 hd => ⟨fun j g h => (by cases h; exact dep hd 12 (by kernel_rfl)), Ow.mk (Xw.lit (vs := ([1#32, 2#32] : List (BitVec 32)).map i32) st_27 it_21 rfl (by kernel_rfl) rfl rfl rfl) (fun v w2 h => ⟨h.2.2.1, fun _ => own_slT h.1⟩)⟩) ?_
  refine AllOps.cons (fun s w' hB0 hd => ⟨fun j g h => (by cases h; exact dep hd 12 (by kernel_rfl)), ?_⟩) ?_
  ·have hs : SlT i32 w' (s 14) [1#32, 2#32] := dep hd 14 (by kernel_rfl)
   refine Ow.call (Xc.mk (mof_c (s 14) [1#32, 2#32] w' hs).1 rfl) (mof_c (s 14) [1#32, 2#32] w' hs) (fun v w2 ⟨hn, x, e, sx⟩ => ⟨hn, fun _ => ⟨x, s 14, e, sx, hs.bs hn⟩⟩)
  refine AllOps.cons (fun s w' hB0 hd => ⟨fun j g h => (by cases h; exact dep hd 12 (by kernel_rfl)), Ow.mk (Xw.lit (vs := ([3#32, 4#32] : List (BitVec 32)).map i32) st_27 it_21 rfl (by kernel_rfl) rfl rfl rfl) (fun v w2 h => ⟨h.2.2.1, fun _ => own_slT h.1⟩)⟩) ?_
  refine AllOps.cons (fun s w' hB0 hd => ⟨fun j g h => (by cases h; exact dep hd 12 (by kernel_rfl)), ?_⟩) ?_
  ·have hs : SlT i32 w' (s 16) [3#32, 4#32] := dep hd 16 (by kernel_rfl)
   refine Ow.call (Xc.mk (mof_c (s 16) [3#32, 4#32] w' hs).1 rfl) (mof_c (s 16) [3#32, 4#32] w' hs) (fun v w2 ⟨hn, x, e, sx⟩ => ⟨hn, fun _ => ⟨x, s 16, e, sx, hs.bs hn⟩⟩)
  refine AllOps.cons (fun s w' hB0 hd => ⟨fun j g h => (by cases h; exact dep hd 12 (by kernel_rfl)), Ow.mk (Xw.lit (vs := ([3#32, 8#32] : List (BitVec 32)).map i32) st_27 it_21 rfl (by kernel_rfl) rfl rfl rfl) (fun v w2 h => ⟨h.2.2.1, fun _ => own_slT h.1⟩)⟩) ?_
  refine AllOps.cons (fun s w' hB0 hd => ⟨fun j g h => (by cases h; exact dep hd 12 (by kernel_rfl)), ?_⟩) ?_
  ·have hs : SlT i32 w' (s 18) [3#32, 8#32] := dep hd 18 (by kernel_rfl)
   refine Ow.call (Xc.mk (mof_c (s 18) [3#32, 8#32] w' hs).1 rfl) (mof_c (s 18) [3#32, 8#32] w' hs) (fun v w2 ⟨hn, x, e, sx⟩ => ⟨hn, fun _ => ⟨x, s 18, e, sx, hs.bs hn⟩⟩)
  refine AllOps.cons (fun s w' hB0 hd => ⟨fun j g h => (by cases h; exact dep hd 12 (by kernel_rfl)), Ow.mk (Xw.lit (vs := ([11#32] : List (BitVec 32)).map i32) st_27 it_21 rfl (by kernel_rfl) rfl rfl rfl) (fun v w2 h => ⟨h.2.2.1, fun _ => own_slT h.1⟩)⟩) ?_
  refine AllOps.cons (fun s w' hB0 hd => ⟨fun j g h => (by cases h; exact dep hd 12 (by kernel_rfl)), ?_⟩) ?_
  ·have hs : SlT i32 w' (s 20) [11#32] := dep hd 20 (by kernel_rfl)
   refine Ow.call (Xc.mk (mof_c (s 20) [11#32] w' hs).1 rfl) (mof_c (s 20) [11#32] w' hs) (fun v w2 ⟨hn, x, e, sx⟩ => ⟨hn, fun _ => ⟨x, s 20, e, sx, hs.bs hn⟩⟩)
  refine AllOps.cons (fun s w' hB0 hd => ⟨fun j g h => (by cases h; exact dep hd 12 (by kernel_rfl)), ?_⟩) ?_
  ·obtain ⟨x5, u5, e5, h5, g5⟩ := show Ph.ok (.ten [1#32, 2#32]) (s 15) w' from dep hd 15 (by kernel_rfl)
   obtain ⟨x6, u6, e6, h6, g6⟩ := show Ph.ok (.ten [3#32, 4#32]) (s 17) w' from dep hd 17 (by kernel_rfl)
   obtain ⟨x7, u7, e7, h7, g7⟩ := show Ph.ok (.ten [3#32, 8#32]) (s 19) w' from dep hd 19 (by kernel_rfl)
   obtain ⟨x8, u8, e8, h8, g8⟩ := show Ph.ok (.ten [11#32]) (s 21) w' from dep hd 21 (by kernel_rfl)
   refine Ow.mk (Xw.litA (sz := 2) (ps := [(0, .tmp 82), (1, .tmp 84), (2, .tmp 86), (3, .tmp 88)]) (vs := [(0, .agg #[x5, u5]), (1, .agg #[x6, u6]), (2, .agg #[x7, u7]), (3, .agg #[x8, u8])]) (cs := cellsOf [⟨x5, u5, [2], [1#32, 2#32]⟩, ⟨x6, u6, [2], [3#32, 4#32]⟩, ⟨x7, u7, [2], [3#32, 8#32]⟩, ⟨x8, u8, [1], [11#32]⟩]) st_25 it_29 (by show some [(0, s 15), (1, s 17), (2, s 19), (3, s 21)] = _; rw [e5, e6, e7, e8]) (by decide) (by decide) (by decide) (by kernel_rfl) rfl) (fun v w2 ⟨ho, _, hn, _⟩ => ⟨hn, fun _ => ⟨[⟨x5, u5, [2], [1#32, 2#32]⟩, ⟨x6, u6, [2], [3#32, 4#32]⟩, ⟨x7, u7, [2], [3#32, 8#32]⟩, ⟨x8, u8, [1], [11#32]⟩], ⟨own_sl ho, fun t ht => ?_⟩, rfl⟩⟩)
   simp only [List.mem_cons, List.not_mem_nil, or_false] at ht
   rcases ht with rfl | rfl | rfl | rfl
   ·exact ⟨h5.bs hn, g5.bs hn⟩
   ·exact ⟨h6.bs hn, g6.bs hn⟩
   ·exact ⟨h7.bs hn, g7.bs hn⟩
   ·exact ⟨h8.bs hn, g8.bs hn⟩
  refine AllOps.cons (fun s w' hB0 hd => ⟨fun j g h => (by cases h; exact dep hd 12 (by kernel_rfl)), ?_⟩) ?_
  ·have e3 : s 13 = q4 := dep hd 13 (by kernel_rfl)
   obtain ⟨ts, h1, h2⟩ := show Ph.ok (.tens [([2], [1#32, 2#32]), ([2], [3#32, 4#32]), ([2], [3#32, 8#32]), ([1], [11#32])]) (s 22) w' from dep hd 22 (by kernel_rfl)
   have hc := sameTs_c q4 (s 22) ts4 ts w' (h_q4.bs hB0) h1
   refine Ow.call (Xc.mk (vs := [q4, s 22]) hc.1 (by show some [s 13, s 22] = _; rw [e3])) hc (fun v w2 ⟨e, hn⟩ => ⟨hn, fun _ => ?_⟩)
   rw [e, p_4, h2, decide_eq_true rfl]
   rfl
  refine AllOps.cons (fun s w' hB0 hd => ⟨fun j g h => (by cases h), Ow.val (Ex.pickT (congrArg some (show s 12 = .bool true from dep hd 12 (by kernel_rfl))) rfl) ⟨Below.refl _ _, fun _ => dep hd 23 (by kernel_rfl)⟩⟩) ?_
  refine AllOps.cons (fun s w' hB0 hd => ⟨fun j g h => (by cases h), Ow.val (Ex.move rfl) ⟨Below.refl _ _, fun _ => dep hd 24 (by kernel_rfl)⟩⟩) ?_
  refine AllOps.cons (fun s w' hB0 hd => ⟨fun j g h => (by cases h; exact dep hd 25 (by kernel_rfl)), Ow.val (Ex.move rfl) ⟨Below.refl _ _, fun _ => rfl⟩⟩) ?_
  refine AllOps.cons (fun s w' hB0 hd => ⟨fun j g h => (by cases h; exact dep hd 25 (by kernel_rfl)), Ow.val (Ex.eql (m := 1) (q := 1) (congrArg some (show s 26 = .int .i64 1 from dep hd 26 (by kernel_rfl))) rfl) ⟨Below.refl _ _, fun _ => rfl⟩⟩) ?_
  refine AllOps.cons (fun s w' hB0 hd => ⟨fun j g h => (by cases h), Ow.val (Ex.pickT (congrArg some (show s 25 = .bool true from dep hd 25 (by kernel_rfl))) rfl) ⟨Below.refl _ _, fun _ => dep hd 27 (by kernel_rfl)⟩⟩) ?_
  refine AllOps.cons (fun s w' hB0 hd => ⟨fun j g h => (by cases h), Ow.val (Ex.move rfl) ⟨Below.refl _ _, fun _ => dep hd 28 (by kernel_rfl)⟩⟩) ?_
  refine AllOps.cons (fun s w' hB0 hd => ⟨fun j g h => (by cases h; exact dep hd 29 (by kernel_rfl)), Ow.val (Ex.move rfl) ⟨Below.refl _ _, fun _ => rfl⟩⟩) ?_
  refine AllOps.cons (fun s w' hB0 hd => ⟨fun j g h => (by cases h; exact dep hd 29 (by kernel_rfl)), Ow.val (Ex.eql (m := 1) (q := 1) (congrArg some (show s 30 = .int .i64 1 from dep hd 30 (by kernel_rfl))) rfl) ⟨Below.refl _ _, fun _ => rfl⟩⟩) ?_
  refine AllOps.cons (fun s w' hB0 hd => ⟨fun j g h => (by cases h), Ow.val (Ex.pickT (congrArg some (show s 29 = .bool true from dep hd 29 (by kernel_rfl))) rfl) ⟨Below.refl _ _, fun _ => dep hd 31 (by kernel_rfl)⟩⟩) ?_
  refine AllOps.cons (fun s w' hB0 hd => ⟨fun j g h => (by cases h), Ow.val (Ex.move rfl) ⟨Below.refl _ _, fun _ => dep hd 32 (by kernel_rfl)⟩⟩) ?_
  refine AllOps.cons (fun s w' hB0 hd => ⟨fun j g h => (by cases h; exact dep hd 33 (by kernel_rfl)), Ow.val (Ex.move rfl) ⟨Below.refl _ _, fun _ => rfl⟩⟩) ?_
  refine AllOps.cons (fun s w' hB0 hd => ⟨fun j g h => (by cases h; exact dep hd 33 (by kernel_rfl)), Ow.val (Ex.eql (m := 10) (q := 10) (congrArg some (show s 34 = .int .i64 10 from dep hd 34 (by kernel_rfl))) rfl) ⟨Below.refl _ _, fun _ => rfl⟩⟩) ?_
  refine AllOps.cons (fun s w' hB0 hd => ⟨fun j g h => (by cases h), Ow.val (Ex.pickT (congrArg some (show s 33 = .bool true from dep hd 33 (by kernel_rfl))) rfl) ⟨Below.refl _ _, fun _ => dep hd 35 (by kernel_rfl)⟩⟩) ?_
  refine AllOps.cons (fun s w' hB0 hd => ⟨fun j g h => (by cases h), Ow.val (Ex.move rfl) ⟨Below.refl _ _, fun _ => dep hd 36 (by kernel_rfl)⟩⟩) ?_
  refine AllOps.cons (fun s w' hB0 hd => ⟨fun j g h => (by cases h; exact dep hd 37 (by kernel_rfl)), Ow.val (Ex.move rfl) ⟨Below.refl _ _, fun _ => rfl⟩⟩) ?_
  refine AllOps.cons (fun s w' hB0 hd => ⟨fun j g h => (by cases h; exact dep hd 37 (by kernel_rfl)), Ow.val (Ex.eql (m := 1) (q := 1) (congrArg some (show s 38 = .int .i64 1 from dep hd 38 (by kernel_rfl))) rfl) ⟨Below.refl _ _, fun _ => rfl⟩⟩) ?_
  refine AllOps.cons (fun s w' hB0 hd => ⟨fun j g h => (by cases h), Ow.val (Ex.pickT (congrArg some (show s 37 = .bool true from dep hd 37 (by kernel_rfl))) rfl) ⟨Below.refl _ _, fun _ => dep hd 39 (by kernel_rfl)⟩⟩) ?_
  refine AllOps.cons (fun s w' hB0 hd => ⟨fun j g h => (by cases h), Ow.val (Ex.assign rfl) ⟨Below.refl _ _, fun _ => dep hd 40 (by kernel_rfl)⟩⟩) ?_
  exact AllOps.nil
 intro s w' hB1 hall
 have h41 : s 41 = .bool true := hall 41 (by decide) rfl
 have hBF := bt hB hB1
 refine Pw.thenN <| Cw.out <| Cw.ret <| Pw.ret1 rfl rfl ?_
 exact ⟨h41, hBF⟩
end Go.Proofs.YtmipoeanpnnjoaaGreat

/-! Nodes, graphs and tensors as a statement's argument; how great they are. -/
namespace Go.Proofs.YtmipoeanpnnjoaaGreat
open Go Go.Dd Go.RowKit Go.ChangeShapes Go.WideShapes
set_option maxRecDepth 100000

def fewT (a : T4) : Prop := a.s.length ≤ 1125899906842624 ∧ a.l.length ≤ 1125899906842624
structure N5.few (a : N5) : Prop where
 i : a.i.length ≤ 1125899906842624
 s : a.s.length ≤ 1125899906842624
 n : -9223372036854775808 ≤ a.n ∧ a.n ≤ 9223372036854775807
 p : -9223372036854775808 ≤ a.p ∧ a.p ≤ 9223372036854775807
theorem five_of {α : Type} {l : List α} (h : l.length = 5) : ∃ a b c d e, l = [a, b, c, d, e] := by
 match l, h with
 | [a, b, c, d, e], _ => exact ⟨a, b, c, d, e, rfl⟩
theorem in_node {H : Type} {enc : TypeId × Value → H} {w : World} {cs : List Value} (h : In enc Tryz.prog w nodeT cs) : ∃ a : N5, cs = a.cells ∧ N5.at w a ∧ a.few := by
 obtain ⟨hlen, hel⟩ := h.struct Tryz.underlying45
 have c5 : Tryz.prog.cellsOf nodeT = 5 := by kernel_rfl
 have c1 : Tryz.prog.cellsOf 26 = 1 := by kernel_rfl
 have d1 : Tryz.prog.cellsOf 3 = 1 := by kernel_rfl
 have e1 : Tryz.prog.cellsOf 43 = 1 := by kernel_rfl
 rw [c5] at hlen
 obtain ⟨k0, x0, y0, n0, p0, rfl⟩ := five_of hlen
 obtain ⟨k, ek⟩ := In.num (BitVec.ofInt 8) b8 (fun _ h => wf_u8 h) un_43 (hel 0 _ rfl)
 obtain ⟨u0, i, e0, h0, q0⟩ := (hel 1 _ rfl).slT un_26 (by kernel_rfl) (fun cs h => (In.int un_3 h).imp fun _ h => h.1)
 obtain ⟨u1, s, e2, h1, q1⟩ := (hel 2 _ rfl).slT un_26 (by kernel_rfl) (fun cs h => (In.int un_3 h).imp fun _ h => h.1)
 obtain ⟨n, en, wn⟩ := In.int un_3 (hel 3 _ rfl)
 obtain ⟨p, ep, wp⟩ := In.int un_3 (hel 4 _ rfl)
 have k0 : Tryz.prog.bytesOf 3 = 8 := by kernel_rfl
 rw [k0] at q0 q1
 simp [c1, d1, e1] at ek e0 e2 en ep
 subst e0 e2 ek en ep
 have hr : reachBytes ≤ 140737488355328 := by decide
 exact ⟨⟨k, x0, y0, i, s, n, p⟩, rfl, ⟨h0, h1⟩, ⟨by simp only; omega, by simp only; omega, wf_i64 wn, wf_i64 wp⟩⟩
theorem tens_of {H : Type} {enc : TypeId × Value → H} {w : World} : ∀ {n : Nat} {xs : List Value}, xs.length = n * 2 → (∀ i, i < n → In enc Tryz.prog w 29 ((xs.drop (i * 2)).take 2)) →
  ∃ ts : List T4, ts.length = n ∧ cellsOf ts = xs ∧ ∀ t ∈ ts, t.at w ∧ fewT t
 | 0, xs, hl, _ => by
  obtain rfl : xs = [] := List.eq_nil_of_length_eq_zero (by omega)
  exact ⟨[], rfl, rfl, fun t ht => by simp at ht⟩
 | n + 1, [], hl, _ => by simp at hl
 | n + 1, [_], hl, _ => by simp at hl; omega
 | n + 1, x :: y :: xs, hl, h => by
  obtain ⟨a, ea, ha, b1, b2⟩ := in_ten (h 0 (by omega))
  obtain ⟨ts, h1, h2, h3⟩ := tens_of (n := n) (xs := xs) (by simp at hl; omega) fun i hi => by
   have := h (i + 1) (by omega)
   rw [show (i + 1) * 2 = i * 2 + 1 + 1 by omega] at this
   simpa using this
  simp at ea
  refine ⟨a :: ts, by simp [h1], by rw [cellsOf, h2, ea.1, ea.2], fun t ht => ?_⟩
  rcases List.mem_cons.1 ht with rfl | ht
  ·exact ⟨ha, by omega, by omega⟩
  ·exact h3 t ht
theorem in_tens {H : Type} {enc : TypeId × Value → H} {w : World} {cs : List Value} (h : In enc Tryz.prog w 25 cs) : ∃ v, cs = [v] ∧ ∃ ts : List T4, Tens w v ts ∧ ts.length ≤ 1125899906842624 ∧ ∀ t ∈ ts, fewT t := by
 obtain ⟨v, n, xs, e, hs, hb, hi⟩ := h.slice un_25 (sz := 2) (by kernel_rfl)
 obtain ⟨ts, h1, h2, h3⟩ := tens_of hs.len hi
 subst h1 h2
 have hr : reachBytes ≤ 140737488355328 := by decide
 have kb : Tryz.prog.bytesOf 29 = 48 := by kernel_rfl
 rw [kb] at hb
 exact ⟨v, e, ts, ⟨hs, fun t ht => (h3 t ht).1⟩, by omega, fun t ht => (h3 t ht).2⟩
theorem nodes_of {H : Type} {enc : TypeId × Value → H} {w : World} : ∀ {n : Nat} {xs : List Value}, xs.length = n * 5 → (∀ i, i < n → In enc Tryz.prog w nodeT ((xs.drop (i * 5)).take 5)) →
  ∃ ls : List N5, ls.length = n ∧ flw N5.cells ls = xs ∧ ∀ a ∈ ls, N5.at w a ∧ a.few
 | 0, xs, hl, _ => by
  obtain rfl : xs = [] := List.eq_nil_of_length_eq_zero (by omega)
  exact ⟨[], rfl, rfl, fun t ht => by simp at ht⟩
 | n + 1, xs, hl, h => by
  obtain ⟨a, ea, ha, hf⟩ := in_node (h 0 (by omega))
  obtain ⟨ls, h1, h2, h3⟩ := nodes_of (n := n) (xs := xs.drop 5) (by simp; omega) fun i hi => by
   have := h (i + 1) (by omega)
   rwa [List.drop_drop, show 5 + i * 5 = (i + 1) * 5 by omega]
  refine ⟨a :: ls, by simp [h1], ?_, fun t ht => ?_⟩
  ·rw [show flw N5.cells (a :: ls) = a.cells ++ flw N5.cells ls from by simp [flw], h2, ← ea]
   simp
  ·rcases List.mem_cons.1 ht with rfl | ht
   ·exact ⟨ha, hf⟩
   ·exact h3 t ht
theorem in_nodes {H : Type} {enc : TypeId × Value → H} {w : World} {cs : List Value} (h : In enc Tryz.prog w 22 cs) : ∃ v, cs = [v] ∧ ∃ ls : List N5, GN w v ls ∧ ls.length ≤ 1125899906842624 ∧ ∀ t ∈ ls, t.few := by
 obtain ⟨v, n, xs, e, hs, hb, hi⟩ := h.slice un_22 (sz := 5) (by kernel_rfl)
 obtain ⟨ls, h1, h2, h3⟩ := nodes_of hs.len hi
 subst h1 h2
 have hr : reachBytes ≤ 140737488355328 := by decide
 have kb : Tryz.prog.bytesOf 45 = 72 := by kernel_rfl
 rw [kb] at hb
 exact ⟨v, e, ls, ⟨hs, fun t ht => (h3 t ht).1⟩, by omega, fun t ht => (h3 t ht).2⟩
theorem in_graph {H : Type} {enc : TypeId × Value → H} {w : World} {cs : List Value} (h : In enc Tryz.prog w 24 cs) : ∃ v, cs = [v] ∧ ∃ ls : List N5, GN w v ls ∧ ls.length ≤ 1125899906842624 ∧ ∀ t ∈ ls, t.few := by
 obtain ⟨hlen, hel⟩ := h.struct Tryz.underlying24
 have c1 : Tryz.prog.cellsOf 24 = 1 := by kernel_rfl
 have d1 : Tryz.prog.cellsOf 22 = 1 := by kernel_rfl
 rw [c1] at hlen
 have h0 : In enc Tryz.prog w 22 ((cs.drop 0).take (Tryz.prog.cellsOf 22)) := hel 0 _ rfl
 rw [d1, List.drop_zero, List.take_of_length_le (by omega)] at h0
 exact in_nodes h0

/-! ### How great -/
def tot : Int → List Int → Int
 | n, [] => n
 | n, x :: l => if n ≤ 1048576 then tot (n + x) l else n
theorem tot_le : ∀ {l : List Int} {n : Int}, (∀ x ∈ l, 0 ≤ x) → n ≤ tot n l
 | [], n, _ => Int.le_refl _
 | x :: l, n, h => by
  unfold tot
  split
  ·have := tot_le (n := n + x) fun y hy => h y (List.mem_cons_of_mem _ hy)
   have := h x (by simp)
   omega
  ·exact Int.le_refl _
theorem tot_each : ∀ {l : List Int} {n : Int}, (∀ x ∈ l, 0 ≤ x) → tot n l ≤ 1048576 → ∀ x ∈ l, n + x ≤ tot n l
 | [], _, _, _, x, hx => by simp at hx
 | y :: l, n, h, hle, x, hx => by
  have h2 : ∀ z ∈ l, 0 ≤ z := fun z hz => h z (List.mem_cons_of_mem _ hz)
  have hn := tot_le (n := n) h
  have e : tot n (y :: l) = tot (n + y) l := by
   show (if n ≤ 1048576 then tot (n + y) l else n) = _
   rw [if_pos (by omega)]
  rw [e] at hle ⊢
  rcases List.mem_cons.1 hx with rfl | hx
  ·exact tot_le h2
  ·have := tot_each h2 hle x hx
   have := h y (by simp)
   omega
theorem tsz_pos (s : List Int) (l : List (BitVec 32)) : 1 ≤ tsz s l := by unfold tsz; split <;> omega
theorem tsz_few {a : T4} (h : fewT a) : tsz a.s a.l ≤ 4503599627370496 := by have h1 := h.1; have h2 := h.2; unfold tsz; split <;> omega
theorem tot_drop {l : List Int} {i : Nat} {n : Int} (hi : i < l.length) : tot n (l.drop i) = if n ≤ 1048576 then tot (n + l.getD i default) (l.drop (i + 1)) else n := by
 rw [List.drop_eq_getElem_cons hi]
 simp only [tot, List.getD_eq_getElem?_getD, List.getElem?_eq_getElem hi, Option.getD_some]
theorem tsizes_c (v : Value) (ts : List T4) (w : World) (h : Tens w v ts) (hl : ts.length ≤ 1125899906842624) (hf : ∀ t ∈ ts, fewT t) : Fnc Tryz.prog 23 [v] w (fun r w' => r = .int .i64 (tot (ts.length : Int) (ts.map fun t => tsz t.s t.l)) ∧ Below w.heap.size w w') := by
 have sv := h.1
 have lv := sv.le
 obtain ⟨T, hT⟩ : ∃ T, T = tot (ts.length : Int) (ts.map fun t => tsz t.s t.l) := ⟨_, rfl⟩
 rw [← hT]
 refine Fnc.enter (n := 25) Tryz.func23 (by kernel_rfl) rfl rfl rfl <| Cw.seq <| Cw.region <| Lw.val (Ex.assign rfl) rfl <| Lw.nil <| Pw.thenN <| Cw.out <| Cw.seq <| Cw.region <| Lw.val (Ex.move rfl) rfl <| Lw.val (Ex.lenS st_25 rfl (by assumption)) rfl ?_
 refine Lw.val (Ex.assign rfl) rfl <| Lw.nil <| Pw.thenN <| Cw.out <| Cw.seq <| Cw.seq <| Cw.region <| Lw.val (Ex.assign rfl) rfl <| Lw.nil <| Pw.thenN <| Cw.out <| Cw.block ?_
 refine Cw.loop (S := (Nat × Int)) (fun p => [(0, v), (3, .int .i64 p.2), (4, .int .i64 (p.1 : Int))]) (fun p w' => p.1 ≤ ts.length ∧ 0 ≤ p.2 ∧ p.2 ≤ 1125899906842624 + 4503599627370496 + 1048576 ∧ tot p.2 ((ts.map fun t => tsz t.s t.l).drop p.1) = T ∧ Below w.heap.size w w') (fun p => ts.length - p.1) ((0, (ts.length : Int))) ⟨rfl, rfl, rfl, trivial⟩ ?_ ?_
 ·exact ⟨Nat.zero_le _, by simp only; omega, by simp only; omega, hT.symm, Below.refl _ _⟩
 rintro ⟨i, n⟩ w1 ⟨hi, h0, h1, hE, hB⟩
 replace hi : i ≤ ts.length := hi
 replace h0 : 0 ≤ n := h0
 replace h1 : n ≤ 1125899906842624 + 4503599627370496 + 1048576 := h1
 replace hE : tot n ((ts.map fun t => tsz t.s t.l).drop i) = T := hE
 have sv := sv.bs hB
 refine Cw.seq <| Cw.seq <| Cw.region <| Lw.val (Ex.move rfl) rfl <| Lw.val (Ex.move rfl) rfl <| Lw.val (Ex.lenS st_25 rfl (by assumption)) rfl ?_
 refine Lw.val (Ex.lss rfl rfl) rfl <| Lw.val (Ex.move rfl) rfl ?_
 refine Lw.part 11 rfl ?_ ?_
 ·intro g
  have hi' : i < ts.length := by have := of_decide_eq_true g; omega
  have e1 := tot_drop (n := n) (l := ts.map fun t => tsz t.s t.l) (i := i) (by rw [List.length_map]; exact hi')
  obtain ⟨a, ha⟩ : ∃ a, a = ts[i] := ⟨_, rfl⟩
  have e2 : (ts.map fun t => tsz t.s t.l).getD i default = tsz a.s a.l := by rw [List.getD_eq_getElem?_getD, List.getElem?_map, List.getElem?_eq_getElem hi', ← ha]; rfl
  have hm : a ∈ ts := ha ▸ List.getElem_mem hi'
  have hfa := hf a hm
  have b1 := tsz_pos a.s a.l
  have b2 := tsz_few hfa
  have hcs := ten_cells hi'
  rw [← ha] at hcs
  rw [e1, e2] at hE
  refine Lw.take (dj := 11) rfl rfl <| Lw.val (Ex.move rfl) rfl <| Lw.take (dj := 11) rfl rfl <| Lw.val (Ex.leq rfl rfl) rfl <| Lw.val (Ex.pickT rfl rfl) rfl <| Lw.nil <| Pw.thenN <| Cw.out <| Cw.cond rfl ?_ ?_
  ·intro g2
   have g2 : n ≤ 1048576 := of_decide_eq_true g2
   rw [if_pos g2] at hE
   refine Cw.skip <| Pw.thenN <| Cw.out <| Cw.seq <| Cw.block <| Cw.region <| Lw.val (Ex.move rfl) rfl <| Lw.val (Ex.move rfl) rfl <| Lw.val (Ex.move rfl) rfl <| Lw.val (Ex.idx st_25 rfl rfl sv i rfl hi') rfl <| Lw.val (Ex.ldE (cs := [a.x, a.y]) (ag_29 _) (sz_29 _) rfl sv rfl (by decide) hcs) rfl <| Lw.callF rfl rfl (tsize_c a w1 ((h.2 a hm).bs hB) hfa.1 hfa.2) ?_
   rintro _ w2 ⟨rfl, hn⟩
   refine Lw.val (Ex.addI rfl rfl (by omega)) rfl <| Lw.val (Ex.assign rfl) rfl <| Lw.nil <| Pw.blkN <| Pw.thenN <| Cw.out <| Cw.region <| Lw.val (Ex.move rfl) rfl <| Lw.val (Ex.addI rfl rfl (by omega)) rfl <| Lw.val (Ex.assign rfl) rfl <| Lw.nil ?_
   exact Pw.thenN (Pw.next ((i + 1, n + tsz a.s a.l)) ⟨rfl, rfl, rfl, trivial⟩ (⟨hi', by simp only; omega, by simp only; omega, hE, bt hB hn⟩) (by simp only; omega))
  intro g2
  have g2 : ¬ n ≤ 1048576 := of_decide_eq_false g2
  rw [if_neg g2] at hE
  refine Cw.exit <| Pw.thenE <| Pw.thenE <| Pw.blkHit <| Pw.thenN <| Cw.out <| Cw.seq <| Cw.region <| Lw.val (Ex.move rfl) rfl <| Lw.val (Ex.assign rfl) rfl <| Lw.nil <| Pw.thenN <| Cw.out <| Cw.ret <| Pw.ret1 rfl rfl ?_
  exact ⟨by rw [← hE], hB⟩
 intro g
 have hi' : i = ts.length := by have := of_decide_eq_false g; omega
 have hE2 : n = T := by
  rw [hi', List.drop_of_length_le (by simp)] at hE; exact hE
 refine Lw.pass (dj := 11) rfl rfl rfl rfl <| Lw.pass (dj := 11) rfl rfl rfl rfl <| Lw.val (Ex.pickF rfl rfl) rfl <| Lw.nil <| Pw.thenN <| Cw.out <| Cw.condF rfl <| Cw.exit <| Pw.thenE <| Pw.thenE <| Pw.blkHit <| Pw.thenN <| Cw.out <| Cw.seq <| Cw.region <| Lw.val (Ex.move rfl) rfl <| Lw.val (Ex.assign rfl) rfl <| Lw.nil <| Pw.thenN <| Cw.out <| Cw.ret <| Pw.ret1 rfl rfl ?_
 exact ⟨by rw [hE2], hB⟩
def nsz (a : N5) : Int := if 1 + (a.i.length : Int) ≤ 1048576 then 1 + (a.i.length : Int) + (a.s.length : Int) else 1 + (a.i.length : Int)
theorem nsz_pos (a : N5) : 1 ≤ nsz a := by unfold nsz; split <;> omega
theorem nsz_few {a : N5} (h : a.few) : nsz a ≤ 4503599627370496 := by have h1 := h.i; have h2 := h.s; unfold nsz; split <;> omega
theorem tsz_le {s : List Int} {l : List (BitVec 32)} {m : Int} (h : tsz s l ≤ m) (hm : m ≤ 1048576) : (s.length : Int) + l.length + 1 ≤ m := by unfold tsz at h; split at h <;> omega
theorem nsize_c (a : N5) (w : World) (ha : N5.at w a) (hf : a.few) : Fnc Tryz.prog 22 [a.v] w (fun r w' => r = .int .i64 (nsz a) ∧ Below w.heap.size w w') := by
 have hB := Below.refl w.heap.size w
 have h_i := ha.i
 have h_s := ha.s
 have f_i := hf.i
 have f_s := hf.s
 refine Fnc.enter (n := 19) Tryz.func22 (by kernel_rfl) rfl rfl rfl <| Cw.seq <| Cw.region <| Lw.boxV (cs := a.cells) rfl rfl rfl ?_
 rintro A_n w eA_n b_n hn -
 replace hB := hB.bs hn
 replace h_i := h_i.bs hn
 replace h_s := h_s.bs hn
 clear hn
 refine Lw.val (Ex.assign rfl) rfl <| Lw.nil <| Pw.thenN <| Cw.out <| Cw.seq <| Cw.region <| Lw.val (Ex.assign rfl) rfl <| Lw.nil <| Pw.thenN <| Cw.out <| Cw.seq <| Cw.seq <| Cw.region <| Lw.val (Ex.move rfl) rfl <| Lw.val (Ex.leq rfl rfl) rfl <| Lw.nil <| Pw.thenN <| Cw.out <| Cw.condB rfl true (by decide) <| Cw.region <| Lw.val (Ex.move rfl) rfl <| Lw.val (Ex.fieldAddr (q := 0) Tryz.underlying45 rfl (sz_26 _) rfl) rfl <| Lw.val (Ex.ldB (ag_26 _) rfl (by assumption) rfl) rfl ?_
 refine Lw.callF rfl rfl (intsSize_c a.x a.i _ h_i) ?_
 rintro _ w2 ⟨rfl, hn⟩
 replace hB := hB.bs hn
 replace h_i := h_i.bs hn
 replace h_s := h_s.bs hn
 replace b_n := b_n.bs hn
 refine Lw.val (Ex.addI rfl rfl (by omega)) rfl <| Lw.val (Ex.assign rfl) rfl <| Lw.nil <| Pw.thenN <| Cw.out <| Cw.seq <| Cw.seq <| Cw.region <| Lw.val (Ex.move rfl) rfl <| Lw.val (Ex.leq rfl rfl) rfl <| Lw.nil <| Pw.thenN <| Cw.out <| Cw.cond rfl ?_ ?_
 ·intro g
  have g' := of_decide_eq_true g
  refine Cw.region <| Lw.val (Ex.move rfl) rfl <| Lw.val (Ex.fieldAddr (q := 0) Tryz.underlying45 rfl (sz_26 _) rfl) rfl <| Lw.val (Ex.ldB (ag_26 _) rfl (by assumption) rfl) rfl ?_
  refine Lw.callF rfl rfl (intsSize_c a.y a.s w2 h_s) ?_
  rintro _ w3 ⟨rfl, hn⟩
  replace hB := hB.bs hn
  replace h_i := h_i.bs hn
  replace h_s := h_s.bs hn
  replace b_n := b_n.bs hn
  refine Lw.val (Ex.addI rfl rfl (by omega)) rfl <| Lw.val (Ex.assign rfl) rfl <| Lw.nil <| Pw.thenN <| Cw.out <| Cw.seq <| Cw.region <| Lw.val (Ex.move rfl) rfl <| Lw.val (Ex.assign rfl) rfl <| Lw.nil <| Pw.thenN <| Cw.out <| Cw.ret <| Pw.ret1 rfl rfl ?_
  exact ⟨by rw [nsz, if_pos g'], hB⟩
 ·intro g
  have g' := of_decide_eq_false g
  refine Cw.skip <| Pw.thenN <| Cw.out <| Cw.seq <| Cw.region <| Lw.val (Ex.move rfl) rfl <| Lw.val (Ex.assign rfl) rfl <| Lw.nil <| Pw.thenN <| Cw.out <| Cw.ret <| Pw.ret1 rfl rfl ?_
  exact ⟨by rw [nsz, if_neg g'], hB⟩
theorem nsizes_c (v : Value) (ls : List N5) (w : World) (h : GN w v ls) (hl : ls.length ≤ 1125899906842624) (hf : ∀ t ∈ ls, t.few) : Fnc Tryz.prog 55 [v] w (fun r w' => r = .int .i64 (tot (ls.length : Int) (ls.map nsz)) ∧ Below w.heap.size w w') := by
 have sv := h.1
 have lv := sv.le
 obtain ⟨T, hT⟩ : ∃ T, T = tot (ls.length : Int) (ls.map nsz) := ⟨_, rfl⟩
 rw [← hT]
 refine Fnc.enter (n := 25) Tryz.func55 (by kernel_rfl) rfl rfl rfl <| Cw.seq <| Cw.region <| Lw.val (Ex.assign rfl) rfl <| Lw.nil <| Pw.thenN <| Cw.out <| Cw.seq <| Cw.region <| Lw.val (Ex.move rfl) rfl <| Lw.val (Ex.lenS st_22 rfl (by assumption)) rfl ?_
 refine Lw.val (Ex.assign rfl) rfl <| Lw.nil <| Pw.thenN <| Cw.out <| Cw.seq <| Cw.seq <| Cw.region <| Lw.val (Ex.assign rfl) rfl <| Lw.nil <| Pw.thenN <| Cw.out <| Cw.block ?_
 refine Cw.loop (S := (Nat × Int)) (fun p => [(0, v), (3, .int .i64 p.2), (4, .int .i64 (p.1 : Int))]) (fun p w' => p.1 ≤ ls.length ∧ 0 ≤ p.2 ∧ p.2 ≤ 1125899906842624 + 4503599627370496 + 1048576 ∧ tot p.2 ((ls.map nsz).drop p.1) = T ∧ Below w.heap.size w w') (fun p => ls.length - p.1) ((0, (ls.length : Int))) ⟨rfl, rfl, rfl, trivial⟩ ?_ ?_
 ·exact ⟨Nat.zero_le _, by simp only; omega, by simp only; omega, hT.symm, Below.refl _ _⟩
 rintro ⟨i, n⟩ w1 ⟨hi, h0, h1, hE, hB⟩
 replace hi : i ≤ ls.length := hi
 replace h0 : 0 ≤ n := h0
 replace h1 : n ≤ 1125899906842624 + 4503599627370496 + 1048576 := h1
 replace hE : tot n ((ls.map nsz).drop i) = T := hE
 have sv := sv.bs hB
 refine Cw.seq <| Cw.seq <| Cw.region <| Lw.val (Ex.move rfl) rfl <| Lw.val (Ex.move rfl) rfl <| Lw.val (Ex.lenS st_22 rfl (by assumption)) rfl ?_
 refine Lw.val (Ex.lss rfl rfl) rfl <| Lw.val (Ex.move rfl) rfl ?_
 refine Lw.part 11 rfl ?_ ?_
 ·intro g
  have hi' : i < ls.length := by have := of_decide_eq_true g; omega
  have e1 := tot_drop (n := n) (l := ls.map nsz) (i := i) (by rw [List.length_map]; exact hi')
  obtain ⟨a, ha⟩ : ∃ a, a = ls[i] := ⟨_, rfl⟩
  have e2 : (ls.map nsz).getD i default = nsz a := by rw [List.getD_eq_getElem?_getD, List.getElem?_map, List.getElem?_eq_getElem hi', ← ha]; rfl
  have hm : a ∈ ls := ha ▸ List.getElem_mem hi'
  have hfa := hf a hm
  have b1 := nsz_pos a
  have b2 := nsz_few hfa
  have hcs := h.cells hi'
  rw [← ha] at hcs
  rw [e1, e2] at hE
  refine Lw.take (dj := 11) rfl rfl <| Lw.val (Ex.move rfl) rfl <| Lw.take (dj := 11) rfl rfl <| Lw.val (Ex.leq rfl rfl) rfl <| Lw.val (Ex.pickT rfl rfl) rfl <| Lw.nil <| Pw.thenN <| Cw.out <| Cw.cond rfl ?_ ?_
  ·intro g2
   have g2 : n ≤ 1048576 := of_decide_eq_true g2
   rw [if_pos g2] at hE
   refine Cw.skip <| Pw.thenN <| Cw.out <| Cw.seq <| Cw.block <| Cw.region <| Lw.val (Ex.move rfl) rfl <| Lw.val (Ex.move rfl) rfl <| Lw.val (Ex.move rfl) rfl <| Lw.val (Ex.idx st_22 rfl rfl sv i rfl hi') rfl <| Lw.val (Ex.ldE (cs := a.cells) (ag_45 _) (sz_45 _) rfl sv rfl (by decide) hcs) rfl <| Lw.callF rfl rfl (nsize_c a w1 ((h.each a hm).bs hB) hfa) ?_
   rintro _ w2 ⟨rfl, hn⟩
   refine Lw.val (Ex.addI rfl rfl (by omega)) rfl <| Lw.val (Ex.assign rfl) rfl <| Lw.nil <| Pw.blkN <| Pw.thenN <| Cw.out <| Cw.region <| Lw.val (Ex.move rfl) rfl <| Lw.val (Ex.addI rfl rfl (by omega)) rfl <| Lw.val (Ex.assign rfl) rfl <| Lw.nil ?_
   exact Pw.thenN (Pw.next ((i + 1, n + nsz a)) ⟨rfl, rfl, rfl, trivial⟩ (⟨hi', by simp only; omega, by simp only; omega, hE, bt hB hn⟩) (by simp only; omega))
  intro g2
  have g2 : ¬ n ≤ 1048576 := of_decide_eq_false g2
  rw [if_neg g2] at hE
  refine Cw.exit <| Pw.thenE <| Pw.thenE <| Pw.blkHit <| Pw.thenN <| Cw.out <| Cw.seq <| Cw.region <| Lw.val (Ex.move rfl) rfl <| Lw.val (Ex.assign rfl) rfl <| Lw.nil <| Pw.thenN <| Cw.out <| Cw.ret <| Pw.ret1 rfl rfl ?_
  exact ⟨by rw [← hE], hB⟩
 intro g
 have hi' : i = ls.length := by have := of_decide_eq_false g; omega
 have hE2 : n = T := by
  rw [hi', List.drop_of_length_le (by simp)] at hE; exact hE
 refine Lw.pass (dj := 11) rfl rfl rfl rfl <| Lw.pass (dj := 11) rfl rfl rfl rfl <| Lw.val (Ex.pickF rfl rfl) rfl <| Lw.nil <| Pw.thenN <| Cw.out <| Cw.condF rfl <| Cw.exit <| Pw.thenE <| Pw.thenE <| Pw.blkHit <| Pw.thenN <| Cw.out <| Cw.seq <| Cw.region <| Lw.val (Ex.move rfl) rfl <| Lw.val (Ex.assign rfl) rfl <| Lw.nil <| Pw.thenN <| Cw.out <| Cw.ret <| Pw.ret1 rfl rfl ?_
 exact ⟨by rw [hE2], hB⟩
def gsz (ls : List N5) : Int := 1 + tot (ls.length : Int) (ls.map nsz)
theorem tot_hi : ∀ {l : List Int} {n m : Int}, (∀ x ∈ l, x ≤ m) → 0 ≤ m → tot n l ≤ max n (1048576 + m)
 | [], n, m, _, _ => by simp only [tot]; omega
 | x :: l, n, m, h, hm => by
  unfold tot
  split
  ·have := tot_hi (n := n + x) (m := m) (fun y hy => h y (List.mem_cons_of_mem _ hy)) hm
   have := h x (by simp)
   omega
  ·omega
theorem gsize_c (v : Value) (ls : List N5) (w : World) (h : GN w v ls) (hl : ls.length ≤ 1125899906842624) (hf : ∀ t ∈ ls, t.few) : Fnc Tryz.prog 27 [.agg [v].toArray] w (fun r w' => r = .int .i64 (gsz ls) ∧ Below w.heap.size w w') := by
 have hB := Below.refl w.heap.size w
 have b1 := tot_hi (l := ls.map nsz) (n := (ls.length : Int)) (m := 4503599627370496) (fun x hx => by
  obtain ⟨a, ha, rfl⟩ := List.mem_map.1 hx
  exact nsz_few (hf a ha)) (by decide)
 have b0 := tot_le (l := ls.map nsz) (n := (ls.length : Int)) (fun x hx => by
  obtain ⟨a, ha, rfl⟩ := List.mem_map.1 hx
  have := nsz_pos a; omega)
 refine Fnc.enter (n := 12) Tryz.func27 (by kernel_rfl) rfl rfl rfl <| Cw.seq <| Cw.region <| Lw.boxV (cs := [v]) rfl rfl rfl ?_
 rintro A_n w eA_n b_n hn -
 replace hB := hB.bs hn
 replace h := h.bs hn
 clear hn
 refine Lw.val (Ex.assign rfl) rfl <| Lw.nil <| Pw.thenN <| Cw.out <| Cw.seq <| Cw.region <| Lw.val (Ex.assign rfl) rfl <| Lw.nil <| Pw.thenN <| Cw.out <| Cw.seq <| Cw.seq <| Cw.region <| Lw.val (Ex.move rfl) rfl <| Lw.val (Ex.leq rfl rfl) rfl <| Lw.nil <| Pw.thenN <| Cw.out <| Cw.condB rfl true (by decide) <| Cw.region <| Lw.val (Ex.move rfl) rfl <| Lw.val (Ex.fieldAddr (q := 0) Tryz.underlying24 rfl (sz_22 _) rfl) rfl <| Lw.val (Ex.ldB (ag_22 _) rfl (by assumption) rfl) rfl ?_
 refine Lw.callF rfl rfl (nsizes_c v ls _ h hl hf) ?_
 rintro _ w2 ⟨rfl, hn⟩
 replace hB := hB.bs hn
 replace h := h.bs hn
 replace b_n := b_n.bs hn
 refine Lw.val (Ex.addI rfl rfl (by omega)) rfl <| Lw.val (Ex.assign rfl) rfl <| Lw.nil <| Pw.thenN <| Cw.out <| Cw.seq <| Cw.region <| Lw.val (Ex.move rfl) rfl <| Lw.val (Ex.assign rfl) rfl <| Lw.nil <| Pw.thenN <| Cw.out <| Cw.ret <| Pw.ret1 rfl rfl ?_
 exact ⟨rfl, hB⟩
end Go.Proofs.YtmipoeanpnnjoaaGreat

/-! Contract: a node's twin, in memory of its own. -/
namespace Go.Proofs.YtmipoeanpnnjoaaGreat
open Go Go.Dd Go.RowKit
set_option maxRecDepth 100000

theorem own : ownKnob Tryz.prog.godebug = none := by kernel_rfl
theorem laidOut : laidOutB Tryz.prog = true := by kernel_rfl
end Go.Proofs.YtmipoeanpnnjoaaGreat

/-! Contracts: the document's answers on shapes. -/
namespace Go.Proofs.YtmipoeanpnnjoaaGreat
open Go Go.Dd Go.RowKit
set_option maxRecDepth 100000

theorem prod_take {s : List Int} {i : Nat} (h : i < s.length) : Shapes.prod (s.take (i + 1)) = Shapes.prod (s.take i) * s.getD i default := by
 rw [List.take_succ_eq_append_getElem h, Shapes.prod_append]
 simp [Shapes.prod, h]
theorem good_take {s : List Int} {i : Nat} (h : i < s.length) (h1 : Shapes.good (s.take i)) (h2 : 1 ≤ s.getD i default ∧ s.getD i default ≤ 64) : Shapes.good (s.take (i + 1)) := by
 rw [List.take_succ_eq_append_getElem h, Shapes.good_append]
 refine ⟨h1, fun x hx => ?_⟩
 have : x = s.getD i default := by simpa [h] using hx
 rw [this]; exact h2
theorem prod_four : ∀ {s : List Int}, Shapes.good s → s.length ≤ 4 → 1 ≤ Shapes.prod s ∧ Shapes.prod s ≤ 16777216
 | s, hg, hl => by
  have key : ∀ (s : List Int), Shapes.good s → Shapes.prod s ≤ 64 ^ s.length := by
   intro s
   induction s with
   | nil => intro _; simp [Shapes.prod]
   | cons x s ih =>
    intro h
    have h1 := (Shapes.good_cons.1 h).1
    have h2 := ih (Shapes.good_cons.1 h).2
    have h3 := Shapes.prod_pos (Shapes.good_cons.1 h).2
    have := Int.mul_le_mul h1.2 h2 (by omega) (by omega)
    rw [List.length_cons, Int.pow_succ, Int.mul_comm ((64 : Int) ^ s.length)]
    exact this
  refine ⟨Shapes.prod_pos hg, Int.le_trans (key s hg) ?_⟩
  have : s.length = 0 ∨ s.length = 1 ∨ s.length = 2 ∨ s.length = 3 ∨ s.length = 4 := by omega
  rcases this with h | h | h | h | h <;> rw [h] <;> decide

theorem rcheck_c (u : Value) (s : List Int) (w : World) (hu : SlT (Value.int .i64) w u s) : Fnc Tryz.prog 97 [u] w (fun r w' => r = .bool (Shapes.ok s) ∧ Below w.heap.size w w') := by
 have no1 : (s.length < 1 ∨ 4 < s.length) → Shapes.ok s = false := fun h => by
  cases hk : Shapes.ok s with
  | false => rfl
  | true => have := (Shapes.ok_iff s).1 hk; omega
 refine Fnc.enter (n := 39) Tryz.func97 (by kernel_rfl) rfl rfl rfl <| Cw.seq <| Cw.region <| Lw.val (Ex.assign rfl) rfl <| Lw.nil <| Pw.thenN <| Cw.out <| Cw.seq <| Cw.seq <| Cw.region <| Lw.val (Ex.move rfl) rfl <| Lw.val (Ex.lenS st_26 rfl (by assumption)) rfl ?_
 refine Lw.val (Ex.lss rfl rfl) rfl <| Lw.val (Ex.move rfl) rfl ?_
 refine Lw.part 8 rfl ?_ ?_
 ·intro g
  refine Lw.pass (dj := 8) rfl rfl rfl rfl <| Lw.pass (dj := 8) rfl rfl rfl rfl <| Lw.pass (dj := 8) rfl rfl rfl rfl <| Lw.val (Ex.pickT rfl rfl) rfl <| Lw.nil <| Pw.thenN <| Cw.out <| Cw.condT rfl <| Cw.seq <| Cw.region <| Lw.val (Ex.assign rfl) rfl <| Lw.nil <| Pw.thenN <| Cw.out <| Cw.ret <| Pw.thenR <| Pw.ret1 rfl rfl ?_
  exact ⟨by rw [no1 (.inl (by have := of_decide_eq_true g; omega))], Below.refl _ _⟩
 intro g
 have g1 := of_decide_eq_false g
 refine Lw.take (dj := 8) rfl rfl <| Lw.val (Ex.move rfl) rfl <| Lw.take (dj := 8) rfl rfl <| Lw.val (Ex.lenS st_26 rfl (by assumption)) rfl ?_
 refine Lw.take (dj := 8) rfl rfl <| Lw.val (Ex.gtr rfl rfl) rfl <| Lw.val (Ex.pickF rfl rfl) rfl <| Lw.nil <| Pw.thenN <| Cw.out <| Cw.cond rfl ?_ ?_
 ·intro g
  refine Cw.seq <| Cw.region <| Lw.val (Ex.assign rfl) rfl <| Lw.nil <| Pw.thenN <| Cw.out <| Cw.ret <| Pw.thenR <| Pw.ret1 rfl rfl ?_
  exact ⟨by rw [no1 (.inr (by have := of_decide_eq_true g; omega))], Below.refl _ _⟩
 intro g
 have g2 := of_decide_eq_false g
 have hl : 1 ≤ s.length ∧ s.length ≤ 4 := by omega
 refine Cw.skip <| Pw.thenN <| Cw.out <| Cw.seq <| Cw.region <| Lw.val (Ex.assign rfl) rfl <| Lw.nil <| Pw.thenN <| Cw.out <| Cw.seq <| Cw.seq <| Cw.region <| Lw.val (Ex.assign rfl) rfl <| Lw.nil <| Pw.thenN <| Cw.out <| Cw.block ?_
 refine Cw.loop (S := Nat) (fun i => [(0, u), (2, .bool false), (3, .int .i64 (Shapes.prod (s.take i))), (4, .int .i64 (i : Int))]) (fun i w' => i ≤ s.length ∧ Shapes.good (s.take i) ∧ w' = w) (fun i => s.length - i) (0) ⟨rfl, rfl, rfl, rfl, trivial⟩ ?_ ?_
 ·exact ⟨by omega, by simp [Shapes.good], rfl⟩
 rintro i w1 ⟨hi, hg, rfl⟩
 have hp := prod_four hg (by rw [List.length_take]; omega)
 refine Cw.seq <| Cw.seq <| Cw.region <| Lw.val (Ex.move rfl) rfl <| Lw.val (Ex.move rfl) rfl <| Lw.val (Ex.lenS st_26 rfl (by assumption)) rfl ?_
 refine Lw.val (Ex.lss rfl rfl) rfl <| Lw.nil <| Pw.thenN <| Cw.out <| Cw.cond rfl ?_ ?_
 ·intro h
  have hi' : i < s.length := by simp at h; omega
  have bad : (s.getD i default < 1 ∨ 64 < s.getD i default) → Shapes.ok s = false := fun h => by
   cases hk : Shapes.ok s with
   | false => rfl
   | true =>
    have := ((Shapes.ok_iff s).1 hk).2.1 s[i] (List.getElem_mem hi')
    simp [hi'] at h
    omega
  refine Cw.skip <| Pw.thenN <| Cw.out <| Cw.seq <| Cw.block <| Cw.seq <| Cw.seq <| Cw.region <| Lw.val (Ex.move rfl) rfl <| Lw.val (Ex.move rfl) rfl <| Lw.val (Ex.idxT st_26 rfl rfl (by assumption) _ rfl (by omega)) rfl ?_
  refine Lw.val (Ex.ldT (ag_3 _) rfl (by assumption) (by omega)) rfl ?_
  refine Lw.val (Ex.lss rfl rfl) rfl <| Lw.val (Ex.move rfl) rfl ?_
  refine Lw.part 24 rfl ?_ ?_
  ·intro g
   refine Lw.pass (dj := 24) rfl rfl rfl rfl <| Lw.pass (dj := 24) rfl rfl rfl rfl <| Lw.pass (dj := 24) rfl rfl rfl rfl <| Lw.pass (dj := 24) rfl rfl rfl rfl <| Lw.pass (dj := 24) rfl rfl rfl rfl <| Lw.val (Ex.pickT rfl rfl) rfl <| Lw.nil <| Pw.thenN <| Cw.out <| Cw.condT rfl <| Cw.seq <| Cw.region <| Lw.val (Ex.assign rfl) rfl <| Lw.nil <| Pw.thenN <| Cw.out <| Cw.ret <| Pw.thenR <| Pw.blkR <| Pw.thenR <| Pw.thenR <| Pw.blkR <| Pw.thenR <| Pw.ret1 rfl rfl ?_
   exact ⟨by rw [bad (.inl (of_decide_eq_true g))], Below.refl _ _⟩
  intro g
  have g3 := of_decide_eq_false g
  refine Lw.take (dj := 24) rfl rfl <| Lw.val (Ex.move rfl) rfl <| Lw.take (dj := 24) rfl rfl <| Lw.val (Ex.move rfl) rfl <| Lw.take (dj := 24) rfl rfl <| Lw.val (Ex.idxT st_26 rfl rfl (by assumption) _ rfl (by omega)) rfl ?_
  refine Lw.take (dj := 24) rfl rfl <| Lw.val (Ex.ldT (ag_3 _) rfl (by assumption) (by omega)) rfl ?_
  refine Lw.take (dj := 24) rfl rfl <| Lw.val (Ex.gtr rfl rfl) rfl <| Lw.val (Ex.pickF rfl rfl) rfl <| Lw.nil <| Pw.thenN <| Cw.out <| Cw.cond rfl ?_ ?_
  ·intro g
   refine Cw.seq <| Cw.region <| Lw.val (Ex.assign rfl) rfl <| Lw.nil <| Pw.thenN <| Cw.out <| Cw.ret <| Pw.thenR <| Pw.blkR <| Pw.thenR <| Pw.thenR <| Pw.blkR <| Pw.thenR <| Pw.ret1 rfl rfl ?_
   exact ⟨by rw [bad (.inr (of_decide_eq_true g))], Below.refl _ _⟩
  intro g
  have g4 := of_decide_eq_false g
  have hx : 1 ≤ s.getD i default ∧ s.getD i default ≤ 64 := by omega
  have hg' := good_take hi' hg hx
  have hp' := prod_four hg' (by rw [List.length_take]; omega)
  rw [prod_take hi'] at hp'
  refine Cw.skip <| Pw.thenN <| Cw.out <| Cw.region <| Lw.val (Ex.move rfl) rfl <| Lw.val (Ex.move rfl) rfl <| Lw.val (Ex.move rfl) rfl <| Lw.val (Ex.idxT st_26 rfl rfl (by assumption) _ rfl (by omega)) rfl ?_
  refine Lw.val (Ex.ldT (ag_3 _) rfl (by assumption) (by omega)) rfl ?_
  refine Lw.val (Ex.mulI rfl rfl (by omega)) rfl <| Lw.val (Ex.assign rfl) rfl <| Lw.nil <| Pw.blkN <| Pw.thenN <| Cw.out <| Cw.region <| Lw.val (Ex.move rfl) rfl <| Lw.val (Ex.addI rfl rfl (by omega)) rfl <| Lw.val (Ex.assign rfl) rfl <| Lw.nil ?_
  exact Pw.thenN (Pw.next (i + 1) ⟨rfl, rfl, (by rw [prod_take hi']; rfl), rfl, trivial⟩ (⟨hi', hg', rfl⟩) (by omega))
 intro h
 have hi' : i = s.length := by simp at h; omega
 subst hi'
 rw [List.take_length] at hg hp
 have e : decide (Shapes.prod (s.take s.length) ≤ 4096) = Shapes.ok s := by
  rw [List.take_length]
  cases hk : Shapes.ok s with
  | true => exact decide_eq_true ((Shapes.ok_iff s).1 hk).2.2
  | false =>
   refine decide_eq_false fun h => ?_
   have := (Shapes.ok_iff s).2 ⟨hl, hg, h⟩
   rw [hk] at this; cases this
 refine Cw.exit <| Pw.thenE <| Pw.thenE <| Pw.blkHit <| Pw.thenN <| Cw.out <| Cw.seq <| Cw.region <| Lw.val (Ex.move rfl) rfl <| Lw.val (Ex.leq rfl rfl) rfl <| Lw.val (Ex.assign rfl) rfl <| Lw.nil <| Pw.thenN <| Cw.out <| Cw.ret <| Pw.ret1 rfl rfl ?_
 exact ⟨by rw [← e], Below.refl _ _⟩

theorem rsize_c (u : Value) (s : List Int) (w : World) (hu : SlT (Value.int .i64) w u s) : Fnc Tryz.prog 58 [u] w (fun r w' => r = .int .i64 (Shapes.size s) ∧ Below w.heap.size w w') := by
 refine Fnc.enter (n := 21) Tryz.func58 (by kernel_rfl) rfl rfl rfl <| Cw.seq <| Cw.region <| Lw.val (Ex.assign rfl) rfl <| Lw.nil <| Pw.thenN <| Cw.out <| Cw.seq <| Cw.seq <| Cw.region <| Lw.val (Ex.move rfl) rfl <| Lw.callF rfl rfl (rcheck_c u s w hu) ?_
 rintro _ w1 ⟨rfl, hn⟩
 have hu := hu.bs hn
 refine Lw.val (Ex.not rfl) rfl <| Lw.nil <| Pw.thenN <| Cw.out <| Cw.cond rfl ?_ ?_
 ·intro g
  refine Cw.seq <| Cw.region <| Lw.val (Ex.assign rfl) rfl <| Lw.nil <| Pw.thenN <| Cw.out <| Cw.ret <| Pw.thenR <| Pw.ret1 rfl rfl ?_
  exact ⟨by rw [Shapes.size_no (by simpa using g)], hn⟩
 intro g
 have hk : Shapes.ok s = true := by simpa using g
 have h3 := (Shapes.ok_iff s).1 hk
 refine Cw.skip <| Pw.thenN <| Cw.out <| Cw.seq <| Cw.region <| Lw.val (Ex.assign rfl) rfl <| Lw.nil <| Pw.thenN <| Cw.out <| Cw.seq <| Cw.seq <| Cw.region <| Lw.val (Ex.assign rfl) rfl <| Lw.nil <| Pw.thenN <| Cw.out <| Cw.block ?_
 refine Cw.loop (S := Nat) (fun i => [(0, u), (3, .int .i64 (Shapes.prod (s.take i))), (4, .int .i64 (i : Int))]) (fun i w' => i ≤ s.length ∧ w' = w1) (fun i => s.length - i) (0) ⟨rfl, rfl, rfl, trivial⟩ ?_ ?_
 ·exact ⟨by omega, rfl⟩
 rintro i w2 ⟨hi, rfl⟩
 refine Cw.seq <| Cw.seq <| Cw.region <| Lw.val (Ex.move rfl) rfl <| Lw.val (Ex.move rfl) rfl <| Lw.val (Ex.lenS st_26 rfl (by assumption)) rfl ?_
 refine Lw.val (Ex.lss rfl rfl) rfl <| Lw.nil <| Pw.thenN <| Cw.out <| Cw.cond rfl ?_ ?_
 ·intro h
  have hi' : i < s.length := by simp at h; omega
  have hp' := prod_four (s := s.take (i + 1)) (fun x hx => h3.2.1 x (List.mem_of_mem_take hx)) (by rw [List.length_take]; omega)
  rw [prod_take hi'] at hp'
  refine Cw.skip <| Pw.thenN <| Cw.out <| Cw.seq <| Cw.block <| Cw.region <| Lw.val (Ex.move rfl) rfl <| Lw.val (Ex.move rfl) rfl <| Lw.val (Ex.move rfl) rfl <| Lw.val (Ex.idxT st_26 rfl rfl (by assumption) _ rfl (by omega)) rfl ?_
  refine Lw.val (Ex.ldT (ag_3 _) rfl (by assumption) (by omega)) rfl ?_
  refine Lw.val (Ex.mulI rfl rfl (by omega)) rfl <| Lw.val (Ex.assign rfl) rfl <| Lw.nil <| Pw.blkN <| Pw.thenN <| Cw.out <| Cw.region <| Lw.val (Ex.move rfl) rfl <| Lw.val (Ex.addI rfl rfl (by omega)) rfl <| Lw.val (Ex.assign rfl) rfl <| Lw.nil ?_
  exact Pw.thenN (Pw.next (i + 1) ⟨rfl, (by rw [prod_take hi']; rfl), rfl, trivial⟩ (⟨hi', rfl⟩) (by omega))
 intro h
 have hi' : i = s.length := by simp at h; omega
 subst hi'
 refine Cw.exit <| Pw.thenE <| Pw.thenE <| Pw.blkHit <| Pw.thenN <| Cw.out <| Cw.seq <| Cw.region <| Lw.val (Ex.move rfl) rfl <| Lw.val (Ex.assign rfl) rfl <| Lw.nil <| Pw.thenN <| Cw.out <| Cw.ret <| Pw.ret1 rfl rfl ?_
 exact ⟨by rw [List.take_length, Shapes.size_ok hk], hn⟩

theorem rsame4_c (u v : Value) (a b : List Int) (w : World) (hu : SlT (Value.int .i64) w u a) (hv : SlT (Value.int .i64) w v b) : Fnc Tryz.prog 135 [u, v] w (fun r w' => r = .bool (decide (a = b)) ∧ Below w.heap.size w w') := by
 have hle := hu.le
 refine Fnc.enter (n := 26) Tryz.func135 (by kernel_rfl) rfl rfl rfl <| Cw.seq <| Cw.region <| Lw.val (Ex.assign rfl) rfl <| Lw.nil <| Pw.thenN <| Cw.out <| Cw.seq <| Cw.seq <| Cw.region <| Lw.val (Ex.move rfl) rfl <| Lw.val (Ex.lenS st_26 rfl (by assumption)) rfl ?_
 refine Lw.val (Ex.move rfl) rfl <| Lw.val (Ex.lenS st_26 rfl (by assumption)) rfl ?_
 refine Lw.val (Ex.neq rfl rfl) rfl <| Lw.nil <| Pw.thenN <| Cw.out <| Cw.cond rfl ?_ ?_
 ·intro h
  have hne : a ≠ b := fun e => by subst e; simp at h
  refine Cw.seq <| Cw.region <| Lw.val (Ex.assign rfl) rfl <| Lw.nil <| Pw.thenN <| Cw.out <| Cw.ret <| Pw.thenR <| Pw.ret1 rfl rfl ?_
  exact ⟨by rw [decide_eq_false hne], Below.refl _ _⟩
 intro h
 have hl : a.length = b.length := by simp at h; omega
 refine Cw.skip <| Pw.thenN <| Cw.out <| Cw.seq <| Cw.seq <| Cw.region <| Lw.val (Ex.assign rfl) rfl <| Lw.nil <| Pw.thenN <| Cw.out <| Cw.block ?_
 refine Cw.loop (S := Nat) (fun i => [(0, u), (1, v), (4, .bool false), (5, .int .i64 (i : Int))]) (fun i w' => i ≤ a.length ∧ a.take i = b.take i ∧ Below w.heap.size w w') (fun i => a.length - i) (0) ⟨rfl, rfl, rfl, rfl, trivial⟩ ?_ ?_
 ·exact ⟨by omega, by simp, Below.refl _ _⟩
 rintro i w1 ⟨hi, ht, hB1⟩
 have hu1 := hu.bs hB1
 have hv1 := hv.bs hB1
 refine Cw.seq <| Cw.seq <| Cw.region <| Lw.val (Ex.move rfl) rfl <| Lw.val (Ex.move rfl) rfl <| Lw.val (Ex.lenS st_26 rfl (by assumption)) rfl ?_
 refine Lw.val (Ex.lss rfl rfl) rfl <| Lw.nil <| Pw.thenN <| Cw.out <| Cw.cond rfl ?_ ?_
 ·intro h
  have hi' : i < a.length := by simp at h; omega
  have hib : i < b.length := by omega
  refine Cw.skip <| Pw.thenN <| Cw.out <| Cw.seq <| Cw.block <| Cw.seq <| Cw.quiet mixed (by kernel_rfl) <| Qw.val (fun w1 hq => Ex.move rfl) rfl <| Qw.val (fun w1 hq => Ex.move rfl) rfl <| Qw.val (fun w1 hq => Ex.idxT st_26 rfl rfl (Sl.bs (by assumption) hq) _ rfl (by omega)) rfl ?_
  refine Qw.val (fun w1 hq => Ex.ldT (ag_3 _) rfl (Sl.bs (by assumption) hq) (by omega)) rfl ?_
  refine Qw.val (fun w1 hq => Ex.move rfl) rfl <| Qw.val (fun w1 hq => Ex.move rfl) rfl <| Qw.val (fun w1 hq => Ex.idxT st_26 rfl rfl (Sl.bs (by assumption) hq) _ rfl (by omega)) rfl ?_
  refine Qw.val (fun w1 hq => Ex.ldT (ag_3 _) rfl (Sl.bs (by assumption) hq) (by omega)) rfl ?_
  refine Qw.val (fun w1 hq => Ex.neq rfl rfl) rfl ?_
  refine Qw.nil (fun w2 hq => ?_)
  refine Pw.thenN <| Cw.out ?_
  have hB2 := bt hB1 hq
  refine Cw.cond rfl ?_ ?_
  ·intro g
   have g' : a.getD i default ≠ b.getD i default := by simpa using g
   refine Cw.seq <| Cw.region <| Lw.val (Ex.assign rfl) rfl <| Lw.nil <| Pw.thenN <| Cw.out <| Cw.ret <| Pw.blkR <| Pw.thenR <| Pw.thenR <| Pw.blkR <| Pw.thenR <| Pw.ret1 rfl rfl ?_
   exact ⟨by rw [decide_eq_false (fun e => g' (by rw [e]))], hB2⟩
  ·intro g
   have g' : a.getD i default = b.getD i default := by simpa using g
   have gg : a[i] = b[i] := by simpa [hi', hib] using g'
   refine Cw.skip <| Pw.blkN <| Pw.thenN <| Cw.out <| Cw.region <| Lw.val (Ex.move rfl) rfl <| Lw.val (Ex.addI rfl rfl (by omega)) rfl <| Lw.val (Ex.assign rfl) rfl <| Lw.nil ?_
   exact Pw.thenN (Pw.next (i + 1) ⟨rfl, rfl, rfl, rfl, trivial⟩ (⟨hi', by rw [List.take_succ_eq_append_getElem hi', List.take_succ_eq_append_getElem hib, ht, gg], hB2⟩) (by omega))
 ·intro h
  have hi' : i = a.length := by simp at h; omega
  subst hi'
  refine Cw.exit <| Pw.thenE <| Pw.thenE <| Pw.blkHit <| Pw.thenN <| Cw.out <| Cw.seq <| Cw.region <| Lw.val (Ex.assign rfl) rfl <| Lw.nil <| Pw.thenN <| Cw.out <| Cw.ret <| Pw.ret1 rfl rfl ?_
  exact ⟨by rw [decide_eq_true (by rw [List.take_length, hl, List.take_length] at ht; exact ht)], hB1⟩


end Go.Proofs.YtmipoeanpnnjoaaGreat

/-! Contracts: the document's answers on tensors. -/
namespace Go.Proofs.YtmipoeanpnnjoaaGreat
open Go Go.Dd Go.RowKit
set_option maxRecDepth 100000

end Go.Proofs.YtmipoeanpnnjoaaGreat

/-! Contract: the document's shape of some that are joined. -/
namespace Go.Proofs.YtmipoeanpnnjoaaGreat
open Go Go.Dd Go.RowKit
set_option maxRecDepth 100000

def jdA (l : List (List Int)) (al : Int) : Bool := decide (l.length < 1) || decide (4 < l.length) || l.any (fun s => !Shapes.ok s) || decide (al < 0) || decide (((l.headD []).length : Int) ≤ al)
def jdS (l : List (List Int)) (al : Int) : Option (List Int) := jnR al.toNat (l.headD []) l.tail
def jdR : Option (List Int) → Int
 | some s => if Shapes.ok s then 0 else 10
 | none => 10
def jdE (l : List (List Int)) (al : Int) : Int := if jdA l al then 1 else jdR (jdS l al)
theorem rjoined_c (v : Value) (ps : List (Value × List Int)) (al : Int) (W : World) (h : LI W v ps) :
  Fnc Tryz.prog 140 [v, .int .i64 al] W (fun r w' => Below W.heap.size W w' ∧ ∃ x s, r = .tuple #[x, .int .i64 (jdE (ints2 ps) al)] ∧ SlT (Value.int .i64) w' x s ∧ (jdE (ints2 ps) al = 0 → jdS (ints2 ps) al = some s)) := by
 have hB := Below.refl W.heap.size W
 have s_v := h.sl
 have lv : ps.length ≤ 9223372036854775807 := s_v.le
 obtain ⟨E, hE⟩ : ∃ E, E = jdE (ints2 ps) al := ⟨_, rfl⟩
 rw [← hE]
 have li : (ints2 ps).length = ps.length := List.length_map ..
 refine Fnc.enter (n := 100) Tryz.func140 (by kernel_rfl) rfl rfl rfl <| Cw.seq <| Cw.region <| Lw.val (Ex.assign rfl) rfl <| Lw.val (Ex.assign rfl) rfl <| Lw.nil <| Pw.thenN <| Cw.out <| Cw.seq <| Cw.seq <| Cw.region <| Lw.val (Ex.move rfl) rfl <| Lw.val (Ex.lenS st_39 rfl (by assumption)) rfl ?_
 refine Lw.val (Ex.lss rfl rfl) rfl <| Lw.val (Ex.move rfl) rfl ?_
 refine Lw.part 13 rfl ?_ ?_
 ·intro g
  have g : ps.length < 1 := by have := of_decide_eq_true g; omega
  refine Lw.pass (dj := 13) rfl rfl rfl rfl <| Lw.pass (dj := 13) rfl rfl rfl rfl <| Lw.pass (dj := 13) rfl rfl rfl rfl <| Lw.val (Ex.pickT rfl rfl) rfl <| Lw.nil <| Pw.thenN <| Cw.out <| Cw.condT rfl <| Cw.seq <| Cw.region <| Lw.val (Ex.assign rfl) rfl <| Lw.val (Ex.assign rfl) rfl <| Lw.nil <| Pw.thenN <| Cw.out <| Cw.ret <| Pw.thenR <| Pw.ret2 rfl rfl rfl ?_
  have e1 : E = 1 := by
   rw [hE]
   unfold jdE
   rw [if_pos (by unfold jdA; rw [li, decide_eq_true g]; rfl)]
  rw [e1]
  exact ⟨hB, .slice none 0 0, [], rfl, Sl.nil _ _, fun h => by cases h⟩
 intro g1
 have g1 : ¬ ps.length < 1 := by have := of_decide_eq_false g1; omega
 refine Lw.take (dj := 13) rfl rfl <| Lw.val (Ex.move rfl) rfl <| Lw.take (dj := 13) rfl rfl <| Lw.val (Ex.lenS st_39 rfl (by assumption)) rfl ?_
 refine Lw.take (dj := 13) rfl rfl <| Lw.val (Ex.gtr rfl rfl) rfl <| Lw.val (Ex.pickF rfl rfl) rfl <| Lw.nil <| Pw.thenN <| Cw.out <| Cw.cond rfl ?_ ?_
 ·intro g
  have g : 4 < ps.length := by have := of_decide_eq_true g; omega
  refine Cw.seq <| Cw.region <| Lw.val (Ex.assign rfl) rfl <| Lw.val (Ex.assign rfl) rfl <| Lw.nil <| Pw.thenN <| Cw.out <| Cw.ret <| Pw.thenR <| Pw.ret2 rfl rfl rfl ?_
  have e1 : E = 1 := by
   rw [hE]
   unfold jdE
   rw [if_pos (by unfold jdA; rw [li, decide_eq_true g]; simp)]
  rw [e1]
  exact ⟨hB, .slice none 0 0, [], rfl, Sl.nil _ _, fun h => by cases h⟩
 intro g2
 have g2 : ¬ 4 < ps.length := by have := of_decide_eq_false g2; omega
 refine Cw.skip <| Pw.thenN <| Cw.out <| Cw.seq <| Cw.seq <| Cw.region <| Lw.val (Ex.assign rfl) rfl <| Lw.nil <| Pw.thenN <| Cw.out <| Cw.block ?_
 refine Cw.loop (S := Nat) (fun i => [(0, v), (1, .int .i64 al), (6, .int .i64 (i : Int))]) (fun i w' => i ≤ ps.length ∧ (∀ p ∈ ps.take i, Shapes.ok p.2 = true) ∧ Below W.heap.size W w') (fun i => ps.length - i) (0) ⟨rfl, rfl, rfl, trivial⟩ ?_ ?_
 ·exact ⟨Nat.zero_le _, fun p hp => by simp at hp, Below.refl _ _⟩
 rintro i w1 ⟨hi, hok, hB⟩
 have s_v1 := s_v.bs hB
 refine Cw.seq <| Cw.seq <| Cw.region <| Lw.val (Ex.move rfl) rfl <| Lw.val (Ex.move rfl) rfl <| Lw.val (Ex.lenS st_39 rfl (by assumption)) rfl ?_
 refine Lw.val (Ex.lss rfl rfl) rfl <| Lw.nil <| Pw.thenN <| Cw.out <| Cw.cond rfl ?_ ?_
 ·intro g
  have hi' : i < ps.length := by have := of_decide_eq_true g; omega
  obtain ⟨p, hp⟩ : ∃ p, p = ps[i] := ⟨_, rfl⟩
  have pm : p ∈ ps := hp ▸ List.getElem_mem hi'
  have s_p := (h.each p pm).bs hB
  have ep : (ps.getD i default).1 = p.1 := by rw [List.getD_eq_getElem?_getD, List.getElem?_eq_getElem hi', ← hp]; rfl
  refine Cw.skip <| Pw.thenN <| Cw.out <| Cw.seq <| Cw.block <| Cw.seq <| Cw.region <| Lw.val (Ex.move rfl) rfl <| Lw.val (Ex.move rfl) rfl <| Lw.val (Ex.idxT st_39 rfl rfl s_v1 i rfl hi') rfl <| Lw.val (Ex.as (Ex.ldT (ag_26 _) rfl s_v1 hi') ep) rfl <| Lw.callF rfl rfl (rcheck_c p.1 p.2 w1 s_p) ?_
  rintro _ w2 ⟨rfl, hn⟩
  have hB2 := bt hB hn
  refine Lw.val (Ex.not rfl) rfl <| Lw.nil <| Pw.thenN <| Cw.out <| Cw.cond rfl ?_ ?_
  ·intro g3
   have g3 : Shapes.ok p.2 = false := by simpa using g3
   refine Cw.seq <| Cw.region <| Lw.val (Ex.assign rfl) rfl <| Lw.val (Ex.assign rfl) rfl <| Lw.nil <| Pw.thenN <| Cw.out <| Cw.ret <| Pw.blkR <| Pw.thenR <| Pw.thenR <| Pw.blkR <| Pw.thenR <| Pw.ret2 rfl rfl rfl ?_
   have e1 : E = 1 := by
    rw [hE]
    unfold jdE
    rw [if_pos (by unfold jdA; rw [show (ints2 ps).any (fun s => !Shapes.ok s) = true from List.any_eq_true.2 ⟨p.2, List.mem_map_of_mem pm, by rw [g3]; rfl⟩]; simp)]
   rw [e1]
   exact ⟨hB2, .slice none 0 0, [], rfl, Sl.nil _ _, fun h => by cases h⟩
  intro g3
  have g3 : Shapes.ok p.2 = true := by simpa using g3
  refine Cw.skip <| Pw.blkN <| Pw.thenN <| Cw.out <| Cw.region <| Lw.val (Ex.move rfl) rfl <| Lw.val (Ex.addI rfl rfl (by omega)) rfl <| Lw.val (Ex.assign rfl) rfl <| Lw.nil ?_
  have hok' : ∀ q ∈ ps.take (i + 1), Shapes.ok q.2 = true := fun q hq => by
   rw [List.take_succ_eq_append_getElem hi'] at hq
   rcases List.mem_append.1 hq with hq | hq
   ·exact hok q hq
   ·rw [List.mem_singleton.1 hq, ← hp]; exact g3
  exact Pw.thenN (Pw.next (i + 1) ⟨rfl, rfl, rfl, trivial⟩ (⟨hi', hok', hB2⟩) (by omega))
 intro g
 have hi' : i = ps.length := by have := of_decide_eq_false g; omega
 rw [hi', List.take_length] at hok
 clear g hi hi'
 have l0 : 0 < ps.length := by omega
 obtain ⟨p0, hp0⟩ : ∃ p, p = ps[0] := ⟨_, rfl⟩
 have pm0 : p0 ∈ ps := hp0 ▸ List.getElem_mem l0
 have s_p0 := (h.each p0 pm0).bs hB
 have ep0 : (ps.getD 0 default).1 = p0.1 := by rw [List.getD_eq_getElem?_getD, List.getElem?_eq_getElem l0, ← hp0]; rfl
 have eh : (ints2 ps).headD [] = p0.2 := by
  rw [hp0]
  match ps, l0 with
  | a :: l, _ => rfl
 have ok0 := hok p0 pm0
 have len0 := ((Shapes.ok_iff p0.2).1 ok0).1
 refine Cw.exit <| Pw.thenE <| Pw.thenE <| Pw.blkHit <| Pw.thenN <| Cw.out <| Cw.seq <| Cw.seq <| Cw.region <| Lw.val (Ex.move rfl) rfl <| Lw.val (Ex.lss rfl rfl) rfl <| Lw.val (Ex.move rfl) rfl ?_
 refine Lw.part 32 rfl ?_ ?_
 ·intro g
  have g := of_decide_eq_true g
  refine Lw.pass (dj := 32) rfl rfl rfl rfl <| Lw.pass (dj := 32) rfl rfl rfl rfl <| Lw.pass (dj := 32) rfl rfl rfl rfl <| Lw.pass (dj := 32) rfl rfl rfl rfl <| Lw.pass (dj := 32) rfl rfl rfl rfl <| Lw.pass (dj := 32) rfl rfl rfl rfl <| Lw.val (Ex.pickT rfl rfl) rfl <| Lw.nil <| Pw.thenN <| Cw.out <| Cw.condT rfl <| Cw.seq <| Cw.region <| Lw.val (Ex.assign rfl) rfl <| Lw.val (Ex.assign rfl) rfl <| Lw.nil <| Pw.thenN <| Cw.out <| Cw.ret <| Pw.thenR <| Pw.ret2 rfl rfl rfl ?_
  have e1 : E = 1 := by
   rw [hE]
   unfold jdE
   rw [if_pos (by unfold jdA; rw [decide_eq_true g]; simp)]
  rw [e1]
  exact ⟨hB, .slice none 0 0, [], rfl, Sl.nil _ _, fun h => by cases h⟩
 intro g3
 have g3 : ¬ al < 0 := of_decide_eq_false g3
 refine Lw.take (dj := 32) rfl rfl <| Lw.val (Ex.move rfl) rfl <| Lw.take (dj := 32) rfl rfl <| Lw.val (Ex.move rfl) rfl <| Lw.take (dj := 32) rfl rfl <| Lw.val (Ex.idxT st_39 rfl rfl s_v1 0 rfl l0) rfl <| Lw.take (dj := 32) rfl rfl <| Lw.val (Ex.as (Ex.ldT (ag_26 _) rfl s_v1 l0) ep0) rfl <| Lw.take (dj := 32) rfl rfl <| Lw.val (Ex.lenS st_26 rfl (by assumption)) rfl ?_
 refine Lw.take (dj := 32) rfl rfl <| Lw.val (Ex.geq rfl rfl) rfl <| Lw.val (Ex.pickF rfl rfl) rfl <| Lw.nil <| Pw.thenN <| Cw.out <| Cw.cond rfl ?_ ?_
 ·intro g
  have g := of_decide_eq_true g
  refine Cw.seq <| Cw.region <| Lw.val (Ex.assign rfl) rfl <| Lw.val (Ex.assign rfl) rfl <| Lw.nil <| Pw.thenN <| Cw.out <| Cw.ret <| Pw.thenR <| Pw.ret2 rfl rfl rfl ?_
  have e1 : E = 1 := by
   rw [hE]
   unfold jdE
   rw [if_pos (by unfold jdA; rw [eh, decide_eq_true (show (p0.2.length : Int) ≤ al by omega)]; simp)]
  rw [e1]
  exact ⟨hB, .slice none 0 0, [], rfl, Sl.nil _ _, fun h => by cases h⟩
 intro g4
 have g4 : al < (p0.2.length : Int) := by have := of_decide_eq_false g4; omega
 obtain ⟨k, rfl⟩ : ∃ k : Nat, al = (k : Int) := ⟨al.toNat, by omega⟩
 have hk : k < p0.2.length := by omega
 have hA : jdA (ints2 ps) (k : Int) = false := by
  unfold jdA
  rw [li, eh, decide_eq_false g1, decide_eq_false g2, decide_eq_false g3, decide_eq_false (show ¬ (p0.2.length : Int) ≤ (k : Int) by omega)]
  rw [List.any_eq_false.2 fun s hs => by
   obtain ⟨p, hp, rfl⟩ := List.mem_map.1 hs
   rw [hok p hp]; decide]
  rfl
 obtain ⟨R, hR⟩ : ∃ R, R = jdS (ints2 ps) (k : Int) := ⟨_, rfl⟩
 have hR2 : jnR k p0.2 ((ints2 ps).drop 1) = R := by
  rw [hR]
  unfold jdS
  rw [eh, Int.toNat_natCast, List.drop_one]
 have hER : E = jdR R := by
  rw [hE, hR]
  unfold jdE
  rw [hA]; rfl
 rw [← hR]
 clear hR hE hA eh
 refine Cw.skip <| Pw.thenN <| Cw.out <| Cw.seq <| Cw.region <| Lw.val (Ex.move rfl) rfl <| Lw.val (Ex.idxT st_39 rfl rfl s_v1 0 rfl l0) rfl <| Lw.val (Ex.as (Ex.ldT (ag_26 _) rfl s_v1 l0) ep0) rfl <| Lw.valW (Xw.append (base := W.heap.size) st_26 it_3 rfl (by decide) rfl rfl (World.ownsRow_nil _ _ _ _) s_p0 (one_map (fun _ => rfl) _) (by omega) (by omega) hB.size) rfl ?_
 rintro x0 w2 ⟨o_x, hn, -⟩
 rw [List.nil_append, Nat.zero_add] at o_x
 have hB := hB.trans hn
 refine Lw.val (Ex.assign rfl) rfl <| Lw.nil <| Pw.thenN <| Cw.out <| Cw.seq <| Cw.seq <| Cw.region <| Lw.val (Ex.assign rfl) rfl <| Lw.nil <| Pw.thenN <| Cw.out <| Cw.block ?_
 refine Cw.loop (S := (Nat × Value × List Int)) (fun z => [(0, v), (1, .int .i64 (k : Int)), (7, z.2.1), (8, .int .i64 (z.1 : Int))]) (fun z w' => 1 ≤ z.1 ∧ z.1 ≤ ps.length ∧ w'.ownsRow W.heap.size 3 1 z.2.1 z.2.2.length (z.2.2.map (Value.int .i64)) ∧ z.2.2.length = p0.2.length ∧ (0 ≤ z.2.2.getD k default ∧ z.2.2.getD k default ≤ 64 * (z.1 : Int)) ∧ jnR k z.2.2 ((ints2 ps).drop z.1) = R ∧ Below W.heap.size W w') (fun z => ps.length - z.1) ((1, x0, p0.2)) ⟨rfl, rfl, rfl, rfl, trivial⟩ ?_ ?_
 ·have := ok_dims ok0 hk
  exact ⟨Nat.le_refl _, l0, o_x, rfl, by simp only; omega, hR2, hB⟩
 rintro ⟨i, x, s⟩ w3 ⟨h1, hi, o_x, ls, hs, hJ, hB⟩
 replace h1 : 1 ≤ i := h1
 replace hi : i ≤ ps.length := hi
 replace o_x : w3.ownsRow W.heap.size 3 1 x s.length (s.map (Value.int .i64)) := o_x
 replace ls : s.length = p0.2.length := ls
 replace hs : 0 ≤ s.getD k default ∧ s.getD k default ≤ 64 * (i : Int) := hs
 replace hJ : jnR k s ((ints2 ps).drop i) = R := hJ
 have s_v3 := s_v.bs hB
 have s_x := own_slT o_x
 refine Cw.seq <| Cw.seq <| Cw.region <| Lw.val (Ex.move rfl) rfl <| Lw.val (Ex.move rfl) rfl <| Lw.val (Ex.lenS st_39 rfl (by assumption)) rfl ?_
 refine Lw.val (Ex.lss rfl rfl) rfl <| Lw.nil <| Pw.thenN <| Cw.out <| Cw.cond rfl ?_ ?_
 ·intro g
  have hi' : i < ps.length := by have := of_decide_eq_true g; omega
  obtain ⟨p, hp⟩ : ∃ p, p = ps[i] := ⟨_, rfl⟩
  have pm : p ∈ ps := hp ▸ List.getElem_mem hi'
  have s_p := (h.each p pm).bs hB
  have okp := hok p pm
  have ep : (ps.getD i default).1 = p.1 := by rw [List.getD_eq_getElem?_getD, List.getElem?_eq_getElem hi', ← hp]; rfl
  have ed : (ints2 ps).drop i = p.2 :: (ints2 ps).drop (i + 1) := by
   rw [List.drop_eq_getElem_cons (by rw [li]; exact hi')]
   congr 1
   rw [hp]; exact List.getElem_map ..
  rw [ed] at hJ
  have hno : jn1 k s p.2 = none → E = 10 := fun hn => by
   unfold jnR at hJ
   rw [hn] at hJ
   rw [hER, ← hJ]
   rfl
  refine Cw.skip <| Pw.thenN <| Cw.out <| Cw.seq <| Cw.block <| Cw.seq <| Cw.seq <| Cw.region <| Lw.val (Ex.move rfl) rfl <| Lw.val (Ex.move rfl) rfl <| Lw.val (Ex.idxT st_39 rfl rfl s_v3 i rfl hi') rfl <| Lw.val (Ex.as (Ex.ldT (ag_26 _) rfl s_v3 hi') ep) rfl <| Lw.val (Ex.lenS st_26 rfl (by assumption)) rfl ?_
  refine Lw.val (Ex.move rfl) rfl <| Lw.val (Ex.lenS st_26 rfl (by assumption)) rfl ?_
  refine Lw.val (Ex.neq rfl rfl) rfl <| Lw.nil <| Pw.thenN <| Cw.out <| Cw.cond rfl ?_ ?_
  ·intro g5
   have g5 : ¬ p.2.length = s.length := fun e => by rw [e] at g5; simp at g5
   have e10 := hno (by unfold jn1; rw [if_neg fun h => g5 h.1])
   refine Cw.seq <| Cw.region <| Lw.val (Ex.assign rfl) rfl <| Lw.val (Ex.assign rfl) rfl <| Lw.nil <| Pw.thenN <| Cw.out <| Cw.ret <| Pw.thenR <| Pw.blkR <| Pw.thenR <| Pw.thenR <| Pw.blkR <| Pw.thenR <| Pw.ret2 rfl rfl rfl ?_
   rw [e10]
   exact ⟨hB, .slice none 0 0, [], rfl, Sl.nil _ _, fun h => by cases h⟩
  intro g5
  have g5 : p.2.length = s.length := by simp at g5; omega
  refine Cw.skip <| Pw.thenN <| Cw.out <| Cw.seq <| Cw.seq <| Cw.region <| Lw.val (Ex.assign rfl) rfl <| Lw.nil <| Pw.thenN <| Cw.out <| Cw.block ?_
  refine Cw.loop (S := Nat) (fun m => [(0, v), (1, .int .i64 (k : Int)), (7, x), (8, .int .i64 (i : Int)), (9, .int .i64 (m : Int))]) (fun m w' => m ≤ s.length ∧ (∀ j, j < m → j ≠ k → s.getD j default = p.2.getD j default) ∧ w'.ownsRow W.heap.size 3 1 x s.length (s.map (Value.int .i64)) ∧ Below w3.heap.size w3 w') (fun m => s.length - m) (0) ⟨rfl, rfl, rfl, rfl, rfl, trivial⟩ ?_ ?_
  ·exact ⟨Nat.zero_le _, fun j hj => by omega, o_x, Below.refl _ _⟩
  rintro m w4 ⟨hm, hall, o_x, hB4⟩
  have hBW := bt hB hB4
  have s_v4 := s_v3.bs hB4
  have s_p4 := s_p.bs hB4
  have s_x := own_slT o_x
  refine Cw.seq <| Cw.seq <| Cw.region <| Lw.val (Ex.move rfl) rfl <| Lw.val (Ex.move rfl) rfl <| Lw.val (Ex.lenS st_26 rfl (by assumption)) rfl ?_
  refine Lw.val (Ex.lss rfl rfl) rfl <| Lw.nil <| Pw.thenN <| Cw.out <| Cw.cond rfl ?_ ?_
  ·intro g6
   have hm' : m < s.length := by have := of_decide_eq_true g6; omega
   have hmp : m < p.2.length := by omega
   refine Cw.skip <| Pw.thenN <| Cw.out <| Cw.seq <| Cw.block <| Cw.seq <| Cw.quiet mixed (by kernel_rfl) <| Qw.val (fun w1 hq => Ex.move rfl) rfl <| Qw.val (fun w1 hq => Ex.move rfl) rfl <| Qw.val (fun w1 hq => Ex.neq rfl rfl) rfl <| Qw.val (fun w1 hq => Ex.move rfl) rfl ?_
   refine Qw.part 67 rfl ?_ ?_
   ·intro g7
    have g7 : ¬ m = k := fun e => by rw [e] at g7; simp at g7
    refine Qw.take (dj := 67) rfl rfl <| Qw.val (fun w1 hq => Ex.move rfl) rfl <| Qw.take (dj := 67) rfl rfl <| Qw.val (fun w1 hq => Ex.move rfl) rfl <| Qw.take (dj := 67) rfl rfl <| Qw.val (fun w1 hq => Ex.idxT st_39 rfl rfl (s_v4.bs hq) i rfl hi') rfl <| Qw.take (dj := 67) rfl rfl <| Qw.val (fun w1 hq => Ex.as (Ex.ldT (ag_26 _) rfl (s_v4.bs hq) hi') ep) rfl <| Qw.take (dj := 67) rfl rfl <| Qw.val (fun w1 hq => Ex.move rfl) rfl <| Qw.take (dj := 67) rfl rfl <| Qw.val (fun w1 hq => Ex.idxT st_26 rfl rfl (Sl.bs (by assumption) hq) _ rfl (by omega)) rfl ?_
    refine Qw.take (dj := 67) rfl rfl <| Qw.val (fun w1 hq => Ex.ldT (ag_3 _) rfl (Sl.bs (by assumption) hq) (by omega)) rfl ?_
    refine Qw.take (dj := 67) rfl rfl <| Qw.val (fun w1 hq => Ex.move rfl) rfl <| Qw.take (dj := 67) rfl rfl <| Qw.val (fun w1 hq => Ex.move rfl) rfl <| Qw.take (dj := 67) rfl rfl <| Qw.val (fun w1 hq => Ex.idxT st_26 rfl rfl (Sl.bs (by assumption) hq) _ rfl (by omega)) rfl ?_
    refine Qw.take (dj := 67) rfl rfl <| Qw.val (fun w1 hq => Ex.ldT (ag_3 _) rfl (Sl.bs (by assumption) hq) (by omega)) rfl ?_
    refine Qw.take (dj := 67) rfl rfl <| Qw.val (fun w1 hq => Ex.neq rfl rfl) rfl <| Qw.val (fun w1 hq => Ex.pickT rfl rfl) rfl ?_
    refine Qw.nil (fun w5 hq => ?_)
    refine Pw.thenN <| Cw.out ?_
    have hB5 := bt hB4 hq
    have o_x5 := own_bs o_x hq
    refine Cw.cond rfl ?_ ?_
    ·intro g8
     have g8 : ¬ s.getD m default = p.2.getD m default := fun e => by rw [e] at g8; simp at g8
     have e10 := hno (by unfold jn1; rw [if_neg fun h => g8 (h.2.2 m hm' g7)])
     refine Cw.seq <| Cw.region <| Lw.val (Ex.assign rfl) rfl <| Lw.val (Ex.assign rfl) rfl <| Lw.nil <| Pw.thenN <| Cw.out <| Cw.ret <| Pw.blkR <| Pw.thenR <| Pw.thenR <| Pw.blkR <| Pw.thenR <| Pw.blkR <| Pw.thenR <| Pw.thenR <| Pw.blkR <| Pw.thenR <| Pw.ret2 rfl rfl rfl ?_
     rw [e10]
     exact ⟨bt hB hB5, .slice none 0 0, [], rfl, Sl.nil _ _, fun h => by cases h⟩
    intro g8
    have g8 : s.getD m default = p.2.getD m default := by simp at g8; simpa using g8.symm
    refine Cw.skip <| Pw.blkN <| Pw.thenN <| Cw.out <| Cw.region <| Lw.val (Ex.move rfl) rfl <| Lw.val (Ex.addI rfl rfl (by omega)) rfl <| Lw.val (Ex.assign rfl) rfl <| Lw.nil ?_
    have hall' : ∀ j, j < m + 1 → j ≠ k → s.getD j default = p.2.getD j default := fun j hj hne =>
     (Nat.lt_succ_iff_lt_or_eq.1 hj).elim (fun h => hall j h hne) (fun h => by rw [h]; exact g8)
    exact Pw.thenN (Pw.next (m + 1) ⟨rfl, rfl, rfl, rfl, rfl, trivial⟩ (⟨hm', hall', o_x5, hB5⟩) (by omega))
   intro g7
   have g7 : m = k := by simp at g7; omega
   refine Qw.pass (dj := 67) rfl rfl rfl rfl <| Qw.pass (dj := 67) rfl rfl rfl rfl <| Qw.pass (dj := 67) rfl rfl rfl rfl <| Qw.pass (dj := 67) rfl rfl rfl rfl <| Qw.pass (dj := 67) rfl rfl rfl rfl <| Qw.pass (dj := 67) rfl rfl rfl rfl <| Qw.pass (dj := 67) rfl rfl rfl rfl <| Qw.pass (dj := 67) rfl rfl rfl rfl <| Qw.pass (dj := 67) rfl rfl rfl rfl <| Qw.pass (dj := 67) rfl rfl rfl rfl <| Qw.pass (dj := 67) rfl rfl rfl rfl <| Qw.pass (dj := 67) rfl rfl rfl rfl <| Qw.val (fun w1 hq => Ex.pickF rfl rfl) rfl ?_
   refine Qw.nil (fun w5 hq => ?_)
   refine Pw.thenN <| Cw.out <| Cw.condF rfl <| Cw.skip <| Pw.blkN <| Pw.thenN <| Cw.out <| Cw.region <| Lw.val (Ex.move rfl) rfl <| Lw.val (Ex.addI rfl rfl (by omega)) rfl <| Lw.val (Ex.assign rfl) rfl <| Lw.nil ?_
   have hB5 := bt hB4 hq
   have o_x5 := own_bs o_x hq
   have hall' : ∀ j, j < m + 1 → j ≠ k → s.getD j default = p.2.getD j default := fun j hj hne =>
    (Nat.lt_succ_iff_lt_or_eq.1 hj).elim (fun h => hall j h hne) (fun h => absurd (h.trans g7) hne)
   exact Pw.thenN (Pw.next (m + 1) ⟨rfl, rfl, rfl, rfl, rfl, trivial⟩ (⟨hm', hall', o_x5, hB5⟩) (by omega))
  intro g6
  have hm' : m = s.length := by have := of_decide_eq_false g6; omega
  rw [hm'] at hall
  clear g6 hm hm'
  have hks : k < s.length := by omega
  have hkp : k < p.2.length := by omega
  have e1 : jn1 k s p.2 = some (s.set k (s.getD k default + p.2.getD k default)) := by unfold jn1; rw [if_pos ⟨g5, hks, hall⟩]
  have hJ2 : jnR k (s.set k (s.getD k default + p.2.getD k default)) ((ints2 ps).drop (i + 1)) = R := by
   unfold jnR at hJ
   rw [e1] at hJ
   exact hJ
  have dk := ok_dims okp hkp
  refine Cw.exit <| Pw.thenE <| Pw.thenE <| Pw.blkHit <| Pw.thenN <| Cw.out <| Cw.tail 15 mixed (by kernel_rfl) <| Qw.val (fun w1 hq => Ex.move rfl) rfl <| Qw.val (fun w1 hq => Ex.move rfl) rfl <| Qw.val (fun w1 hq => Ex.move rfl) rfl <| Qw.val (fun w1 hq => Ex.move rfl) rfl <| Qw.val (fun w1 hq => Ex.idxT st_26 rfl rfl (s_x.bs hq) k rfl hks) rfl <| Qw.val (fun w1 hq => Ex.ldT (ag_3 _) rfl (s_x.bs hq) hks) rfl <| Qw.val (fun w1 hq => Ex.move rfl) rfl <| Qw.val (fun w1 hq => Ex.move rfl) rfl <| Qw.val (fun w1 hq => Ex.idxT st_39 rfl rfl (s_v4.bs hq) i rfl hi') rfl <| Qw.val (fun w1 hq => Ex.as (Ex.ldT (ag_26 _) rfl (s_v4.bs hq) hi') ep) rfl <| Qw.val (fun w1 hq => Ex.move rfl) rfl <| Qw.val (fun w1 hq => Ex.idxT st_26 rfl rfl (s_p4.bs hq) k rfl hkp) rfl <| Qw.val (fun w1 hq => Ex.ldT (ag_3 _) rfl (s_p4.bs hq) hkp) rfl <| Qw.val (fun w1 hq => Ex.addI rfl rfl (by omega)) rfl <| Qw.val (fun w1 hq => Ex.idxT st_26 rfl rfl (s_x.bs hq) k rfl hks) rfl ?_
  refine Qw.done (fun w5 hq => ?_)
  have hB5 := bt hB4 hq
  have o_x5 := own_bs o_x hq
  refine Lw.unit (Xu.stO (u := .int .i64 (s.getD k default + p.2.getD k default)) (sz_3 _) rfl rfl rfl o_x5 (by rw [List.length_map]; exact hks)) ?_
  rintro w6 ⟨o_x6, hg, hz⟩
  rw [← List.map_set] at o_x6
  have hBW5 := bt hB hB5
  have hB6 := hBW5.grown hg hBW5.size (fun b e => (own_block o_x5 b e).1)
  refine Lw.nil <| Pw.blkN <| Pw.thenN <| Cw.out <| Cw.region <| Lw.val (Ex.move rfl) rfl <| Lw.val (Ex.addI rfl rfl (by omega)) rfl <| Lw.val (Ex.assign rfl) rfl <| Lw.nil ?_
  exact Pw.thenN (Pw.next ((i + 1, x, s.set k (s.getD k default + p.2.getD k default))) ⟨rfl, rfl, rfl, rfl, trivial⟩ (⟨by simp only; omega, hi', by simp only [List.length_set]; exact o_x6, by simp only [List.length_set]; exact ls, by simp only; rw [show (s.set k (s.getD k default + p.2.getD k default)).getD k default = s.getD k default + p.2.getD k default by simp [hks]]; omega, hJ2, hB6⟩) (by simp only; omega))
 intro g
 have hi' : i = ps.length := by have := of_decide_eq_false g; omega
 rw [hi', List.drop_of_length_le (by rw [li]; exact Nat.le_refl _)] at hJ
 have hRs : R = some s := by rw [← hJ]; rfl
 rw [hRs] at hER ⊢
 refine Cw.exit <| Pw.thenE <| Pw.thenE <| Pw.blkHit <| Pw.thenN <| Cw.out <| Cw.seq <| Cw.seq <| Cw.region <| Lw.val (Ex.move rfl) rfl <| Lw.callF rfl rfl (rcheck_c x s w3 s_x) ?_
 rintro _ w4 ⟨rfl, hn⟩
 have hB4 := bt hB hn
 refine Lw.val (Ex.not rfl) rfl <| Lw.nil <| Pw.thenN <| Cw.out <| Cw.cond rfl ?_ ?_
 ·intro g5
  have g5 : Shapes.ok s = false := by simpa using g5
  have e10 : E = 10 := by rw [hER]; show (if Shapes.ok s = true then (0 : Int) else 10) = 10; rw [g5]; rfl
  refine Cw.seq <| Cw.region <| Lw.val (Ex.assign rfl) rfl <| Lw.val (Ex.assign rfl) rfl <| Lw.nil <| Pw.thenN <| Cw.out <| Cw.ret <| Pw.thenR <| Pw.ret2 rfl rfl rfl ?_
  rw [e10]
  exact ⟨hB4, .slice none 0 0, [], rfl, Sl.nil _ _, fun h => by cases h⟩
 intro g5
 have g5 : Shapes.ok s = true := by simpa using g5
 have e0 : E = 0 := by rw [hER]; show (if Shapes.ok s = true then (0 : Int) else 10) = 0; rw [g5]; rfl
 refine Cw.skip <| Pw.thenN <| Cw.out <| Cw.seq <| Cw.region <| Lw.val (Ex.move rfl) rfl <| Lw.val (Ex.assign rfl) rfl <| Lw.val (Ex.assign rfl) rfl <| Lw.nil <| Pw.thenN <| Cw.out <| Cw.ret <| Pw.ret2 rfl rfl rfl ?_
 rw [e0]
 exact ⟨hB4, x, s, rfl, s_x.bs hn, fun _ => rfl⟩
end Go.Proofs.YtmipoeanpnnjoaaGreat

/-! Contract: does a list hold each of so many directions just once? -/
namespace Go.Proofs.YtmipoeanpnnjoaaGreat
open Go Go.Dd Go.RowKit
set_option maxRecDepth 100000

def cn (i : Int) : List Int → Nat
 | [] => 0
 | x :: l => (if x = i then 1 else 0) + cn i l
def fl (m : Int) : List Int → Nat
 | [] => 0
 | x :: l => (if 0 ≤ x ∧ x < m then 1 else 0) + fl m l
theorem cn_append (i : Int) : ∀ a b : List Int, cn i (a ++ b) = cn i a + cn i b
 | [], b => by simp [cn]
 | x :: a, b => by simp only [List.cons_append, cn]; rw [cn_append i a b]; omega
theorem cn_mem {i : Int} : ∀ {l : List Int}, i ∈ l → 1 ≤ cn i l
 | x :: l, h => by
  simp only [cn]
  rcases List.mem_cons.1 h with rfl | h
  ·rw [if_pos rfl]; omega
  ·have := cn_mem h; omega
theorem cn_le (i : Int) : ∀ l : List Int, cn i l ≤ l.length
 | [] => Nat.le_refl _
 | x :: l => by
  have := cn_le i l
  simp only [cn, List.length_cons]
  split <;> omega
theorem fl_succ (m : Nat) : ∀ l : List Int, fl ((m + 1 : Nat) : Int) l = fl (m : Int) l + cn (m : Int) l
 | [] => rfl
 | x :: l => by
  simp only [fl, cn]
  rw [fl_succ m l]
  split <;> split <;> split <;> omega
theorem fl_zero : ∀ l : List Int, fl 0 l = 0
 | [] => rfl
 | x :: l => by
  simp only [fl]
  rw [fl_zero l, if_neg (by omega)]
theorem fl_le (m : Int) : ∀ l : List Int, fl m l ≤ l.length
 | [] => Nat.le_refl _
 | x :: l => by
  have := fl_le m l
  simp only [fl, List.length_cons]
  split <;> omega
theorem fl_all {m : Int} : ∀ {l : List Int}, fl m l = l.length → ∀ x ∈ l, 0 ≤ x ∧ x < m
 | [], _, x, hx => by simp at hx
 | y :: l, h, x, hx => by
  have := fl_le m l
  simp only [fl, List.length_cons] at h
  by_cases g : 0 ≤ y ∧ y < m
  ·rw [if_pos g] at h
   rcases List.mem_cons.1 hx with rfl | hx
   ·exact g
   ·exact fl_all (by omega) x hx
  ·rw [if_neg g] at h; omega
theorem cn_ord {l : List Int} (h : ∀ i : Nat, i < l.length → cn (i : Int) l = 1) : ordOk l = true := by
 have e : ∀ m : Nat, m ≤ l.length → fl (m : Int) l = m := fun m => by
  induction m with
  | zero => intro _; exact fl_zero l
  | succ m ih => intro hm; rw [fl_succ, ih (by omega), h m (by omega)]
 have hin := fl_all (e l.length (Nat.le_refl _))
 refine ordOk_iff.2 fun j hj => ?_
 have hm : l.getD j default ∈ l := by simp [hj]
 have hr := hin _ hm
 unfold ordC
 rw [decide_eq_true hr.1, decide_eq_true hr.2]
 cases hc : (l.take j).contains (l.getD j default) with
 | false => rfl
 | true =>
  have m1 : l.getD j default ∈ l.take j := by simpa using hc
  have c1 := cn_mem m1
  have c2 : cn (l.getD j default) (l.drop j) = 1 + cn (l.getD j default) (l.drop (j + 1)) := by
   rw [List.drop_eq_getElem_cons hj]
   simp [cn, hj]
  have c3 : cn (l.getD j default) l = cn (l.getD j default) (l.take j) + cn (l.getD j default) (l.drop j) := by rw [← cn_append, List.take_append_drop]
  have c4 := h (l.getD j default).toNat (by omega)
  rw [Int.toNat_of_nonneg hr.1] at c4
  omega
theorem isum_pick (i : Nat) : ∀ n, isum (fun x => if x = i then 1 else 0) n = if i < n then 1 else 0
 | 0 => rfl
 | n + 1 => by
  simp only [isum]
  rw [isum_pick i n]
  split <;> split <;> split <;> omega
theorem cn_lsum (i : Nat) : ∀ {l : List Int}, (∀ x ∈ l, 0 ≤ x) → (cn (i : Int) l : Int) = lsum (fun x => if x = i then 1 else 0) (ordN l)
 | [], _ => rfl
 | x :: l, h => by
  have h0 := h x (by simp)
  have ih := cn_lsum i (l := l) fun y hy => h y (by simp [hy])
  simp only [ordN] at ih ⊢
  simp only [List.map_cons, lsum, cn]
  rw [← ih]
  by_cases g : x = (i : Int)
  ·rw [if_pos g, if_pos (by omega)]; omega
  ·rw [if_neg g, if_neg (by omega)]; omega
theorem ord_cn {l : List Int} (h : ordOk l = true) (h4 : l.length ≤ 4) {i : Nat} (hi : i < l.length) : cn (i : Int) l = 1 := by
 have h0 : ∀ x ∈ l, 0 ≤ x := fun x hx => by
  obtain ⟨j, hj, e⟩ := List.getElem_of_mem hx
  have := (ord_in h hj).1
  rwa [show l.getD j default = x by simp [hj, e]] at this
 have e := cn_lsum i h0
 rw [lsum_perm (ord_perm h h4), lsum_range, isum_pick, if_pos hi] at e
 omega
theorem rorder_c (u : Value) (l : List Int) (n : Nat) (w : World) (h_u : SlT (Value.int .i64) w u l) (hn : n ≤ 4) :
  Fnc Tryz.prog 134 [u, .int .i64 (n : Int)] w (fun r w' => r = .bool (decide (l.length = n) && ordOk l) ∧ Below w.heap.size w w') := by
 have hle := h_u.le
 refine Fnc.enter (n := 32) Tryz.func134 (by kernel_rfl) rfl rfl rfl <| Cw.seq <| Cw.region <| Lw.val (Ex.assign rfl) rfl <| Lw.nil <| Pw.thenN <| Cw.out <| Cw.seq <| Cw.seq <| Cw.region <| Lw.val (Ex.move rfl) rfl <| Lw.val (Ex.lenS st_26 rfl (by assumption)) rfl ?_
 refine Lw.val (Ex.move rfl) rfl <| Lw.val (Ex.neq rfl rfl) rfl <| Lw.nil <| Pw.thenN <| Cw.out <| Cw.cond rfl ?_ ?_
 ·intro g
  have g : ¬ l.length = n := by have := g; simp at this; omega
  refine Cw.seq <| Cw.region <| Lw.val (Ex.assign rfl) rfl <| Lw.nil <| Pw.thenN <| Cw.out <| Cw.ret <| Pw.thenR <| Pw.ret1 rfl rfl ?_
  exact ⟨by rw [decide_eq_false g]; rfl, Below.refl _ _⟩
 intro g
 have g : l.length = n := by have := g; simp at this; omega
 subst g
 rw [decide_eq_true rfl, Bool.true_and]
 refine Cw.skip <| Pw.thenN <| Cw.out <| Cw.seq <| Cw.seq <| Cw.region <| Lw.val (Ex.assign rfl) rfl <| Lw.nil <| Pw.thenN <| Cw.out <| Cw.block ?_
 refine Cw.loop (S := Nat) (fun i => [(0, u), (1, .int .i64 (l.length : Int)), (5, .int .i64 (i : Int))]) (fun i w' => i ≤ l.length ∧ (∀ j : Nat, j < i → cn (j : Int) l = 1) ∧ Below w.heap.size w w') (fun i => l.length - i) (0) ⟨rfl, rfl, rfl, trivial⟩ ?_ ?_
 ·exact ⟨Nat.zero_le _, fun j hj => absurd hj (by omega), Below.refl _ _⟩
 rintro i w1 ⟨hi, hC, hw⟩
 have h_u1 := h_u.bs hw
 refine Cw.seq <| Cw.seq <| Cw.region <| Lw.val (Ex.move rfl) rfl <| Lw.val (Ex.move rfl) rfl <| Lw.val (Ex.lss rfl rfl) rfl <| Lw.nil <| Pw.thenN <| Cw.out <| Cw.cond rfl ?_ ?_
 ·intro g
  have hi' : i < l.length := by have := of_decide_eq_true g; omega
  refine Cw.skip <| Pw.thenN <| Cw.out <| Cw.seq <| Cw.block <| Cw.seq <| Cw.region <| Lw.val (Ex.assign rfl) rfl <| Lw.nil <| Pw.thenN <| Cw.out <| Cw.seq <| Cw.seq <| Cw.region <| Lw.val (Ex.assign rfl) rfl <| Lw.nil <| Pw.thenN <| Cw.out <| Cw.block ?_
  refine Cw.loop (S := Nat) (fun k => [(0, u), (1, .int .i64 (l.length : Int)), (5, .int .i64 (i : Int)), (6, .int .i64 ((cn (i : Int) (l.take k) : Nat) : Int)), (7, .int .i64 (k : Int))]) (fun k w' => k ≤ l.length ∧ Below w.heap.size w w') (fun k => l.length - k) (0) ⟨rfl, rfl, rfl, rfl, rfl, trivial⟩ ?_ ?_
  ·exact ⟨Nat.zero_le _, hw⟩
  rintro k w2 ⟨hk, hw2⟩
  have h_u2 := h_u.bs hw2
  have ck := cn_le (i : Int) (l.take k)
  rw [List.length_take] at ck
  refine Cw.seq <| Cw.seq <| Cw.region <| Lw.val (Ex.move rfl) rfl <| Lw.val (Ex.move rfl) rfl <| Lw.val (Ex.lss rfl rfl) rfl <| Lw.nil <| Pw.thenN <| Cw.out <| Cw.cond rfl ?_ ?_
  ·intro h
   have hk' : k < l.length := by have := of_decide_eq_true h; omega
   have e1 : l.take (k + 1) = l.take k ++ [l.getD k default] := by rw [List.take_succ_eq_append_getElem hk']; simp [hk']
   have e2 : cn (i : Int) (l.take (k + 1)) = cn (i : Int) (l.take k) + if l.getD k default = (i : Int) then 1 else 0 := by rw [e1, cn_append]; simp [cn]
   refine Cw.skip <| Pw.thenN <| Cw.out <| Cw.seq <| Cw.block <| Cw.seq <| Cw.region <| Lw.val (Ex.move rfl) rfl <| Lw.val (Ex.move rfl) rfl <| Lw.val (Ex.idxT st_26 rfl rfl (by assumption) _ rfl (by omega)) rfl ?_
   refine Lw.val (Ex.ldT (ag_3 _) rfl (by assumption) (by omega)) rfl ?_
   refine Lw.val (Ex.move rfl) rfl <| Lw.val (Ex.eql rfl rfl) rfl <| Lw.nil <| Pw.thenN <| Cw.out <| Cw.cond rfl ?_ ?_
   ·intro g2
    have g2 := of_decide_eq_true g2
    rw [if_pos g2] at e2
    refine Cw.region <| Lw.val (Ex.move rfl) rfl <| Lw.val (Ex.addI rfl rfl (by omega)) rfl <| Lw.val (Ex.assign rfl) rfl <| Lw.nil <| Pw.blkN <| Pw.thenN <| Cw.out <| Cw.region <| Lw.val (Ex.move rfl) rfl <| Lw.val (Ex.addI rfl rfl (by omega)) rfl <| Lw.val (Ex.assign rfl) rfl <| Lw.nil ?_
    exact Pw.thenN (Pw.next (k + 1) ⟨rfl, rfl, rfl, congrArg (fun x => some (Value.int .i64 x)) (show ((cn (i : Int) (l.take k) : Nat) : Int) + 1 = ((cn (i : Int) (l.take (k + 1)) : Nat) : Int) by omega), rfl, trivial⟩ (⟨hk', hw2⟩) (by omega))
   intro g2
   have g2 := of_decide_eq_false g2
   rw [if_neg g2] at e2
   refine Cw.skip <| Pw.blkN <| Pw.thenN <| Cw.out <| Cw.region <| Lw.val (Ex.move rfl) rfl <| Lw.val (Ex.addI rfl rfl (by omega)) rfl <| Lw.val (Ex.assign rfl) rfl <| Lw.nil ?_
   exact Pw.thenN (Pw.next (k + 1) ⟨rfl, rfl, rfl, congrArg (fun x => some (Value.int .i64 x)) (show ((cn (i : Int) (l.take k) : Nat) : Int) = ((cn (i : Int) (l.take (k + 1)) : Nat) : Int) by omega), rfl, trivial⟩ (⟨hk', hw2⟩) (by omega))
  intro h
  have hk' : k = l.length := by have := of_decide_eq_false h; omega
  rw [hk', List.take_length]
  refine Cw.exit <| Pw.thenE <| Pw.thenE <| Pw.blkHit <| Pw.thenN <| Cw.out <| Cw.seq <| Cw.region <| Lw.val (Ex.move rfl) rfl <| Lw.val (Ex.neq rfl rfl) rfl <| Lw.nil <| Pw.thenN <| Cw.out <| Cw.cond rfl ?_ ?_
  ·intro g2
   have g2 : ¬ cn (i : Int) l = 1 := by have := g2; simp at this; omega
   refine Cw.seq <| Cw.region <| Lw.val (Ex.assign rfl) rfl <| Lw.nil <| Pw.thenN <| Cw.out <| Cw.ret <| Pw.blkR <| Pw.thenR <| Pw.thenR <| Pw.blkR <| Pw.thenR <| Pw.ret1 rfl rfl ?_
   refine ⟨congrArg Value.bool ?_, hw2⟩
   cases ho : ordOk l with
   | false => rfl
   | true => exact absurd (ord_cn ho hn hi') g2
  intro g2
  have g2 : cn (i : Int) l = 1 := by have := g2; simp at this; omega
  have hC' : ∀ j : Nat, j < i + 1 → cn (j : Int) l = 1 := fun j hj => by
   rcases Nat.lt_or_ge j i with h | h
   ·exact hC j h
   ·obtain rfl : j = i := by omega
    exact g2
  refine Cw.skip <| Pw.blkN <| Pw.thenN <| Cw.out <| Cw.region <| Lw.val (Ex.move rfl) rfl <| Lw.val (Ex.addI rfl rfl (by omega)) rfl <| Lw.val (Ex.assign rfl) rfl <| Lw.nil ?_
  exact Pw.thenN (Pw.next (i + 1) ⟨rfl, rfl, rfl, trivial⟩ (⟨hi', hC', hw2⟩) (by omega))
 intro g
 have hi' : i = l.length := by have := of_decide_eq_false g; omega
 subst hi'
 refine Cw.exit <| Pw.thenE <| Pw.thenE <| Pw.blkHit <| Pw.thenN <| Cw.out <| Cw.seq <| Cw.region <| Lw.val (Ex.assign rfl) rfl <| Lw.nil <| Pw.thenN <| Cw.out <| Cw.ret <| Pw.ret1 rfl rfl ?_
 exact ⟨congrArg Value.bool (cn_ord hC).symm, hw⟩
end Go.Proofs.YtmipoeanpnnjoaaGreat
