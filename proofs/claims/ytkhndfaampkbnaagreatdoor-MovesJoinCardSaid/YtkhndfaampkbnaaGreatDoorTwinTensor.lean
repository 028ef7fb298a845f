/- Contract: a tensor's twin, in memory of its own. -/
import Derived.Test.YtkhndfaampkbnaaGreatDoorTensorsLaw
namespace Go.Proofs.YtkhndfaampkbnaaGreatDoor
open Go Go.Dd Go.RowKit
set_option maxRecDepth 100000

theorem _root_.Go.Dd.Twn.own {α : Type} {w : World} {base : Nat} {T : TypeId} {enc : α → Value} {mark v : Value} {l : List α} (h : Twn w base T enc mark v l) : w.ownsRow base T 1 v l.length (l.map enc) := by
  obtain ⟨b, cap, rfl, ho⟩ := h
  exact own_short ho (by simp)


theorem twin_made {W w w' : World} {x y : Value} {s : List Int} {l : List (BitVec 32)} {p q r : Nat} {mx my : Value} (hx : Twn w p 3 (Value.int .i64) mx x s) (hy : Twn w q 21 i32 my y l) (hg : w.grownBy w' (some r)) (hb : ∀ b, x.ownBlock = some b → b < q) (h1 : r < p) (h2 : r < q) (h3 : W.heap.size ≤ p) (h4 : W.heap.size ≤ q) : Made1 W w' x y s l :=
  ⟨.inl (own_mono (hx.own.kept hg (.inr fun e => by have := (own_block hx.own r e).1; omega)) h3),
   own_mono (hy.own.kept hg (.inr fun e => by have := (own_block hy.own r e).1; omega)) h4,
   fun b e1 e2 => by have := (own_block hy.own b e1).1; have := hb b e2; omega⟩

theorem twinTensor_c (a : T4) (w : World) (ha : a.at w) (hs : a.s.length ≤ 4194304) (hl : a.l.length ≤ 4194304) :
    Fnc Tryz.prog 16 [a.v] w (fun r w' => Below w.heap.size w w' ∧ ∃ x y, r = .agg #[x, y] ∧ Made1 w w' x y a.s a.l) := by
  have hB := Below.refl w.heap.size w
  refine Fnc.enter (n := 10) Tryz.func16 (by kernel_rfl) rfl rfl rfl ?_
  refine Cw.seq ?_
  refine Cw.region ?_
  refine Lw.valW (Xw.box (cs := [a.x, a.y]) rfl rfl) rfl ?_
  rintro _ w1 ⟨rfl, b, hn, -⟩
  replace hB := hB.bs hn
  replace ha := ha.bs hn
  clear hn
  have z1 := below_size hB
  refine Lw.valW (Xw.new it_29) rfl ?_
  rintro _ w2 ⟨rfl, c, hn, hs2⟩
  replace hB := hB.bs hn
  replace ha := ha.bs hn
  replace b := b.bs hn
  clear hn
  refine Lw.nil ?_
  refine Pw.thenN (Cw.out ?_)
  refine Cw.seq ?_
  refine Cw.any mixed (fun w3 hd _ => ?_)
  replace hB := hB.bs hd
  replace ha := ha.bs hd
  replace b := b.bs hd
  replace c := c.bs hd
  clear hd
  refine Aw.take (i := 0) (NoP.thn NoP.ret) rfl (by kernel_rfl) (by kernel_rfl) (by kernel_rfl) (fun _ => Ex.fieldAddr (q := 0) Tryz.underlying29 rfl (sz_26 _) rfl) rfl ?_
  refine Aw.take (i := 3) (NoP.thn NoP.ret) rfl (by kernel_rfl) (by kernel_rfl) (by kernel_rfl) (fun _ => Ex.fieldAddr (q := 0) Tryz.underlying29 rfl (sz_27 _) rfl) rfl ?_
  have z0 := below_size hB
  have z3 : w1.heap.size < w3.heap.size := blk_lt c
  refine Aw.two (i := 1) (j := 4) (by kernel_rfl) rfl rfl ?_ ?_
  · refine Lw.val (Ex.ldB (ag_26 _) rfl (by assumption) rfl) rfl ?_
    refine Aw.back ?_
    refine Aw.two (i := 2) (j := 4) (by kernel_rfl) rfl rfl ?_ ?_
    · refine Lw.callF rfl rfl (twinInts_c a.x a.s w3 ha.1 hs) ?_
      rintro x w4 ⟨hx, hn⟩
      have hxb := fun b hb => (own_block hx.own b hb).2
      have z4 := hn.size
      replace hB := hB.bs hn
      replace ha := ha.bs hn
      replace b := b.bs hn
      replace c := c.bs hn
      clear hn
      refine Aw.back ?_
      refine Aw.only (i := 4) (by kernel_rfl) rfl ?_
      refine Lw.val (Ex.ldB (ag_27 _) rfl (by assumption) rfl) rfl ?_
      refine Aw.back ?_
      refine Aw.only (i := 5) (by kernel_rfl) rfl ?_
      refine Lw.callF rfl rfl (twinNumbers_c a.y a.l w4 ha.2 hl) ?_
      rintro y w5 ⟨hy, hn⟩
      have z5 := hn.size
      replace hB := hB.bs hn
      replace ha := ha.bs hn
      replace b := b.bs hn
      replace c := c.bs hn
      replace hx := hx.bs hn
      clear hn
      refine Aw.back ?_
      refine Aw.only (i := 6) (by kernel_rfl) rfl ?_
      refine Lw.val (Ex.build (vs := [(0, x), (1, y)]) (cs := [x, y]) rfl (bt_ten _ _ hx.sl.one hy.sl.one)) rfl ?_
      refine Aw.back ?_
      refine Aw.only (i := 7) (by kernel_rfl) rfl ?_
      refine Lw.unit (Xu.stA (cs := [x, y]) rfl rfl rfl rfl (by simp [hx.sl.one', hy.sl.one']) c rfl) ?_
      rintro w6 ⟨c6, hg, -⟩
      have hB6 := hB.grown hg (below_size hB) (by rintro _ ⟨⟩; exact z1)
      refine Aw.back ?_
      refine Aw.done (by kernel_rfl) ?_
      refine Pw.thenN (Cw.out ?_)
      refine Cw.ret ?_
      refine Pw.retC rfl rfl (by assumption) (Tryz.underlying29) rfl rfl rfl ?_
      exact ⟨hB6, x, y, rfl, twin_made hx hy hg hxb (by omega) (by omega) (by omega) (by omega)⟩
    · refine Lw.val (Ex.ldB (ag_27 _) rfl (by assumption) rfl) rfl ?_
      refine Aw.back ?_
      refine Aw.only (i := 2) (by kernel_rfl) rfl ?_
      refine Lw.callF rfl rfl (twinInts_c a.x a.s w3 ha.1 hs) ?_
      rintro x w4 ⟨hx, hn⟩
      have hxb := fun b hb => (own_block hx.own b hb).2
      have z4 := hn.size
      replace hB := hB.bs hn
      replace ha := ha.bs hn
      replace b := b.bs hn
      replace c := c.bs hn
      clear hn
      refine Aw.back ?_
      refine Aw.only (i := 5) (by kernel_rfl) rfl ?_
      refine Lw.callF rfl rfl (twinNumbers_c a.y a.l w4 ha.2 hl) ?_
      rintro y w5 ⟨hy, hn⟩
      have z5 := hn.size
      replace hB := hB.bs hn
      replace ha := ha.bs hn
      replace b := b.bs hn
      replace c := c.bs hn
      replace hx := hx.bs hn
      clear hn
      refine Aw.back ?_
      refine Aw.only (i := 6) (by kernel_rfl) rfl ?_
      refine Lw.val (Ex.build (vs := [(0, x), (1, y)]) (cs := [x, y]) rfl (bt_ten _ _ hx.sl.one hy.sl.one)) rfl ?_
      refine Aw.back ?_
      refine Aw.only (i := 7) (by kernel_rfl) rfl ?_
      refine Lw.unit (Xu.stA (cs := [x, y]) rfl rfl rfl rfl (by simp [hx.sl.one', hy.sl.one']) c rfl) ?_
      rintro w6 ⟨c6, hg, -⟩
      have hB6 := hB.grown hg (below_size hB) (by rintro _ ⟨⟩; exact z1)
      refine Aw.back ?_
      refine Aw.done (by kernel_rfl) ?_
      refine Pw.thenN (Cw.out ?_)
      refine Cw.ret ?_
      refine Pw.retC rfl rfl (by assumption) (Tryz.underlying29) rfl rfl rfl ?_
      exact ⟨hB6, x, y, rfl, twin_made hx hy hg hxb (by omega) (by omega) (by omega) (by omega)⟩
  · refine Lw.val (Ex.ldB (ag_27 _) rfl (by assumption) rfl) rfl ?_
    refine Aw.back ?_
    refine Aw.only (i := 1) (by kernel_rfl) rfl ?_
    refine Lw.val (Ex.ldB (ag_26 _) rfl (by assumption) rfl) rfl ?_
    refine Aw.back ?_
    refine Aw.only (i := 2) (by kernel_rfl) rfl ?_
    refine Lw.callF rfl rfl (twinInts_c a.x a.s w3 ha.1 hs) ?_
    rintro x w4 ⟨hx, hn⟩
    have hxb := fun b hb => (own_block hx.own b hb).2
    have z4 := hn.size
    replace hB := hB.bs hn
    replace ha := ha.bs hn
    replace b := b.bs hn
    replace c := c.bs hn
    clear hn
    refine Aw.back ?_
    refine Aw.only (i := 5) (by kernel_rfl) rfl ?_
    refine Lw.callF rfl rfl (twinNumbers_c a.y a.l w4 ha.2 hl) ?_
    rintro y w5 ⟨hy, hn⟩
    have z5 := hn.size
    replace hB := hB.bs hn
    replace ha := ha.bs hn
    replace b := b.bs hn
    replace c := c.bs hn
    replace hx := hx.bs hn
    clear hn
    refine Aw.back ?_
    refine Aw.only (i := 6) (by kernel_rfl) rfl ?_
    refine Lw.val (Ex.build (vs := [(0, x), (1, y)]) (cs := [x, y]) rfl (bt_ten _ _ hx.sl.one hy.sl.one)) rfl ?_
    refine Aw.back ?_
    refine Aw.only (i := 7) (by kernel_rfl) rfl ?_
    refine Lw.unit (Xu.stA (cs := [x, y]) rfl rfl rfl rfl (by simp [hx.sl.one', hy.sl.one']) c rfl) ?_
    rintro w6 ⟨c6, hg, -⟩
    have hB6 := hB.grown hg (below_size hB) (by rintro _ ⟨⟩; exact z1)
    refine Aw.back ?_
    refine Aw.done (by kernel_rfl) ?_
    refine Pw.thenN (Cw.out ?_)
    refine Cw.ret ?_
    refine Pw.retC rfl rfl (by assumption) (Tryz.underlying29) rfl rfl rfl ?_
    exact ⟨hB6, x, y, rfl, twin_made hx hy hg hxb (by omega) (by omega) (by omega) (by omega)⟩
end Go.Proofs.YtkhndfaampkbnaaGreatDoor
