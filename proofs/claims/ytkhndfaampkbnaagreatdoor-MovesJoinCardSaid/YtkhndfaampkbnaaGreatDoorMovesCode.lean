/- Contracts: the same numbers elsewhere: another shape, another order. -/
import Derived.Test.YtkhndfaampkbnaaGreatDoorTensorsLaw
import Derived.Test.YtkhndfaampkbnaaGreatDoorMov
import Derived.Test.YtkhndfaampkbnaaGreatDoorSeg
import Derived.Test.YtkhndfaampkbnaaGreatDoorInt
import Derived.Test.YtkhndfaampkbnaaGreatDoorByt
namespace Go.Proofs.YtkhndfaampkbnaaGreatDoor
open Go Go.Dd Go.RowKit
set_option maxRecDepth 100000

/-- A tensor of one's own, of which both lists may be clipped. -/
structure MadeK (W w : World) (x y : Value) (s : List Int) (l : List (BitVec 32)) : Prop where
  row : KRow w W.heap.size 3 1 x s.length (s.map (Value.int .i64))
  col : KRow w W.heap.size 21 1 y l.length (l.map i32)
  apart : Apt y x
theorem MadeK.at {W w : World} {x y : Value} {s : List Int} {l : List (BitVec 32)} (h : MadeK W w x y s l) : (T4.mk x y s l).at w := ⟨h.row.slT, h.col.slT⟩
theorem Made1.k {W w : World} {x y : Value} {s : List Int} {l : List (BitVec 32)} (h : Made1 W w x y s l) : MadeK W w x y s l := ⟨h.row, .inl h.own, h.apart⟩
/-- An answer: a tensor of one's own, or none at all. -/
def AnsK (W w : World) (r : Value) (e : Int) (s : List Int) (l : List (BitVec 32)) : Prop :=
  ∃ x y, r = .tuple #[.agg #[x, y], .int .i64 e] ∧ (e ≠ 0 → x = .slice none 0 0 ∧ y = .slice none 0 0) ∧ (e = 0 → MadeK W w x y s l)
theorem ansK_no {W w : World} {e : Int} {s : List Int} {l : List (BitVec 32)} (h : e ≠ 0) : AnsK W w (.tuple #[.agg #[.slice none 0 0, .slice none 0 0], .int .i64 e]) e s l := ⟨_, _, rfl, fun _ => ⟨rfl, rfl⟩, fun h0 => absurd h0 h⟩
/-- An answer, as it reads. -/
def GetsK (w : World) (r : Value) (e : Int) (s : List Int) (l : List (BitVec 32)) : Prop :=
  ∃ c : T4, r = .tuple #[c.v, .int .i64 e] ∧ c.at w ∧ (e ≠ 0 → c.s = [] ∧ c.l = []) ∧ (e = 0 → c.s = s ∧ c.l = l)
theorem AnsK.gets {W w : World} {r : Value} {e : Int} {s : List Int} {l : List (BitVec 32)} (h : AnsK W w r e s l) : GetsK w r e s l := by
  obtain ⟨x, y, rfl, q1, q2⟩ := h
  by_cases he : e = 0
  · exact ⟨⟨x, y, s, l⟩, rfl, (q2 he).at, fun h => absurd he h, fun _ => ⟨rfl, rfl⟩⟩
  · obtain ⟨rfl, rfl⟩ := q1 he
    exact ⟨⟨_, _, [], []⟩, rfl, nilT w, fun _ => ⟨rfl, rfl⟩, fun h => absurd h he⟩
theorem bl_krow {w w' : World} {base B : Nat} {e : TypeId} {sz n : Nat} {v : Value} {xs : List Value} (h : KRow w base e sz v n xs) (g : w.grownBy w' (some B)) (hB : B < base) : KRow w' base e sz v n xs :=
  h.by' g (by
    cases hc : v.ownBlock with
    | none => exact .inl rfl
    | some b => exact .inr fun e => by have := (h.lt b hc).1; cases e; omega)
theorem at_stay {w0 w w' : World} {a : T4} {B : Nat} (p : a.at w0) (h : a.at w) (hB : w0.heap.size ≤ B) (g : Below B w w') : a.at w' :=
  ⟨Sl.stay h.1 fun k e hne => g.block k (Nat.lt_of_lt_of_le (Sl.blk p.1 hne k e) hB), Sl.stay h.2 fun k e hne => g.block k (Nat.lt_of_lt_of_le (Sl.blk p.2 hne k e) hB)⟩

theorem clone32_c (u : Value) (a : List (BitVec 32)) (w : World) (hu : SlT i32 w u a) (hb : a.length ≤ 4194304) : Fnc Tryz.prog 96 [u] w (fun r w' => w'.ownsRow w.heap.size 21 1 r a.length (a.map i32) ∧ Below w.heap.size w w') := by
  obtain ⟨hl, ao, cap, rfl, h1, h2, h3, h4⟩ := hu
  have hu : SlT i32 w (.slice ao a.length cap) a := ⟨hl, ao, cap, rfl, h1, h2, h3, h4⟩
  refine Fnc.enter (n := 8) Tryz.func96 (by kernel_rfl) rfl rfl rfl ?_
  refine Cw.seq ?_
  refine Cw.region ?_
  refine Lw.val (Ex.assign rfl) rfl ?_
  refine Lw.nil ?_
  refine Pw.thenN (Cw.out ?_)
  refine Cw.seq ?_
  refine Cw.seq ?_
  refine Cw.region ?_
  refine Lw.val (Ex.move rfl) rfl ?_
  refine Lw.val (Ex.nilS un_27 rfl rfl) rfl ?_
  refine Lw.nil ?_
  refine Pw.thenN (Cw.out ?_)
  refine Cw.cond rfl ?_ ?_
  · intro h
    obtain rfl : ao = none := by cases ao <;> simp_all
    obtain rfl : a = [] := List.eq_nil_of_length_eq_zero (by have := h3 rfl; omega)
    refine Cw.seq ?_
    refine Cw.region ?_
    refine Lw.val (Ex.assign rfl) rfl ?_
    refine Lw.nil ?_
    refine Pw.thenN (Cw.out ?_)
    refine Cw.ret ?_
    refine Pw.thenR ?_
    refine Pw.ret1 rfl rfl ?_
    exact ⟨⟨rfl, .inl ⟨rfl, rfl⟩⟩, Below.refl _ _⟩
  intro h
  refine Cw.skip ?_
  refine Pw.thenN (Cw.out ?_)
  refine Cw.seq ?_
  refine Cw.region ?_
  refine Lw.valW (Xw.lit (vs := []) st_27 it_21 rfl rfl rfl rfl rfl) rfl ?_
  rintro v1 w1 ⟨ho1, -, hB1, -⟩
  refine Lw.val (Ex.move rfl) rfl ?_
  refine Lw.valW (Xw.append (base := w.heap.size) st_27 it_21 rfl (by decide) rfl rfl ho1 (hu.bs hB1) (one_map (fun _ => rfl) _) (by omega) (by omega) hB1.size) rfl ?_
  rintro v2 w2 ⟨ho2, hB2, -⟩
  rw [Nat.zero_add, List.nil_append] at ho2
  refine Lw.val (Ex.assign rfl) rfl ?_
  refine Lw.nil ?_
  refine Pw.thenN (Cw.out ?_)
  refine Cw.ret ?_
  refine Pw.ret1 rfl rfl ?_
  exact ⟨ho2, hB1.trans hB2⟩
theorem clip32_c (u : Value) (a : List (BitVec 32)) (w : World) (hu : SlT i32 w u a) : Fnc Tryz.prog 95 [u] w (fun r w' => r = clip u ∧ Below w.heap.size w w') := by
  refine Fnc.enter (n := 9) Tryz.func95 (by kernel_rfl) rfl rfl rfl ?_
  refine Cw.seq ?_
  refine Cw.region ?_
  refine Lw.val (Ex.assign rfl) rfl ?_
  refine Lw.nil ?_
  refine Pw.thenN (Cw.out ?_)
  refine Cw.seq ?_
  refine Cw.region ?_
  refine Lw.val (Ex.move rfl) rfl ?_
  refine Lw.val (Ex.move rfl) rfl ?_
  refine Lw.val (Ex.lenS st_27 rfl (by assumption)) rfl ?_
  refine Lw.val (Ex.move rfl) rfl ?_
  refine Lw.val (Ex.lenS st_27 rfl (by assumption)) rfl ?_
  refine Lw.val (Ex.clip st_27 rfl rfl rfl hu.shp) rfl ?_
  refine Lw.val (Ex.assign rfl) rfl ?_
  refine Lw.nil ?_
  refine Pw.thenN (Cw.out ?_)
  refine Cw.ret ?_
  refine Pw.ret1 rfl rfl ?_
  exact ⟨rfl, Below.refl _ _⟩

def mvE (t : T4) (s : List Int) : Int := if tok t.s t.l && Shapes.ok s then (if Shapes.size s = (t.l.length : Int) then 0 else 10) else 1
theorem mshape_c (t : T4) (u : Value) (s : List Int) (W : World) (h_t : t.at W) (h_u : SlT (Value.int .i64) W u s) :
    Fnc Tryz.prog 18 [t.v, u] W (fun r w' => Below W.heap.size W w' ∧ AnsK W w' r (mvE t s) s t.l) := by
  have hB := Below.refl W.heap.size W
  refine Fnc.enter (n := 32) Tryz.func18 (by kernel_rfl) rfl rfl rfl ?_
  refine Cw.seq ?_
  refine Cw.region ?_
  refine Lw.boxV (cs := [t.x, t.y]) rfl rfl rfl ?_
  rintro A_t w eA_t b_t hn -
  replace hB := hB.bs hn
  replace h_t := h_t.bs hn
  replace h_u := h_u.bs hn
  clear hn
  have z0 := below_size hB
  have y_t := blk_lt b_t
  refine Lw.newA it_29 rfl ?_
  rintro A_r w eA_r b_r hn -
  replace hB := hB.bs hn
  replace h_t := h_t.bs hn
  replace h_u := h_u.bs hn
  replace b_t := b_t.bs hn
  clear hn
  refine Lw.val (Ex.assign rfl) rfl ?_
  refine Lw.nil ?_
  refine Pw.thenN (Cw.out ?_)
  refine Cw.seq ?_
  refine Cw.block ?_
  refine Cw.seq ?_
  refine Cw.region ?_
  refine Lw.val (Ex.ldA (ag_29 _) (sz_29 _) rfl rfl (by assumption)) rfl ?_
  have z_r := blk_lt b_r
  refine Lw.callF rfl rfl (tcheck_c t.x t.y t.s t.l _ h_t.1 h_t.2) ?_
  rintro _ w ⟨rfl, hn⟩
  replace hB := hB.bs hn
  replace h_t := h_t.bs hn
  replace h_u := h_u.bs hn
  replace b_t := b_t.bs hn
  replace b_r := b_r.bs hn
  clear hn
  refine Lw.val (Ex.not rfl) rfl ?_
  refine Lw.val (Ex.move rfl) rfl ?_
  refine Lw.part 10 rfl ?_ ?_
  · intro g
    refine Lw.pass (dj := 10) rfl rfl rfl rfl ?_
    refine Lw.pass (dj := 10) rfl rfl rfl rfl ?_
    refine Lw.pass (dj := 10) rfl rfl rfl rfl ?_
    refine Lw.val (Ex.pickT rfl rfl) rfl ?_
    refine Lw.val (Ex.assign rfl) rfl ?_
    refine Lw.nil ?_
    refine Pw.thenN (Cw.out ?_)
    refine Cw.condT rfl ?_
    refine Cw.seq ?_
    refine Cw.region ?_
    refine Lw.val (Ex.build (vs := []) (cs := [.slice none 0 0, .slice none 0 0]) rfl (by kernel_rfl)) rfl ?_
    refine Lw.unit (Xu.stA (cs := [.slice none 0 0, .slice none 0 0]) rfl rfl rfl rfl rfl b_r rfl) ?_
    rintro w3 ⟨b_r, hg, -⟩
    have hB := hB.grown hg (below_size hB) (by rintro _ ⟨⟩; omega)
    refine Lw.val (Ex.assign rfl) rfl ?_
    refine Lw.nil ?_
    refine Pw.thenN (Cw.out ?_)
    refine Cw.ret ?_
    refine Pw.blkR ?_
    refine Pw.thenR ?_
    refine Pw.retCT rfl rfl rfl (by assumption) (Tryz.underlying29) rfl rfl rfl ?_
    rw [show mvE t s = 1 by simp_all [mvE]]
    exact ⟨hB, ansK_no (by decide)⟩
  intro g1
  refine Lw.take (dj := 10) rfl rfl ?_
  refine Lw.val (Ex.move rfl) rfl ?_
  refine Lw.take (dj := 10) rfl rfl ?_
  refine Lw.callF rfl rfl (check_c u s _ h_u) ?_
  rintro _ w ⟨rfl, hn⟩
  replace hB := hB.bs hn
  replace h_t := h_t.bs hn
  replace h_u := h_u.bs hn
  replace b_t := b_t.bs hn
  replace b_r := b_r.bs hn
  clear hn
  refine Lw.take (dj := 10) rfl rfl ?_
  refine Lw.val (Ex.not rfl) rfl ?_
  refine Lw.val (Ex.pickF rfl rfl) rfl ?_
  refine Lw.val (Ex.assign rfl) rfl ?_
  refine Lw.nil ?_
  refine Pw.thenN (Cw.out ?_)
  refine Cw.cond rfl ?_ ?_
  · intro g
    refine Cw.seq ?_
    refine Cw.region ?_
    refine Lw.val (Ex.build (vs := []) (cs := [.slice none 0 0, .slice none 0 0]) rfl (by kernel_rfl)) rfl ?_
    refine Lw.unit (Xu.stA (cs := [.slice none 0 0, .slice none 0 0]) rfl rfl rfl rfl rfl b_r rfl) ?_
    rintro w3 ⟨b_r, hg, -⟩
    have hB := hB.grown hg (below_size hB) (by rintro _ ⟨⟩; omega)
    refine Lw.val (Ex.assign rfl) rfl ?_
    refine Lw.nil ?_
    refine Pw.thenN (Cw.out ?_)
    refine Cw.ret ?_
    refine Pw.blkR ?_
    refine Pw.thenR ?_
    refine Pw.retCT rfl rfl rfl (by assumption) (Tryz.underlying29) rfl rfl rfl ?_
    rw [show mvE t s = 1 by simp_all [mvE]]
    exact ⟨hB, ansK_no (by decide)⟩
  intro g2
  have k_t : tok t.s t.l = true := by simpa using g1
  have k_s : Shapes.ok s = true := by simpa using g2
  have szs := Shapes.size_le s
  have szt := Shapes.size_le t.s
  have lt := (tok_ok k_t).2
  have S := (Shapes.ok_iff s).1 k_s
  clear g1 g2
  have h_t2 := h_t.2
  refine Cw.seq ?_
  refine Cw.quiet mixed (by kernel_rfl) ?_
  refine Qw.val (fun w1 hq => Ex.move rfl) rfl ?_
  refine Qw.callF rfl rfl (fun w1 hq => (size_c u s w1 (h_u.bs hq)).q hq) ?_
  refine Qw.val (fun w1 hq => Ex.fieldAddr (q := 0) Tryz.underlying29 rfl (sz_27 _) rfl) rfl ?_
  refine Qw.val (fun w1 hq => Ex.ldB (ag_27 _) rfl (Blk.bs (by assumption) hq) rfl) rfl ?_
  refine Qw.val (fun w1 hq => Ex.lenS st_27 rfl (Sl.bs (by assumption) hq)) rfl ?_
  refine Qw.val (fun w1 hq => Ex.neq rfl rfl) rfl ?_
  refine Qw.val (fun w1 hq => Ex.assign rfl) rfl ?_
  refine Qw.nil (fun w1 hq => ?_)
  refine Pw.thenN (Cw.out ?_)
  replace hB := hB.bs hq
  replace h_t := h_t.bs hq
  replace h_u := h_u.bs hq
  replace b_t := b_t.bs hq
  replace b_r := b_r.bs hq
  replace h_t2 := h_t2.bs hq
  clear hq
  refine Cw.cond rfl ?_ ?_
  · intro g
    have g : ¬ Shapes.size s = (t.l.length : Int) := by simpa using g
    refine Cw.seq ?_
    refine Cw.region ?_
    refine Lw.val (Ex.build (vs := []) (cs := [.slice none 0 0, .slice none 0 0]) rfl (by kernel_rfl)) rfl ?_
    refine Lw.unit (Xu.stA (cs := [.slice none 0 0, .slice none 0 0]) rfl rfl rfl rfl rfl b_r rfl) ?_
    rintro w3 ⟨b_r, hg, -⟩
    have hB := hB.grown hg (below_size hB) (by rintro _ ⟨⟩; omega)
    refine Lw.val (Ex.assign rfl) rfl ?_
    refine Lw.nil ?_
    refine Pw.thenN (Cw.out ?_)
    refine Cw.ret ?_
    refine Pw.blkR ?_
    refine Pw.thenR ?_
    refine Pw.retCT rfl rfl rfl (by assumption) (Tryz.underlying29) rfl rfl rfl ?_
    rw [show mvE t s = 10 by unfold mvE; rw [k_t, k_s]; simp [g]]
    exact ⟨hB, ansK_no (by decide)⟩
  intro g
  have g : Shapes.size s = (t.l.length : Int) := by simpa using g
  rw [show mvE t s = 0 by unfold mvE; rw [k_t, k_s]; simp [g]]
  refine Cw.skip ?_
  refine Pw.blkN ?_
  refine Pw.thenN (Cw.out ?_)
  refine Cw.seq ?_
  rename World => w1
  have zW := below_size hB
  have q_r : A_r < w1.heap.size := blk_lt b_r
  have b_t0 := b_t
  have h_t20 := h_t2
  refine Cw.any mixed (fun w hcw _ => ?_)
  replace hB := hB.bs hcw
  replace h_t := h_t.bs hcw
  replace h_u := h_u.bs hcw
  replace b_t := b_t.bs hcw
  replace b_r := b_r.bs hcw
  replace h_t2 := h_t2.bs hcw
  have a_tr : A_t < A_r := by omega
  refine Aw.cls (fun w' => Below A_r w1 w') (fun hC => ?_) (hcw.mono (by omega))
  refine AwC.take (i := 0) (NoP.thn NoP.ret) rfl (by kernel_rfl) (by kernel_rfl) (by kernel_rfl) (fun w1 hc => Ex.move rfl) rfl ?_
  refine AwC.take (i := 3) (NoP.thn NoP.ret) rfl (by kernel_rfl) (by kernel_rfl) (by kernel_rfl) (fun w1 hc => Ex.fieldAddr (q := 0) Tryz.underlying29 rfl (sz_27 _) rfl) rfl ?_
  refine AwC.take (i := 4) (NoP.thn NoP.ret) rfl (by kernel_rfl) (by kernel_rfl) (by kernel_rfl) (fun w1 hc => Ex.ldB (ag_27 _) rfl (Blk.bl (by assumption) hc a_tr) rfl) rfl ?_
  refine AwC.only (by first | exact hcr | exact hcw.mono (by omega)) (i := 1) (by kernel_rfl) rfl ?_
  have zc := hcw.size
  refine Lw.callF rfl rfl (clone_c u s _ h_u (by omega)) ?_
  rintro x w ⟨hx, hn⟩
  have hx := own_mono (B' := w1.heap.size) hx (by omega)
  clear zc
  replace hB := hB.bs hn
  replace h_t := h_t.bs hn
  replace h_u := h_u.bs hn
  replace b_t := b_t.bs hn
  replace b_r := b_r.bs hn
  replace h_t2 := h_t2.bs hn
  replace hcw := hcw.bs hn
  clear hn
  refine AwC.back ?_
  refine AwC.only (by first | exact hcr | exact hcw.mono (by omega)) (i := 2) (by kernel_rfl) rfl ?_
  refine Lw.callF rfl rfl (clip_c x s _ (own_slT hx)) ?_
  rintro _ w ⟨rfl, hn⟩
  replace hB := hB.bs hn
  replace h_t := h_t.bs hn
  replace h_u := h_u.bs hn
  replace b_t := b_t.bs hn
  replace b_r := b_r.bs hn
  replace h_t2 := h_t2.bs hn
  replace hcw := hcw.bs hn
  replace hx := hx.bs hn
  clear hn
  have kx := KRow.clip hx
  refine AwC.back ?_
  refine AwC.only (by first | exact hcr | exact hcw.mono (by omega)) (i := 5) (by kernel_rfl) rfl ?_
  have zc := hcw.size
  have zx : ∀ b, (clip x).ownBlock = some b → b < _ := fun b e => (kx.lt b e).2
  refine Lw.callF rfl rfl (clone32_c t.y t.l _ h_t2 (by omega)) ?_
  rintro y w ⟨hy, hn⟩
  have py := own_block hy
  have hy := own_mono (B' := w1.heap.size) hy (by omega)
  clear zc
  replace hB := hB.bs hn
  replace h_t := h_t.bs hn
  replace h_u := h_u.bs hn
  replace b_t := b_t.bs hn
  replace b_r := b_r.bs hn
  replace h_t2 := h_t2.bs hn
  replace hcw := hcw.bs hn
  replace kx := kx.bs hn
  clear hn
  refine AwC.back ?_
  refine AwC.only (by first | exact hcr | exact hcw.mono (by omega)) (i := 6) (by kernel_rfl) rfl ?_
  refine Lw.callF rfl rfl (clip32_c y t.l _ (own_slT hy)) ?_
  rintro _ w ⟨rfl, hn⟩
  replace hB := hB.bs hn
  replace h_t := h_t.bs hn
  replace h_u := h_u.bs hn
  replace b_t := b_t.bs hn
  replace b_r := b_r.bs hn
  replace h_t2 := h_t2.bs hn
  replace hcw := hcw.bs hn
  replace kx := kx.bs hn
  replace hy := hy.bs hn
  clear hn
  have ky := KRow.clip hy
  have by' : (clip y).ownBlock = y.ownBlock := clip_block y (by obtain ⟨_, ao, cap, rfl, _⟩ := own_sl hy; exact ⟨_, _, _, rfl⟩)
  refine AwC.back ?_
  refine AwC.take (i := 7) (NoP.thn NoP.ret) rfl (by kernel_rfl) (by kernel_rfl) (by kernel_rfl) (fun w1 hc => Ex.build (vs := [(0, clip x), (1, clip y)]) (cs := [clip x, clip y]) rfl (bt_ten _ _ kx.slT.one ky.slT.one)) rfl ?_
  refine AwC.only (by first | exact hcr | exact hcw.mono (by omega)) (i := 8) (by kernel_rfl) rfl ?_
  have hxy : [clip x, clip y].all (·.oneCell') = true := by simp [kx.slT.one', ky.slT.one']
  refine Lw.unit (Xu.stA (cs := [clip x, clip y]) rfl rfl rfl rfl hxy b_r rfl) ?_
  rintro w2 ⟨b_r2, hg, -⟩
  have kx := bl_krow kx hg q_r
  have ky := bl_krow ky hg q_r
  have hB := hB.grown hg (below_size hB) (by rintro _ ⟨⟩; omega)
  have hcr : Below A_r w1 w2 := (hcw.mono (by omega)).grown hg (by have := hcw.size; omega) (by rintro _ ⟨⟩; omega)
  refine AwC.back ?_
  refine AwC.take (i := 9) (NoP.thn NoP.ret) rfl (by kernel_rfl) (by kernel_rfl) (by kernel_rfl) (fun w1 hc => Ex.assign rfl) rfl ?_
  refine AwC.done (by first | exact hcr | exact hcw.mono (by omega)) (by kernel_rfl) ?_
  refine Pw.thenN (Cw.out ?_)
  refine Cw.ret ?_
  refine Pw.retCT rfl rfl rfl (by assumption) (Tryz.underlying29) rfl rfl rfl ?_
  exact ⟨hB, clip x, clip y, rfl, fun h => absurd rfl h, fun _ => ⟨kx.mono zW, ky.mono zW, fun b e1 e2 => by
    have h1 := py b (by rw [← by']; exact e1)
    have h2 := zx b e2
    omega⟩⟩
theorem behind_c (u : Value) (s : List Int) (k : Nat) (w : World) (h_u : SlT (Value.int .i64) w u s) (hok : Shapes.ok s = true) (hk : k < s.length) :
    Fnc Tryz.prog 99 [u, .int .i64 (k : Int)] w (fun r w' => r = .int .i64 (Shapes.prod (s.drop (k + 1))) ∧ Below w.heap.size w w') := by
  have S := (Shapes.ok_iff s).1 hok
  obtain ⟨d, hd⟩ : ∃ d, d = s.drop (k + 1) := ⟨_, rfl⟩
  have ld : d.length = s.length - (k + 1) := by rw [hd, List.length_drop]
  have gd : Shapes.good d := hd ▸ Shapes.good_drop S.2.1 (k + 1)
  have pd : Shapes.prod d ≤ 4096 := by have := (Shapes.ok_prod hok (k + 1)).2; rw [hd]; exact this
  have h_d := SlT.drop h_u (i := k + 1) (by omega)
  rw [← hd] at h_d ⊢
  refine Fnc.enter (n := 22) Tryz.func99 (by kernel_rfl) rfl rfl rfl ?_
  refine Cw.seq ?_
  refine Cw.region ?_
  refine Lw.val (Ex.assign rfl) rfl ?_
  refine Lw.nil ?_
  refine Pw.thenN (Cw.out ?_)
  refine Cw.seq ?_
  refine Cw.region ?_
  refine Lw.val (Ex.assign rfl) rfl ?_
  refine Lw.nil ?_
  refine Pw.thenN (Cw.out ?_)
  refine Cw.seq ?_
  refine Cw.seq ?_
  refine Cw.region ?_
  refine Lw.val (Ex.move rfl) rfl ?_
  refine Lw.val (Ex.move rfl) rfl ?_
  refine Lw.val ((Ex.addI rfl rfl (by omega)).as (congrArg (Value.int .i64) (show (k : Int) + 1 = ((k + 1 : Nat) : Int) by omega))) rfl ?_
  refine Lw.val (Ex.cutL (i := k + 1) st_86 rfl rfl h_u (by omega)) rfl ?_
  refine Lw.val (Ex.lenS st_86 rfl (by assumption)) rfl ?_
  refine Lw.val (Ex.move rfl) rfl ?_
  refine Lw.nil ?_
  refine Pw.thenN (Cw.out ?_)
  refine Cw.block ?_
  refine Cw.loop (S := Nat) (fun j => [(5, .int .i64 (Shapes.prod (d.take j))), (11, cut u 1 (k + 1) s.length), (12, .int .i64 (d.length : Int)), (13, .int .i64 (j : Int))]) (fun j w' => j ≤ d.length ∧ w' = w) (fun j => d.length - j) (0) ⟨rfl, rfl, rfl, rfl, trivial⟩ ?_ ?_
  · exact ⟨Nat.zero_le _, rfl⟩
  rintro j w1 ⟨hj, rfl⟩
  refine Cw.seq ?_
  refine Cw.region ?_
  refine Lw.val (Ex.lss rfl rfl) rfl ?_
  refine Lw.nil ?_
  refine Pw.thenN (Cw.out ?_)
  refine Cw.seq ?_
  refine Cw.cond rfl ?_ ?_
  · intro h
    have hj' : j < d.length := by have := of_decide_eq_true h; omega
    have e1 : Shapes.prod (d.take (j + 1)) = Shapes.prod (d.take j) * d.getD j default := by
      rw [List.take_succ_eq_append_getElem hj', Shapes.prod_append]; simp [Shapes.prod, hj']
    have e2 : Shapes.prod d = Shapes.prod (d.take (j + 1)) * Shapes.prod (d.drop (j + 1)) := by rw [← Shapes.prod_append, List.take_append_drop]
    have e3 := Shapes.prod_pos (s := d.take (j + 1)) fun x hx => gd x (List.mem_of_mem_take hx)
    have e4 := Shapes.prod_pos (Shapes.good_drop gd (j + 1))
    have e5 : Shapes.prod (d.take (j + 1)) * 1 ≤ Shapes.prod (d.take (j + 1)) * Shapes.prod (d.drop (j + 1)) := Int.mul_le_mul_of_nonneg_left e4 (by omega)
    refine Cw.skip ?_
    refine Pw.thenN (Cw.out ?_)
    refine Cw.seq ?_
    refine Cw.block ?_
    refine Cw.seq ?_
    refine Cw.region ?_
    refine Lw.val (Ex.idxT st_86 rfl rfl (by assumption) _ rfl (by omega)) rfl ?_
    refine Lw.val (Ex.ldT (ag_3 _) rfl (by assumption) (by omega)) rfl ?_
    refine Lw.val (Ex.assign rfl) rfl ?_
    refine Lw.nil ?_
    refine Pw.thenN (Cw.out ?_)
    refine Cw.region ?_
    refine Lw.val (Ex.move rfl) rfl ?_
    refine Lw.val (Ex.move rfl) rfl ?_
    refine Lw.val (Ex.mulI rfl rfl (by omega)) rfl ?_
    refine Lw.val (Ex.assign rfl) rfl ?_
    refine Lw.nil ?_
    refine Pw.blkN ?_
    refine Pw.thenN (Cw.out ?_)
    refine Cw.region ?_
    refine Lw.val (Ex.addI rfl rfl (by omega)) rfl ?_
    refine Lw.val (Ex.move rfl) rfl ?_
    refine Lw.nil ?_
    exact Pw.thenN (Pw.next (j + 1) ⟨congrArg (fun x => some (Value.int .i64 x)) e1.symm, rfl, rfl, rfl, trivial⟩ (⟨hj', rfl⟩) (by omega))
  intro h
  have hj' : j = d.length := by have := of_decide_eq_false h; omega
  subst hj'
  refine Cw.exit ?_
  refine Pw.thenE ?_
  refine Pw.thenE ?_
  refine Pw.blkHit ?_
  refine Pw.thenN (Cw.out ?_)
  refine Cw.seq ?_
  refine Cw.region ?_
  refine Lw.val (Ex.move rfl) rfl ?_
  refine Lw.val (Ex.assign rfl) rfl ?_
  refine Lw.nil ?_
  refine Pw.thenN (Cw.out ?_)
  refine Cw.ret ?_
  refine Pw.ret1 rfl rfl ?_
  exact ⟨by rw [List.take_length], Below.refl _ _⟩
/-- A tensor that is filled, number by number, from what is told. -/
theorem filled_c (u : Value) (s : List Int) (f : FuncId) (q : List Value) (F : Nat → BitVec 32) (W : World) (h_u : SlT (Value.int .i64) W u s) (hok : Shapes.ok s = true)
    (hf : ∀ (i : Nat) (a : Value) (w : World), Below W.heap.size W w → i < (Shapes.size s).toNat → SlT (Value.int .i64) w a (Shapes.place s i) → Fnc Tryz.prog f ([a] ++ q) w (fun r w' => r = i32 (F i) ∧ Below w.heap.size w w')) :
    Fnc Tryz.prog 33 [u, .func (.func f) #[] q.toArray] W (fun r w' => Below W.heap.size W w' ∧ ∃ x y, r = .tuple #[.agg #[x, y], .int .i64 0] ∧ Made1 W w' x y s ((List.range (Shapes.size s).toNat).map F)) := by
  have hB := Below.refl W.heap.size W
  have szs := Shapes.size_le s
  have h_u0 := h_u
  refine Fnc.enter (n := 38) Tryz.func33 (by kernel_rfl) rfl rfl rfl ?_
  refine Cw.seq ?_
  refine Cw.region ?_
  refine Lw.newA it_29 rfl ?_
  rintro A_r w eA_r b_r hn -
  replace hB := hB.bs hn
  replace h_u := h_u.bs hn
  clear hn
  refine Lw.val (Ex.assign rfl) rfl ?_
  refine Lw.nil ?_
  refine Pw.thenN (Cw.out ?_)
  refine Cw.seq ?_
  refine Cw.region ?_
  refine Lw.val (Ex.move rfl) rfl ?_
  have z_r := blk_lt b_r
  refine Lw.callF rfl rfl (new_c u s _ h_u) ?_
  rintro _ w7 ⟨hn7, ⟨hk, x, y, rfl, hm⟩ | ⟨hk, rfl⟩⟩
  · refine Lw.val (Ex.move rfl) rfl ?_
    refine Lw.val (Ex.extract (i := 0) rfl rfl) rfl ?_
    refine Lw.val (Ex.extract (i := 1) rfl rfl) rfl ?_
    refine Lw.boxed (cs := [x, y]) it_29 rfl rfl rfl rfl (fun _ => rfl) (hm.one) ?_
    rintro A_m w8 eA_m b_m hn8 zhn8
    have M := mine_new hm eA_m b_m hn8 zhn8 hn7.size
    have hw8 := bt hn7 hn8
    have zw := hw8.size
    have zB := below_size hB
    replace hB := hB.bs hw8
    replace h_u := h_u.bs hw8
    replace b_r := b_r.bs hw8
    clear hm b_m hn7 hn8 eA_m zhn8 hw8
    obtain ⟨fl, hfl⟩ : ∃ l, l = (List.range (Shapes.size s).toNat).map F := ⟨_, rfl⟩
    obtain ⟨zs, hzs⟩ : ∃ l, l = List.replicate (Shapes.size s).toNat 0#32 := ⟨_, rfl⟩
    rw [← hzs] at M
    have n1 : fl.length = zs.length := by rw [hfl, hzs]; simp
    have n2 : zs.length = (Shapes.size s).toNat := by rw [hzs]; simp
    have b_m := M.box
    have y_m := M.sly
    refine Lw.val (Ex.assign rfl) rfl ?_
    refine Lw.nil ?_
    refine Pw.thenN (Cw.out ?_)
    refine Cw.seq ?_
    refine Cw.seq ?_
    refine Cw.region ?_
    refine Lw.val (Ex.fieldAddr (q := 0) Tryz.underlying29 rfl (sz_27 _) rfl) rfl ?_
    refine Lw.val (Ex.ldB (ag_27 _) rfl (by assumption) rfl) rfl ?_
    refine Lw.val (Ex.lenS st_27 rfl (by assumption)) rfl ?_
    refine Lw.val (Ex.move rfl) rfl ?_
    refine Lw.nil ?_
    refine Pw.thenN (Cw.out ?_)
    refine Cw.block ?_
    refine Cw.loop (S := Nat) (fun i => [(0, u), (1, .func (.func f) #[] q.toArray), (4, .pointer (some ⟨A_r, 0, none⟩)), (6, .pointer (some ⟨A_m, 0, none⟩)), (7, .int .i64 0), (18, .int .i64 (zs.length : Int)), (19, .int .i64 (i : Int))]) (fun i w' => i ≤ zs.length ∧ Below w.heap.size w8 w' ∧ MineT w' w.heap.size w8.heap.size A_m x y s (fl.take i ++ zs.drop i)) (fun i => zs.length - i) (0) ⟨rfl, rfl, rfl, rfl, rfl, rfl, rfl, trivial⟩ ?_ ?_
    · exact ⟨by omega, Below.refl _ _, by rw [td_zero]; exact M⟩
    clear M b_m y_m
    rintro i w11 ⟨hi, hw, M⟩
    have hB2 := hB.trans (hw.mono (by omega))
    refine Cw.seq ?_
    refine Cw.region ?_
    refine Lw.val (Ex.lss rfl rfl) rfl ?_
    refine Lw.nil ?_
    refine Pw.thenN (Cw.out ?_)
    refine Cw.seq ?_
    refine Cw.cond rfl ?_ ?_
    · intro h
      have hi' : i < zs.length := by have := of_decide_eq_true h; omega
      have hu2 : SlT (Value.int .i64) w11 u s := Sl.stay h_u0 fun k e hne => hB2.block k (Sl.blk h_u0 hne k e)
      refine Cw.skip ?_
      refine Pw.thenN (Cw.out ?_)
      refine Cw.seq ?_
      refine Cw.block ?_
      refine Cw.seq ?_
      refine Cw.region ?_
      refine Lw.val (Ex.move rfl) rfl ?_
      refine Lw.val (Ex.assign rfl) rfl ?_
      refine Lw.nil ?_
      refine Pw.thenN (Cw.out ?_)
      refine Cw.seq ?_
      refine Cw.region ?_
      refine Lw.val (Ex.move rfl) rfl ?_
      refine Lw.val (Ex.move rfl) rfl ?_
      refine Lw.callF rfl rfl (at_c s u (i : Int) w11 hu2) ?_
      rintro _ w12 ⟨a, rfl, ha, hn⟩
      have ha := ha.sl
      rw [show Shapes.atl s (i : Int) = Shapes.place s i by unfold Shapes.atl; rw [if_pos (by omega)]] at ha
      have M := M.bs hn
      have hB3 := bt hB2 hn
      have hw := hw.trans (hn.mono (by have := hw.size; omega))
      have b_m := M.box
      have y_m := M.sly
      have e1 := td_len (i := i) n1
      refine Lw.val (Ex.move rfl) rfl ?_
      refine Lw.val (Ex.extract (i := 0) rfl rfl) rfl ?_
      refine Lw.val (Ex.extract (i := 1) rfl rfl) rfl ?_
      refine Lw.val (Ex.assign rfl) rfl ?_
      refine Lw.val (Ex.assign rfl) rfl ?_
      refine Lw.nil ?_
      refine Pw.thenN (Cw.out ?_)
      refine Cw.tail 7 mixed (by kernel_rfl) ?_
      refine Qw.val (fun w1 hq => Ex.fieldAddr (q := 0) Tryz.underlying29 rfl (sz_27 _) rfl) rfl ?_
      refine Qw.val (fun w1 hq => Ex.ldB (ag_27 _) rfl (Blk.bs (by assumption) hq) rfl) rfl ?_
      refine Qw.val (fun w1 hq => Ex.move rfl) rfl ?_
      refine Qw.val (fun w1 hq => Ex.move rfl) rfl ?_
      refine Qw.val (fun w1 hq => Ex.move rfl) rfl ?_
      refine Qw.callV (p := []) (q := q) rfl rfl rfl (fun w1 hq => (hf i a w1 (bt hB3 hq) (by omega) (ha.bs hq)).q hq) ?_
      refine Qw.val (fun w1 hq => Ex.idxT st_27 rfl rfl (Sl.bs (by assumption) hq) _ rfl (by omega)) rfl ?_
      refine Qw.done (fun w13 hq => ?_)
      refine Lw.unit ((M.bs hq).st (sz_21 _) rfl rfl (by omega)) ?_
      rintro w14 ⟨M2, hg2, -⟩
      have hw2 := (M.bs hq).below (hw.trans (hq.mono (by have := hw.size; omega))) (by omega) hg2
      rw [show F i = fl.getD i default by rw [hfl]; simp [show i < (Shapes.size s).toNat by omega], td_set n1 hi'] at M2
      refine Lw.nil ?_
      refine Pw.blkN ?_
      refine Pw.thenN (Cw.out ?_)
      refine Cw.region ?_
      refine Lw.val (Ex.addI rfl rfl (by omega)) rfl ?_
      refine Lw.val (Ex.move rfl) rfl ?_
      refine Lw.nil ?_
      exact Pw.thenN (Pw.next (i + 1) ⟨rfl, rfl, rfl, rfl, rfl, rfl, rfl, trivial⟩ (⟨hi', hw2, M2⟩) (by omega))
    intro h
    have hi' : i = zs.length := by have := of_decide_eq_false h; omega
    subst hi'
    rw [td_all n1] at M
    have b_m := M.box
    have b_r := b_r.bl hw z_r
    rw [hfl] at M
    refine Cw.exit ?_
    refine Pw.thenE ?_
    refine Pw.thenE ?_
    refine Pw.blkHit ?_
    refine Pw.thenN (Cw.out ?_)
    refine Cw.seq ?_
    refine Cw.region ?_
    refine Lw.val (Ex.ldA (ag_29 _) (sz_29 _) rfl rfl (by assumption)) rfl ?_
    refine Lw.val (Ex.move rfl) rfl ?_
    refine Lw.unit (Xu.stA (cs := [x, y]) rfl rfl rfl rfl (mine_at M).one b_r rfl) ?_
    rintro w12 ⟨b_r2, hg, -⟩
    have M2 := M.keep hg (by rintro _ ⟨⟩; exact .inl z_r)
    have hB3 := hB2.grown hg (below_size hB2) (by rintro _ ⟨⟩; omega)
    refine Lw.val (Ex.assign rfl) rfl ?_
    refine Lw.nil ?_
    refine Pw.thenN (Cw.out ?_)
    refine Cw.ret ?_
    refine Pw.retCT rfl rfl rfl (by assumption) (Tryz.underlying29) rfl rfl rfl ?_
    exact ⟨hB3, x, y, rfl, ⟨M2.row.mono (by omega), own_mono M2.lst.own (by omega), M2.yx⟩⟩
  exact absurd hok (by rw [hk]; decide)
theorem idxOf_c (u : Value) (l : List Int) (x : Int) (w : World) (h_u : SlT (Value.int .i64) w u l) : Fnc Tryz.prog 147 [u, .int .i64 x] w (fun r w' => (∃ j, r = .int .i64 j ∧ decide (0 ≤ j) = l.contains x) ∧ w' = w) := by
  have hle := h_u.le
  refine Fnc.enter (n := 19) Tryz.func147 (by kernel_rfl) rfl rfl rfl ?_
  refine Cw.seq ?_
  refine Cw.region ?_
  refine Lw.val (Ex.assign rfl) rfl ?_
  refine Lw.nil ?_
  refine Pw.thenN (Cw.out ?_)
  refine Cw.seq ?_
  refine Cw.seq ?_
  refine Cw.region ?_
  refine Lw.val (Ex.move rfl) rfl ?_
  refine Lw.val (Ex.lenS st_26 rfl (by assumption)) rfl ?_
  refine Lw.val (Ex.move rfl) rfl ?_
  refine Lw.nil ?_
  refine Pw.thenN (Cw.out ?_)
  refine Cw.block ?_
  refine Cw.loop (S := Nat) (fun i => [(0, u), (1, .int .i64 x), (7, .int .i64 (l.length : Int)), (8, .int .i64 (i : Int))]) (fun i w' => i ≤ l.length ∧ (l.take i).contains x = false ∧ w' = w) (fun i => l.length - i) (0) ⟨rfl, rfl, rfl, rfl, trivial⟩ ?_ ?_
  · exact ⟨Nat.zero_le _, rfl, rfl⟩
  rintro i w1 ⟨hi, hc, rfl⟩
  refine Cw.seq ?_
  refine Cw.region ?_
  refine Lw.val (Ex.lss rfl rfl) rfl ?_
  refine Lw.nil ?_
  refine Pw.thenN (Cw.out ?_)
  refine Cw.seq ?_
  refine Cw.cond rfl ?_ ?_
  · intro h
    have hi' : i < l.length := by have := of_decide_eq_true h; omega
    have e1 : l.take (i + 1) = l.take i ++ [l.getD i default] := by rw [List.take_succ_eq_append_getElem hi']; simp [hi']
    refine Cw.skip ?_
    refine Pw.thenN (Cw.out ?_)
    refine Cw.seq ?_
    refine Cw.block ?_
    refine Cw.seq ?_
    refine Cw.region ?_
    refine Lw.val (Ex.move rfl) rfl ?_
    refine Lw.val (Ex.assign rfl) rfl ?_
    refine Lw.nil ?_
    refine Pw.thenN (Cw.out ?_)
    refine Cw.seq ?_
    refine Cw.region ?_
    refine Lw.val (Ex.move rfl) rfl ?_
    refine Lw.val (Ex.move rfl) rfl ?_
    refine Lw.val (Ex.move rfl) rfl ?_
    refine Lw.val (Ex.idxT st_26 rfl rfl (by assumption) _ rfl (by omega)) rfl ?_
    refine Lw.val (Ex.ldT (ag_3 _) rfl (by assumption) (by omega)) rfl ?_
    refine Lw.val (Ex.eql rfl rfl) rfl ?_
    refine Lw.nil ?_
    refine Pw.thenN (Cw.out ?_)
    refine Cw.cond rfl ?_ ?_
    · intro g
      have g := of_decide_eq_true g
      refine Cw.seq ?_
      refine Cw.region ?_
      refine Lw.val (Ex.move rfl) rfl ?_
      refine Lw.val (Ex.assign rfl) rfl ?_
      refine Lw.nil ?_
      refine Pw.thenN (Cw.out ?_)
      refine Cw.ret ?_
      refine Pw.blkR ?_
      refine Pw.thenR ?_
      refine Pw.thenR ?_
      refine Pw.blkR ?_
      refine Pw.thenR ?_
      refine Pw.ret1 rfl rfl ?_
      refine ⟨⟨(i : Int), rfl, ?_⟩, rfl⟩
      have hm : x ∈ l := by rw [g]; simp [hi']
      rw [decide_eq_true (by omega), List.contains_iff_mem.2 hm]
    intro g
    have g := of_decide_eq_false g
    refine Cw.skip ?_
    refine Pw.blkN ?_
    refine Pw.thenN (Cw.out ?_)
    refine Cw.region ?_
    refine Lw.val (Ex.addI rfl rfl (by omega)) rfl ?_
    refine Lw.val (Ex.move rfl) rfl ?_
    refine Lw.nil ?_
    exact Pw.thenN (Pw.next (i + 1) ⟨rfl, rfl, rfl, rfl, trivial⟩ (⟨hi', by rw [e1, List.contains_append, hc, Bool.false_or, List.contains_cons, beq_false_of_ne g]; rfl, rfl⟩) (by omega))
  intro h
  have hi' : i = l.length := by have := of_decide_eq_false h; omega
  subst hi'
  rw [List.take_length] at hc
  refine Cw.exit ?_
  refine Pw.thenE ?_
  refine Pw.thenE ?_
  refine Pw.blkHit ?_
  refine Pw.thenN (Cw.out ?_)
  refine Cw.seq ?_
  refine Cw.region ?_
  refine Lw.val (Ex.assign rfl) rfl ?_
  refine Lw.nil ?_
  refine Pw.thenN (Cw.out ?_)
  refine Cw.ret ?_
  refine Pw.ret1 rfl rfl ?_
  exact ⟨⟨-1, rfl, by rw [hc]; rfl⟩, rfl⟩
theorem contains_c (u : Value) (l : List Int) (x : Int) (w : World) (h_u : SlT (Value.int .i64) w u l) : Fnc Tryz.prog 97 [u, .int .i64 x] w (fun r w' => r = .bool (l.contains x) ∧ Below w.heap.size w w') := by
  refine Fnc.enter (n := 9) Tryz.func97 (by kernel_rfl) rfl rfl rfl ?_
  refine Cw.seq ?_
  refine Cw.region ?_
  refine Lw.val (Ex.assign rfl) rfl ?_
  refine Lw.nil ?_
  refine Pw.thenN (Cw.out ?_)
  refine Cw.seq ?_
  refine Cw.region ?_
  refine Lw.val (Ex.move rfl) rfl ?_
  refine Lw.val (Ex.move rfl) rfl ?_
  refine Lw.callF rfl rfl (idxOf_c u l x w h_u) ?_
  rintro _ _ ⟨⟨j, rfl, hj⟩, rfl⟩
  refine Lw.val (Ex.geq rfl rfl) rfl ?_
  refine Lw.val (Ex.assign rfl) rfl ?_
  refine Lw.nil ?_
  refine Pw.thenN (Cw.out ?_)
  refine Cw.ret ?_
  refine Pw.ret1 rfl rfl ?_
  exact ⟨congrArg Value.bool hj, Below.refl _ _⟩
/-- Where a turned number comes from. -/
theorem turnF_c (A_o A_t : Nat) (v : Value) (o : List Int) (t : T4) (a : Value) (i : Nat) (w : World) (b_o : Blk w A_o 26 [v]) (b_t : Blk w A_t 29 [t.x, t.y]) (h_o : SlT (Value.int .i64) w v o) (h_t : t.at w) (k_t : tok t.s t.l = true) (ho : ordOk o = true) (hl : o.length = t.s.length)
    (h_a : SlT (Value.int .i64) w a (Shapes.place (turn t.s o) i)) :
    Fnc Tryz.prog 98 ([a] ++ [.pointer (some ⟨A_o, 0, none⟩), .pointer (some ⟨A_t, 0, none⟩)]) w (fun r w' => r = i32 (t.l.getD (tuS t.s o (Shapes.place (turn t.s o) i) o.length).toNat default) ∧ Below w.heap.size w w') := by
  have hB := Below.refl w.heap.size w
  obtain ⟨k1, k2⟩ := tok_ok k_t
  have S := (Shapes.ok_iff t.s).1 k1
  have okT := turn_ok k1 ho hl
  have T := (Shapes.ok_iff (turn t.s o)).1 okT
  obtain ⟨p, hp⟩ : ∃ p, p = Shapes.place (turn t.s o) i := ⟨_, rfl⟩
  have pin : Shapes.inn (turn t.s o) p = true := by rw [hp]; exact Shapes.place_in (by omega) T.2.1
  have lp : p.length = o.length := by rw [hp, Shapes.place_length, turn_length]
  rw [← hp] at h_a ⊢
  have hle := h_o.le
  have kt := tuS_lt k1 ho hl pin
  have szt := Shapes.size_ok k1
  have hz := Shapes.size_le t.s
  show Fnc Tryz.prog 98 [a, .pointer (some ⟨A_o, 0, none⟩), .pointer (some ⟨A_t, 0, none⟩)] w _
  refine Fnc.enter (n := 32) Tryz.func98 (by kernel_rfl) rfl rfl rfl ?_
  refine Cw.seq ?_
  refine Cw.region ?_
  refine Lw.val (Ex.assign (show _ = some (i32 (0#32)) from rfl)) rfl ?_
  refine Lw.nil ?_
  refine Pw.thenN (Cw.out ?_)
  refine Cw.seq ?_
  refine Cw.region ?_
  refine Lw.val (Ex.assign rfl) rfl ?_
  refine Lw.nil ?_
  refine Pw.thenN (Cw.out ?_)
  refine Cw.seq ?_
  refine Cw.seq ?_
  refine Cw.region ?_
  refine Lw.val (Ex.ldB (ag_26 _) rfl (by assumption) rfl) rfl ?_
  refine Lw.val (Ex.lenS st_26 rfl (by assumption)) rfl ?_
  refine Lw.val (Ex.move rfl) rfl ?_
  refine Lw.nil ?_
  refine Pw.thenN (Cw.out ?_)
  refine Cw.block ?_
  refine Cw.loop (S := Nat) (fun j => [(0, a), (1, .pointer (some ⟨A_o, 0, none⟩)), (2, .pointer (some ⟨A_t, 0, none⟩)), (5, .int .i64 (tuS t.s o p j)), (8, v), (9, .int .i64 (o.length : Int)), (10, .int .i64 (j : Int))]) (fun j w' => j ≤ o.length ∧ Below w.heap.size w w') (fun j => o.length - j) (0) ⟨rfl, rfl, rfl, rfl, rfl, rfl, rfl, trivial⟩ ?_ ?_
  · exact ⟨Nat.zero_le _, hB⟩
  rintro j w1 ⟨hj, hn⟩
  have h_o1 := h_o.bs hn
  have h_a1 := h_a.bs hn
  have b_t1 := b_t.bs hn
  have h_t1 := (h_t.bs hn).1
  refine Cw.seq ?_
  refine Cw.region ?_
  refine Lw.val (Ex.lss rfl rfl) rfl ?_
  refine Lw.nil ?_
  refine Pw.thenN (Cw.out ?_)
  refine Cw.seq ?_
  refine Cw.cond rfl ?_ ?_
  · intro h
    have hj' : j < o.length := by have := of_decide_eq_true h; omega
    obtain ⟨k, hk⟩ : ∃ k : Nat, o.getD j default = (k : Int) := ⟨_, (Int.toNat_of_nonneg (ord_in ho hj').1).symm⟩
    have hks : k < t.s.length := by have := (ord_in ho hj').2; omega
    have aj := Shapes.inn_at pin (k := j) (by rw [turn_length]; exact hj')
    rw [turn_at hj', hk, Int.toNat_natCast] at aj
    have ds := dim_at S.2.1 hks
    have pr := Shapes.ok_prod k1 (k + 1)
    have m0 : 0 ≤ p.getD j default * Shapes.prod (t.s.drop (k + 1)) := Int.mul_nonneg aj.1 (by omega)
    have m1 : p.getD j default * Shapes.prod (t.s.drop (k + 1)) ≤ 64 * 4096 := Int.mul_le_mul (by omega) pr.2 (by omega) (by decide)
    have l1 := tuS_le k1 ho hl pin hj
    have eF : tuS t.s o p j + p.getD j default * Shapes.prod (t.s.drop (k + 1)) = tuS t.s o p (j + 1) := by
      show _ = tuS t.s o p j + tuF t.s o p j
      unfold tuF; rw [hk, Int.toNat_natCast]
    refine Cw.skip ?_
    refine Pw.thenN (Cw.out ?_)
    refine Cw.seq ?_
    refine Cw.block ?_
    refine Cw.seq ?_
    refine Cw.region ?_
    refine Lw.val (Ex.move rfl) rfl ?_
    refine Lw.val (Ex.idxT st_26 rfl rfl (by assumption) _ rfl (by omega)) rfl ?_
    refine Lw.val ((Ex.ldT (ag_3 _) rfl h_o1 hj').as (congrArg (Value.int .i64) hk)) rfl ?_
    refine Lw.val (Ex.assign rfl) rfl ?_
    refine Lw.val (Ex.assign rfl) rfl ?_
    refine Lw.nil ?_
    refine Pw.thenN (Cw.out ?_)
    refine Cw.quiet mixed (by kernel_rfl) ?_
    refine Qw.val (fun w1 hq => Ex.move rfl) rfl ?_
    refine Qw.val (fun w1 hq => Ex.move rfl) rfl ?_
    refine Qw.val (fun w1 hq => Ex.move rfl) rfl ?_
    refine Qw.val (fun w1 hq => Ex.idxT st_26 rfl rfl (Sl.bs (by assumption) hq) _ rfl (by omega)) rfl ?_
    refine Qw.val (fun w1 hq => Ex.ldT (ag_3 _) rfl (Sl.bs (by assumption) hq) (by omega)) rfl ?_
    refine Qw.val (fun w1 hq => Ex.fieldAddr (q := 0) Tryz.underlying29 rfl (sz_26 _) rfl) rfl ?_
    refine Qw.val (fun w1 hq => Ex.ldB (ag_26 _) rfl (Blk.bs (by assumption) hq) rfl) rfl ?_
    refine Qw.val (fun w1 hq => Ex.move rfl) rfl ?_
    refine Qw.callF rfl rfl (fun w1 hq => (behind_c t.x t.s k w1 (h_t1.bs hq) k1 hks).q hq) ?_
    refine Qw.val (fun w1 hq => Ex.mulI rfl rfl (by omega)) rfl ?_
    refine Qw.val (fun w1 hq => Ex.addI rfl rfl (by omega)) rfl ?_
    refine Qw.val (fun w1 hq => Ex.assign rfl) rfl ?_
    refine Qw.nil (fun w2 hq => ?_)
    refine Pw.blkN ?_
    refine Pw.thenN (Cw.out ?_)
    refine Cw.region ?_
    refine Lw.val (Ex.addI rfl rfl (by omega)) rfl ?_
    refine Lw.val (Ex.move rfl) rfl ?_
    refine Lw.nil ?_
    exact Pw.thenN (Pw.next (j + 1) ⟨rfl, rfl, rfl, congrArg (fun x => some (Value.int .i64 x)) eF, rfl, rfl, rfl, trivial⟩ (⟨hj', bt hn hq⟩) (by omega))
  intro h
  have hj' : j = o.length := by have := of_decide_eq_false h; omega
  subst hj'
  obtain ⟨K, hK⟩ : ∃ K : Nat, tuS t.s o p o.length = (K : Int) := ⟨_, (Int.toNat_of_nonneg kt.1).symm⟩
  have h_t2 := (h_t.bs hn).2
  have hKl : K < t.l.length := by omega
  refine Cw.exit ?_
  refine Pw.thenE ?_
  refine Pw.thenE ?_
  refine Pw.blkHit ?_
  refine Pw.thenN (Cw.out ?_)
  refine Cw.seq ?_
  refine Cw.region ?_
  refine Lw.val (Ex.fieldAddr (q := 0) Tryz.underlying29 rfl (sz_27 _) rfl) rfl ?_
  refine Lw.val (Ex.ldB (ag_27 _) rfl (by assumption) rfl) rfl ?_
  refine Lw.val (Ex.move rfl) rfl ?_
  refine Lw.val (Ex.idxT st_27 rfl rfl h_t2 K hK hKl) rfl ?_
  refine Lw.val (Ex.ldT (ag_21 _) rfl (by assumption) (by omega)) rfl ?_
  refine Lw.val (Ex.assign rfl) rfl ?_
  refine Lw.nil ?_
  refine Pw.thenN (Cw.out ?_)
  refine Cw.ret ?_
  refine Pw.ret1 rfl rfl ?_
  exact ⟨by rw [hK, Int.toNat_natCast], hn⟩
def tnE (t : T4) (o : List Int) : Int := if tok t.s t.l && decide (o.length = t.s.length) && ordOk o then 0 else 1
theorem mturn_c (t : T4) (v : Value) (o : List Int) (W : World) (h_t : t.at W) (h_v : SlT (Value.int .i64) W v o) :
    Fnc Tryz.prog 19 [t.v, v] W (fun r w' => Below W.heap.size W w' ∧ AnsK W w' r (tnE t o) (turn t.s o) (tuL t.s t.l o)) := by
  have hB := Below.refl W.heap.size W
  have hvo := h_v.one
  refine Fnc.enter (n := 61) Tryz.func19 (by kernel_rfl) rfl rfl rfl ?_
  refine Cw.seq ?_
  refine Cw.region ?_
  refine Lw.boxV (cs := [t.x, t.y]) rfl rfl rfl ?_
  rintro A_t w eA_t b_t hn -
  replace hB := hB.bs hn
  replace h_t := h_t.bs hn
  replace h_v := h_v.bs hn
  clear hn
  refine Lw.boxV (cs := [v]) rfl hvo rfl ?_
  rintro A_o w eA_o b_o hn -
  replace hB := hB.bs hn
  replace h_t := h_t.bs hn
  replace h_v := h_v.bs hn
  replace b_t := b_t.bs hn
  clear hn
  have z0 := below_size hB
  refine Lw.newA it_29 rfl ?_
  rintro A_r w eA_r b_r hn -
  replace hB := hB.bs hn
  replace h_t := h_t.bs hn
  replace h_v := h_v.bs hn
  replace b_t := b_t.bs hn
  replace b_o := b_o.bs hn
  clear hn
  refine Lw.val (Ex.assign rfl) rfl ?_
  refine Lw.nil ?_
  refine Pw.thenN (Cw.out ?_)
  refine Cw.seq ?_
  refine Cw.seq ?_
  refine Cw.region ?_
  refine Lw.val (Ex.ldA (ag_29 _) (sz_29 _) rfl rfl (by assumption)) rfl ?_
  have z_r := blk_lt b_r
  have h_t1 := h_t.1
  refine Lw.callF rfl rfl (tcheck_c t.x t.y t.s t.l _ h_t.1 h_t.2) ?_
  rintro _ w ⟨rfl, hn⟩
  replace hB := hB.bs hn
  replace h_t := h_t.bs hn
  replace h_v := h_v.bs hn
  replace b_t := b_t.bs hn
  replace b_o := b_o.bs hn
  replace b_r := b_r.bs hn
  replace h_t1 := h_t1.bs hn
  clear hn
  refine Lw.val (Ex.not rfl) rfl ?_
  refine Lw.val (Ex.move rfl) rfl ?_
  refine Lw.part 12 rfl ?_ ?_
  · intro g
    refine Lw.pass (dj := 12) rfl rfl rfl rfl ?_
    refine Lw.pass (dj := 12) rfl rfl rfl rfl ?_
    refine Lw.pass (dj := 12) rfl rfl rfl rfl ?_
    refine Lw.pass (dj := 12) rfl rfl rfl rfl ?_
    refine Lw.pass (dj := 12) rfl rfl rfl rfl ?_
    refine Lw.pass (dj := 12) rfl rfl rfl rfl ?_
    refine Lw.val (Ex.pickT rfl rfl) rfl ?_
    refine Lw.nil ?_
    refine Pw.thenN (Cw.out ?_)
    refine Cw.condT rfl ?_
    refine Cw.seq ?_
    refine Cw.region ?_
    refine Lw.val (Ex.build (vs := []) (cs := [.slice none 0 0, .slice none 0 0]) rfl (by kernel_rfl)) rfl ?_
    refine Lw.unit (Xu.stA (cs := [.slice none 0 0, .slice none 0 0]) rfl rfl rfl rfl rfl b_r rfl) ?_
    rintro w3 ⟨b_r, hg, -⟩
    have hB := hB.grown hg (below_size hB) (by rintro _ ⟨⟩; omega)
    refine Lw.val (Ex.assign rfl) rfl ?_
    refine Lw.nil ?_
    refine Pw.thenN (Cw.out ?_)
    refine Cw.ret ?_
    refine Pw.thenR ?_
    refine Pw.retCT rfl rfl rfl (by assumption) (Tryz.underlying29) rfl rfl rfl ?_
    rw [show tnE t o = 1 by simp_all [tnE]]
    exact ⟨hB, ansK_no (by decide)⟩
  intro g1
  have k_t : tok t.s t.l = true := by simpa using g1
  refine Lw.take (dj := 12) rfl rfl ?_
  refine Lw.val (Ex.ldB (ag_26 _) rfl (by assumption) rfl) rfl ?_
  refine Lw.take (dj := 12) rfl rfl ?_
  refine Lw.val (Ex.lenS st_26 rfl (by assumption)) rfl ?_
  refine Lw.take (dj := 12) rfl rfl ?_
  refine Lw.val (Ex.fieldAddr (q := 0) Tryz.underlying29 rfl (sz_26 _) rfl) rfl ?_
  refine Lw.take (dj := 12) rfl rfl ?_
  refine Lw.val (Ex.ldB (ag_26 _) rfl (by assumption) rfl) rfl ?_
  refine Lw.take (dj := 12) rfl rfl ?_
  refine Lw.val (Ex.lenS st_26 rfl (by assumption)) rfl ?_
  refine Lw.take (dj := 12) rfl rfl ?_
  refine Lw.val (Ex.neq rfl rfl) rfl ?_
  refine Lw.val (Ex.pickF rfl rfl) rfl ?_
  refine Lw.nil ?_
  refine Pw.thenN (Cw.out ?_)
  refine Cw.cond rfl ?_ ?_
  · intro g
    have g : ¬ o.length = t.s.length := by have := g; simp at this; omega
    refine Cw.seq ?_
    refine Cw.region ?_
    refine Lw.val (Ex.build (vs := []) (cs := [.slice none 0 0, .slice none 0 0]) rfl (by kernel_rfl)) rfl ?_
    refine Lw.unit (Xu.stA (cs := [.slice none 0 0, .slice none 0 0]) rfl rfl rfl rfl rfl b_r rfl) ?_
    rintro w3 ⟨b_r, hg, -⟩
    have hB := hB.grown hg (below_size hB) (by rintro _ ⟨⟩; omega)
    refine Lw.val (Ex.assign rfl) rfl ?_
    refine Lw.nil ?_
    refine Pw.thenN (Cw.out ?_)
    refine Cw.ret ?_
    refine Pw.thenR ?_
    refine Pw.retCT rfl rfl rfl (by assumption) (Tryz.underlying29) rfl rfl rfl ?_
    rw [show tnE t o = 1 by unfold tnE; rw [decide_eq_false g, Bool.and_false, Bool.false_and]; rfl]
    exact ⟨hB, ansK_no (by decide)⟩
  intro g2
  have hl : o.length = t.s.length := by have := g2; simp at this; omega
  clear g1 g2
  have S := (Shapes.ok_iff t.s).1 (tok_ok k_t).1
  refine Cw.skip ?_
  refine Pw.thenN (Cw.out ?_)
  refine Cw.seq ?_
  refine Cw.region ?_
  refine Lw.val (Ex.ldB (ag_26 _) rfl (by assumption) rfl) rfl ?_
  refine Lw.val (Ex.lenS st_26 rfl (by assumption)) rfl ?_
  have zB := below_size hB
  obtain ⟨B, hBB⟩ : ∃ B, B = w.heap.size := ⟨_, rfl⟩
  have p_t := h_t
  have p_v := h_v
  have y_t := blk_lt b_t
  have y_o := blk_lt b_o
  have y_r := blk_lt b_r
  rename World => w0
  refine Lw.valW (Xw.make (l := o.length) (c := o.length) st_26 it_3 rfl rfl rfl (Nat.le_refl _) (by omega) (by omega)) rfl ?_
  rintro y w1 ⟨hy, -, hn, -⟩
  obtain ⟨zs, hzs⟩ : ∃ l, l = List.replicate o.length (0 : Int) := ⟨_, rfl⟩
  have n2 : zs.length = o.length := by rw [hzs]; simp
  have n1 : (turn t.s o).length = zs.length := by rw [turn_length, n2]
  have hy : w1.ownsRow w0.heap.size 3 1 y zs.length (zs.map (Value.int .i64)) := by rw [n2, hzs, ← rep_flat (enc := Value.int .i64) (z := 0)]; exact hy
  replace hB := hB.bs hn
  replace h_t := h_t.bs hn
  replace h_v := h_v.bs hn
  replace b_t := b_t.bs hn
  replace b_o := b_o.bs hn
  replace b_r := b_r.bs hn
  replace h_t1 := h_t1.bs hn
  have zn := hn.size
  clear hn
  refine Lw.val (Ex.assign rfl) rfl ?_
  refine Lw.nil ?_
  refine Pw.thenN (Cw.out ?_)
  refine Cw.seq ?_
  refine Cw.seq ?_
  refine Cw.region ?_
  refine Lw.val (Ex.ldB (ag_26 _) rfl (by assumption) rfl) rfl ?_
  refine Lw.val (Ex.lenS st_26 rfl (by assumption)) rfl ?_
  refine Lw.val (Ex.move rfl) rfl ?_
  refine Lw.nil ?_
  refine Pw.thenN (Cw.out ?_)
  refine Cw.block ?_
  refine Cw.loop (S := Nat) (fun i => [(2, .pointer (some ⟨A_t, 0, none⟩)), (3, .pointer (some ⟨A_o, 0, none⟩)), (4, .pointer (some ⟨A_r, 0, none⟩)), (6, y), (24, v), (25, .int .i64 (o.length : Int)), (26, .int .i64 (i : Int))]) (fun i w' => i ≤ o.length ∧ (∀ j, j < i → ordC o j = true) ∧ Below w0.heap.size w1 w' ∧ w'.ownsRow w0.heap.size 3 1 y zs.length (((turn t.s o).take i ++ zs.drop i).map (Value.int .i64))) (fun i => o.length - i) (0) ⟨rfl, rfl, rfl, rfl, rfl, rfl, rfl, trivial⟩ ?_ ?_
  · exact ⟨Nat.zero_le _, fun j hj => absurd hj (by omega), Below.refl _ _, by rw [td_zero]; exact hy⟩
  clear hy
  rintro i w2 ⟨hi, hC, hw, hy⟩
  have zw := hw.size
  have hB := hB.trans (hw.mono zB)
  have b_t := b_t.bl hw y_t
  have b_o := b_o.bl hw y_o
  have b_r := b_r.bl hw y_r
  have h_t := at_stay p_t h_t (Nat.le_refl _) hw
  have h_v : SlT (Value.int .i64) w2 v o := Sl.stay h_v fun k e hne => hw.block k (Sl.blk p_v hne k e)
  have h_t1 := h_t.1
  refine Cw.seq ?_
  refine Cw.region ?_
  refine Lw.val (Ex.lss rfl rfl) rfl ?_
  refine Lw.nil ?_
  refine Pw.thenN (Cw.out ?_)
  refine Cw.seq ?_
  refine Cw.cond rfl ?_ ?_
  · intro h
    have hi' : i < o.length := by have := of_decide_eq_true h; omega
    obtain ⟨k, hk⟩ : ∃ k, k = o.getD i default := ⟨_, rfl⟩
    refine Cw.skip ?_
    refine Pw.thenN (Cw.out ?_)
    refine Cw.seq ?_
    refine Cw.block ?_
    refine Cw.seq ?_
    refine Cw.region ?_
    refine Lw.val (Ex.move rfl) rfl ?_
    refine Lw.val (Ex.idxT st_26 rfl rfl (by assumption) _ rfl (by omega)) rfl ?_
    refine Lw.val ((Ex.ldT (ag_3 _) rfl h_v hi').as (congrArg (Value.int .i64) hk.symm)) rfl ?_
    refine Lw.val (Ex.assign rfl) rfl ?_
    refine Lw.val (Ex.assign rfl) rfl ?_
    refine Lw.nil ?_
    refine Pw.thenN (Cw.out ?_)
    refine Cw.seq ?_
    refine Cw.seq ?_
    refine Cw.region ?_
    refine Lw.val (Ex.move rfl) rfl ?_
    refine Lw.val (Ex.lss rfl rfl) rfl ?_
    refine Lw.val (Ex.move rfl) rfl ?_
    refine Lw.part 33 rfl ?_ ?_
    · intro g
      have g := of_decide_eq_true g
      refine Lw.pass (dj := 33) rfl rfl rfl rfl ?_
      refine Lw.pass (dj := 33) rfl rfl rfl rfl ?_
      refine Lw.pass (dj := 33) rfl rfl rfl rfl ?_
      refine Lw.pass (dj := 33) rfl rfl rfl rfl ?_
      refine Lw.val (Ex.pickT rfl rfl) rfl ?_
      refine Lw.val (Ex.move rfl) rfl ?_
      refine Lw.pass (dj := 39) rfl rfl rfl rfl ?_
      refine Lw.pass (dj := 39) rfl rfl rfl rfl ?_
      refine Lw.pass (dj := 39) rfl rfl rfl rfl ?_
      refine Lw.pass (dj := 39) rfl rfl rfl rfl ?_
      refine Lw.pass (dj := 39) rfl rfl rfl rfl ?_
      refine Lw.val (Ex.pickT rfl rfl) rfl ?_
      refine Lw.nil ?_
      refine Pw.thenN (Cw.out ?_)
      refine Cw.condT rfl ?_
      refine Cw.seq ?_
      refine Cw.region ?_
      refine Lw.val (Ex.build (vs := []) (cs := [.slice none 0 0, .slice none 0 0]) rfl (by kernel_rfl)) rfl ?_
      refine Lw.unit (Xu.stA (cs := [.slice none 0 0, .slice none 0 0]) rfl rfl rfl rfl rfl b_r rfl) ?_
      rintro w3 ⟨b_r, hg, -⟩
      have hB := hB.grown hg (below_size hB) (by rintro _ ⟨⟩; omega)
      refine Lw.val (Ex.assign rfl) rfl ?_
      refine Lw.nil ?_
      refine Pw.thenN (Cw.out ?_)
      refine Cw.ret ?_
      refine Pw.thenR ?_
      refine Pw.blkR ?_
      refine Pw.thenR ?_
      refine Pw.thenR ?_
      refine Pw.blkR ?_
      refine Pw.thenR ?_
      refine Pw.retCT rfl rfl rfl (by assumption) (Tryz.underlying29) rfl rfl rfl ?_
      rw [show tnE t o = 1 by unfold tnE; rw [ordOk_no hi' (by unfold ordC; rw [← hk, decide_eq_false (show ¬ 0 ≤ k by omega)]; rfl), Bool.and_false]; rfl]
      exact ⟨hB, ansK_no (by decide)⟩
    intro g1
    have g1 := of_decide_eq_false g1
    refine Lw.take (dj := 33) rfl rfl ?_
    refine Lw.val (Ex.move rfl) rfl ?_
    refine Lw.take (dj := 33) rfl rfl ?_
    refine Lw.val (Ex.ldB (ag_26 _) rfl (by assumption) rfl) rfl ?_
    refine Lw.take (dj := 33) rfl rfl ?_
    refine Lw.val (Ex.lenS st_26 rfl (by assumption)) rfl ?_
    refine Lw.take (dj := 33) rfl rfl ?_
    refine Lw.val (Ex.geq rfl rfl) rfl ?_
    refine Lw.val (Ex.pickF rfl rfl) rfl ?_
    refine Lw.val (Ex.move rfl) rfl ?_
    refine Lw.part 39 rfl ?_ ?_
    · intro g
      have g := of_decide_eq_true g
      refine Lw.pass (dj := 39) rfl rfl rfl rfl ?_
      refine Lw.pass (dj := 39) rfl rfl rfl rfl ?_
      refine Lw.pass (dj := 39) rfl rfl rfl rfl ?_
      refine Lw.pass (dj := 39) rfl rfl rfl rfl ?_
      refine Lw.pass (dj := 39) rfl rfl rfl rfl ?_
      refine Lw.val (Ex.pickT rfl rfl) rfl ?_
      refine Lw.nil ?_
      refine Pw.thenN (Cw.out ?_)
      refine Cw.condT rfl ?_
      refine Cw.seq ?_
      refine Cw.region ?_
      refine Lw.val (Ex.build (vs := []) (cs := [.slice none 0 0, .slice none 0 0]) rfl (by kernel_rfl)) rfl ?_
      refine Lw.unit (Xu.stA (cs := [.slice none 0 0, .slice none 0 0]) rfl rfl rfl rfl rfl b_r rfl) ?_
      rintro w3 ⟨b_r, hg, -⟩
      have hB := hB.grown hg (below_size hB) (by rintro _ ⟨⟩; omega)
      refine Lw.val (Ex.assign rfl) rfl ?_
      refine Lw.nil ?_
      refine Pw.thenN (Cw.out ?_)
      refine Cw.ret ?_
      refine Pw.thenR ?_
      refine Pw.blkR ?_
      refine Pw.thenR ?_
      refine Pw.thenR ?_
      refine Pw.blkR ?_
      refine Pw.thenR ?_
      refine Pw.retCT rfl rfl rfl (by assumption) (Tryz.underlying29) rfl rfl rfl ?_
      rw [show tnE t o = 1 by unfold tnE; rw [ordOk_no hi' (by unfold ordC; rw [← hk, decide_eq_false (show ¬ k < (o.length : Int) by omega), Bool.and_false]; rfl), Bool.and_false]; rfl]
      exact ⟨hB, ansK_no (by decide)⟩
    intro g2
    have g2 := of_decide_eq_false g2
    refine Lw.take (dj := 39) rfl rfl ?_
    refine Lw.val (Ex.ldB (ag_26 _) rfl (by assumption) rfl) rfl ?_
    refine Lw.take (dj := 39) rfl rfl ?_
    refine Lw.val (Ex.move rfl) rfl ?_
    refine Lw.take (dj := 39) rfl rfl ?_
    refine Lw.val (Ex.cutH st_26 rfl rfl h_v hi) rfl ?_
    refine Lw.take (dj := 39) rfl rfl ?_
    refine Lw.val (Ex.move rfl) rfl ?_
    refine Lw.take (dj := 39) rfl rfl ?_
    refine Lw.callF rfl rfl (contains_c (cut v 1 0 i) (o.take i) k _ (SlT.take h_v hi)) ?_
    rintro _ w3 ⟨rfl, hn⟩
    have hw := hw.trans (hn.mono (by omega))
    replace hB := hB.bs hn
    replace h_t := h_t.bs hn
    replace h_v := h_v.bs hn
    replace b_t := b_t.bs hn
    replace b_o := b_o.bs hn
    replace b_r := b_r.bs hn
    replace hy := hy.bs hn
    clear hn
    refine Lw.val (Ex.pickF rfl rfl) rfl ?_
    refine Lw.nil ?_
    refine Pw.thenN (Cw.out ?_)
    refine Cw.cond rfl ?_ ?_
    · intro g
      refine Cw.seq ?_
      refine Cw.region ?_
      refine Lw.val (Ex.build (vs := []) (cs := [.slice none 0 0, .slice none 0 0]) rfl (by kernel_rfl)) rfl ?_
      refine Lw.unit (Xu.stA (cs := [.slice none 0 0, .slice none 0 0]) rfl rfl rfl rfl rfl b_r rfl) ?_
      rintro w3 ⟨b_r, hg, -⟩
      have hB := hB.grown hg (below_size hB) (by rintro _ ⟨⟩; omega)
      refine Lw.val (Ex.assign rfl) rfl ?_
      refine Lw.nil ?_
      refine Pw.thenN (Cw.out ?_)
      refine Cw.ret ?_
      refine Pw.thenR ?_
      refine Pw.blkR ?_
      refine Pw.thenR ?_
      refine Pw.thenR ?_
      refine Pw.blkR ?_
      refine Pw.thenR ?_
      refine Pw.retCT rfl rfl rfl (by assumption) (Tryz.underlying29) rfl rfl rfl ?_
      rw [show tnE t o = 1 by unfold tnE; rw [ordOk_no hi' (by unfold ordC; rw [← hk, g, Bool.not_true, Bool.and_false]), Bool.and_false]; rfl]
      exact ⟨hB, ansK_no (by decide)⟩
    intro g3
    have hO : ordC o i = true := by unfold ordC; rw [← hk, g3, decide_eq_true (show 0 ≤ k by omega), decide_eq_true (show k < (o.length : Int) by omega)]; rfl
    obtain ⟨K, hK⟩ : ∃ K : Nat, k = (K : Int) := ⟨_, (Int.toNat_of_nonneg (by omega)).symm⟩
    have hKs : K < t.s.length := by omega
    have h_t1 := h_t.1
    have e1 := td_len (i := i) n1
    have hy' := hy
    rw [← e1] at hy'
    have s_y := own_slT hy'
    clear hy'
    have hC' : ∀ j, j < i + 1 → ordC o j = true := by
      intro j hj
      rcases Nat.lt_or_ge j i with h | h
      · exact hC j h
      · obtain rfl : j = i := by omega
        exact hO
    have eV : t.s.getD K default = (turn t.s o).getD i default := by rw [turn_at hi', ← hk, hK, Int.toNat_natCast]
    refine Cw.skip ?_
    refine Pw.thenN (Cw.out ?_)
    refine Cw.region ?_
    refine Lw.val (Ex.move rfl) rfl ?_
    refine Lw.val (Ex.move rfl) rfl ?_
    refine Lw.val (Ex.fieldAddr (q := 0) Tryz.underlying29 rfl (sz_26 _) rfl) rfl ?_
    refine Lw.val (Ex.ldB (ag_26 _) rfl (by assumption) rfl) rfl ?_
    refine Lw.val (Ex.move rfl) rfl ?_
    refine Lw.val (Ex.idxT st_26 rfl rfl h_t1 K hK hKs) rfl ?_
    refine Lw.val ((Ex.ldT (ag_3 _) rfl h_t1 hKs).as (congrArg (Value.int .i64) eV)) rfl ?_
    refine Lw.val (Ex.idxT st_26 rfl rfl s_y i rfl (by omega)) rfl ?_
    refine Lw.unit (Xu.stO (sz_3 _) rfl rfl rfl hy (by rw [List.length_map]; omega)) ?_
    rintro w4 ⟨hy4, hg, -⟩
    rw [← List.map_set, td_set n1 (by omega)] at hy4
    have hw4 := hw.grown hg (by have := hw.size; omega) (fun b e => (own_block hy b e).1)
    refine Lw.nil ?_
    refine Pw.blkN ?_
    refine Pw.thenN (Cw.out ?_)
    refine Cw.region ?_
    refine Lw.val (Ex.addI rfl rfl (by omega)) rfl ?_
    refine Lw.val (Ex.move rfl) rfl ?_
    refine Lw.nil ?_
    exact Pw.thenN (Pw.next (i + 1) ⟨rfl, rfl, rfl, rfl, rfl, rfl, rfl, trivial⟩ (⟨hi', hC', hw4, hy4⟩) (by omega))
  intro h
  have hi' : i = o.length := by have := of_decide_eq_false h; omega
  subst hi'
  have ho : ordOk o = true := ordOk_iff.2 hC
  rw [← n2, td_all n1] at hy
  rw [← n1] at hy
  have s_y := own_slT hy
  have okT := turn_ok (tok_ok k_t).1 ho hl
  have q_r : A_r < w2.heap.size := by omega
  rw [show tnE t o = 0 by unfold tnE; rw [k_t, decide_eq_true hl, ho]; rfl]
  refine Cw.exit ?_
  refine Pw.thenE ?_
  refine Pw.thenE ?_
  refine Pw.blkHit ?_
  refine Pw.thenN (Cw.out ?_)
  refine Cw.seq ?_
  refine Cw.region ?_
  refine Lw.val (Ex.move rfl) rfl ?_
  refine Lw.val (Ex.mkFn (vs := []) (us := [.pointer (some ⟨A_o, 0, none⟩), .pointer (some ⟨A_t, 0, none⟩)]) rfl rfl) rfl ?_
  refine Lw.callF rfl rfl (filled_c y (turn t.s o) 98 [.pointer (some ⟨A_o, 0, none⟩), .pointer (some ⟨A_t, 0, none⟩)] (fun i => t.l.getD (tuS t.s o (Shapes.place (turn t.s o) (i : Int)) o.length).toNat default) _ s_y okT (fun i a w' hb _ ha => turnF_c A_o A_t v o t a i w' (b_o.bs hb) (b_t.bs hb) (h_v.bs hb) (h_t.bs hb) k_t ho hl ha)) ?_
  rintro _ w ⟨hn, x, x2, rfl, hm⟩
  have hm := hm.k
  replace hB := hB.bs hn
  replace h_t := h_t.bs hn
  replace h_v := h_v.bs hn
  replace b_t := b_t.bs hn
  replace b_o := b_o.bs hn
  replace b_r := b_r.bs hn
  clear hn
  refine Lw.val (Ex.extract (i := 0) rfl rfl) rfl ?_
  refine Lw.val (Ex.extract (i := 1) rfl rfl) rfl ?_
  refine Lw.unit (Xu.stA (cs := [x, x2]) rfl rfl rfl rfl hm.at.one b_r rfl) ?_
  rintro w5 ⟨b_r5, hg, -⟩
  have hB5 := hB.grown hg (below_size hB) (by rintro _ ⟨⟩; omega)
  refine Lw.val (Ex.assign rfl) rfl ?_
  refine Lw.nil ?_
  refine Pw.thenN (Cw.out ?_)
  refine Cw.ret ?_
  refine Pw.retCT rfl rfl rfl (by assumption) (Tryz.underlying29) rfl rfl rfl ?_
  have zz := below_size hB
  exact ⟨hB5, x, x2, rfl, fun h => absurd rfl h, fun _ => ⟨(bl_krow hm.row hg q_r).mono (by omega), (bl_krow hm.col hg q_r).mono (by omega), hm.apart⟩⟩
end Go.Proofs.YtkhndfaampkbnaaGreatDoor
