/- Texts of this proof, one behind the other: MovesCode, TensorsAt, MovesJoin, NumsCode, MovesSum, GraphCode, GraphKind, GraphShape. -/
import Derived.Test.YtmipoeanpnnjoaaGreatPk2
import Derived.Test.YtmipoeanpnnjoaaGreatPk1

/-! Contracts: the same numbers elsewhere: another shape, another order. -/
namespace Go.Proofs.YtmipoeanpnnjoaaGreat
open Go Go.Dd Go.RowKit
set_option maxRecDepth 100000

/-- A tensor of one's own, of which both lists may be clipped. -/
structure MadeK (W w : World) (x y : Value) (s : List Int) (l : List (BitVec 32)) : Prop where
 row : KRow w W.heap.size 3 1 x s.length (s.map (Value.int .i64))
 col : KRow w W.heap.size 21 1 y l.length (l.map i32)
 apart : Apt y x
theorem MadeK.at {W w : World} {x y : Value} {s : List Int} {l : List (BitVec 32)} (h : MadeK W w x y s l) : (T4.mk x y s l).at w := ⟨h.row.slT, h.col.slT⟩
theorem Made1.k {W w : World} {x y : Value} {s : List Int} {l : List (BitVec 32)} (h : Made1 W w x y s l) : MadeK W w x y s l := ⟨h.row, .inl h.own, h.apart⟩
/-- An answer: a tensor of one's own, or none at all. -/
def AnsK (W w : World) (r : Value) (e : Int) (s : List Int) (l : List (BitVec 32)) : Prop :=
 ∃ x y, r = .tuple #[.agg #[x, y], .int .i64 e] ∧ (e ≠ 0 → x = .slice none 0 0 ∧ y = .slice none 0 0) ∧ (e = 0 → MadeK W w x y s l)
theorem ansK_no {W w : World} {e : Int} {s : List Int} {l : List (BitVec 32)} (h : e ≠ 0) : AnsK W w (.tuple #[.agg #[.slice none 0 0, .slice none 0 0], .int .i64 e]) e s l := ⟨_, _, rfl, fun _ => ⟨rfl, rfl⟩, fun h0 => absurd h0 h⟩
theorem bl_krow {w w' : World} {base B : Nat} {e : TypeId} {sz n : Nat} {v : Value} {xs : List Value} (h : KRow w base e sz v n xs) (g : w.grownBy w' (some B)) (hB : B < base) : KRow w' base e sz v n xs :=
 h.by' g (by
  cases hc : v.ownBlock with
  | none => exact .inl rfl
  | some b => exact .inr fun e => by have := (h.lt b hc).1; cases e; omega)
theorem at_stay {w0 w w' : World} {a : T4} {B : Nat} (p : a.at w0) (h : a.at w) (hB : w0.heap.size ≤ B) (g : Below B w w') : a.at w' :=
 ⟨Sl.stay h.1 fun k e hne => g.block k (Nat.lt_of_lt_of_le (Sl.blk p.1 hne k e) hB), Sl.stay h.2 fun k e hne => g.block k (Nat.lt_of_lt_of_le (Sl.blk p.2 hne k e) hB)⟩

theorem clone32_c (u : Value) (a : List (BitVec 32)) (w : World) (hu : SlT i32 w u a) (hb : a.length ≤ 4194304) : Fnc Tryz.prog 61 [u] w (fun r w' => w'.ownsRow w.heap.size 21 1 r a.length (a.map i32) ∧ Below w.heap.size w w') := by
 obtain ⟨hl, ao, cap, rfl, h1, h2, h3, h4⟩ := hu
 have hu : SlT i32 w (.slice ao a.length cap) a := ⟨hl, ao, cap, rfl, h1, h2, h3, h4⟩
 refine Fnc.enter (n := 8) Tryz.func61 (by kernel_rfl) rfl rfl rfl <| Cw.seq <| Cw.region <| Lw.val (Ex.assign rfl) rfl <| Lw.nil <| Pw.thenN <| Cw.out <| Cw.seq <| Cw.seq <| Cw.region <| Lw.val (Ex.move rfl) rfl <| Lw.val (Ex.nilS un_27 rfl rfl) rfl <| Lw.nil <| Pw.thenN <| Cw.out <| Cw.cond rfl ?_ ?_
 ·intro h
  obtain rfl : ao = none := by cases ao <;> simp_all
  obtain rfl : a = [] := List.eq_nil_of_length_eq_zero (by have := h3 rfl; omega)
  refine Cw.seq <| Cw.region <| Lw.val (Ex.assign rfl) rfl <| Lw.nil <| Pw.thenN <| Cw.out <| Cw.ret <| Pw.thenR <| Pw.ret1 rfl rfl ?_
  exact ⟨⟨rfl, .inl ⟨rfl, rfl⟩⟩, Below.refl _ _⟩
 intro h
 refine Cw.skip <| Pw.thenN <| Cw.out <| Cw.seq <| Cw.region <| Lw.valW (Xw.lit (vs := []) st_27 it_21 rfl rfl rfl rfl rfl) rfl ?_
 rintro v1 w1 ⟨ho1, -, hB1, -⟩
 refine Lw.val (Ex.move rfl) rfl <| Lw.valW (Xw.append (base := w.heap.size) st_27 it_21 rfl (by decide) rfl rfl ho1 (hu.bs hB1) (one_map (fun _ => rfl) _) (by omega) (by omega) hB1.size) rfl ?_
 rintro v2 w2 ⟨ho2, hB2, -⟩
 rw [Nat.zero_add, List.nil_append] at ho2
 refine Lw.val (Ex.assign rfl) rfl <| Lw.nil <| Pw.thenN <| Cw.out <| Cw.ret <| Pw.ret1 rfl rfl ?_
 exact ⟨ho2, hB1.trans hB2⟩
theorem clip32_c (u : Value) (a : List (BitVec 32)) (w : World) (hu : SlT i32 w u a) : Fnc Tryz.prog 60 [u] w (fun r w' => r = clip u ∧ Below w.heap.size w w') := by
 refine Fnc.enter (n := 9) Tryz.func60 (by kernel_rfl) rfl rfl rfl <| Cw.seq <| Cw.region <| Lw.val (Ex.assign rfl) rfl <| Lw.nil <| Pw.thenN <| Cw.out <| Cw.seq <| Cw.region <| Lw.val (Ex.move rfl) rfl <| Lw.val (Ex.move rfl) rfl <| Lw.val (Ex.lenS st_27 rfl (by assumption)) rfl ?_
 refine Lw.val (Ex.move rfl) rfl <| Lw.val (Ex.lenS st_27 rfl (by assumption)) rfl ?_
 refine Lw.val (Ex.clip st_27 rfl rfl rfl hu.shp) rfl <| Lw.val (Ex.assign rfl) rfl <| Lw.nil <| Pw.thenN <| Cw.out <| Cw.ret <| Pw.ret1 rfl rfl ?_
 exact ⟨rfl, Below.refl _ _⟩

def mvE (t : T4) (s : List Int) : Int := if tok t.s t.l && Shapes.ok s then (if Shapes.size s = (t.l.length : Int) then 0 else 10) else 1
theorem mshape_c (t : T4) (u : Value) (s : List Int) (W : World) (h_t : t.at W) (h_u : SlT (Value.int .i64) W u s) :
  Fnc Tryz.prog 83 [t.v, u] W (fun r w' => Below W.heap.size W w' ∧ AnsK W w' r (mvE t s) s t.l) := by
 have hB := Below.refl W.heap.size W
 refine Fnc.enter (n := 32) Tryz.func83 (by kernel_rfl) rfl rfl rfl <| Cw.seq <| Cw.region <| Lw.boxV (cs := [t.x, t.y]) rfl rfl rfl ?_
 rintro A_t w eA_t b_t hn -
 replace hB := hB.bs hn
 replace h_t := h_t.bs hn
 replace h_u := h_u.bs hn
 clear hn
 have z0 := below_size hB
 have y_t := blk_lt b_t
 refine Lw.newA it_29 rfl ?_
 rintro A_r w eA_r b_r hn -
 replace hB := hB.bs hn
 replace h_t := h_t.bs hn
 replace h_u := h_u.bs hn
 replace b_t := b_t.bs hn
 clear hn
 refine Lw.val (Ex.assign rfl) rfl <| Lw.nil <| Pw.thenN <| Cw.out <| Cw.seq <| Cw.block <| Cw.seq <| Cw.region <| Lw.val (Ex.ldA (ag_29 _) (sz_29 _) rfl rfl (by assumption)) rfl ?_
 have z_r := blk_lt b_r
 refine Lw.callF rfl rfl (tcheck_c t.x t.y t.s t.l _ h_t.1 h_t.2) ?_
 rintro _ w ⟨rfl, hn⟩
 replace hB := hB.bs hn
 replace h_t := h_t.bs hn
 replace h_u := h_u.bs hn
 replace b_t := b_t.bs hn
 replace b_r := b_r.bs hn
 clear hn
 refine Lw.val (Ex.not rfl) rfl <| Lw.val (Ex.move rfl) rfl ?_
 refine Lw.part 10 rfl ?_ ?_
 ·intro g
  refine Lw.pass (dj := 10) rfl rfl rfl rfl <| Lw.pass (dj := 10) rfl rfl rfl rfl <| Lw.pass (dj := 10) rfl rfl rfl rfl <| Lw.val (Ex.pickT rfl rfl) rfl <| Lw.val (Ex.assign rfl) rfl <| Lw.nil <| Pw.thenN <| Cw.out <| Cw.condT rfl <| Cw.seq <| Cw.region <| Lw.val (Ex.build (vs := []) (cs := [.slice none 0 0, .slice none 0 0]) rfl (by kernel_rfl)) rfl <| Lw.unit (Xu.stA (cs := [.slice none 0 0, .slice none 0 0]) rfl rfl rfl rfl rfl b_r rfl) ?_
  rintro w3 ⟨b_r, hg, -⟩
  have hB := hB.grown hg (below_size hB) (by rintro _ ⟨⟩; omega)
  refine Lw.val (Ex.assign rfl) rfl <| Lw.nil <| Pw.thenN <| Cw.out <| Cw.ret <| Pw.blkR <| Pw.thenR <| Pw.retCT rfl rfl rfl (by assumption) (Tryz.underlying29) rfl rfl rfl ?_
  rw [show mvE t s = 1 by simp_all [mvE]]
  exact ⟨hB, ansK_no (by decide)⟩
 intro g1
 refine Lw.take (dj := 10) rfl rfl <| Lw.val (Ex.move rfl) rfl <| Lw.take (dj := 10) rfl rfl <| Lw.callF rfl rfl (check_c u s _ h_u) ?_
 rintro _ w ⟨rfl, hn⟩
 replace hB := hB.bs hn
 replace h_t := h_t.bs hn
 replace h_u := h_u.bs hn
 replace b_t := b_t.bs hn
 replace b_r := b_r.bs hn
 clear hn
 refine Lw.take (dj := 10) rfl rfl <| Lw.val (Ex.not rfl) rfl <| Lw.val (Ex.pickF rfl rfl) rfl <| Lw.val (Ex.assign rfl) rfl <| Lw.nil <| Pw.thenN <| Cw.out <| Cw.cond rfl ?_ ?_
 ·intro g
  refine Cw.seq <| Cw.region <| Lw.val (Ex.build (vs := []) (cs := [.slice none 0 0, .slice none 0 0]) rfl (by kernel_rfl)) rfl <| Lw.unit (Xu.stA (cs := [.slice none 0 0, .slice none 0 0]) rfl rfl rfl rfl rfl b_r rfl) ?_
  rintro w3 ⟨b_r, hg, -⟩
  have hB := hB.grown hg (below_size hB) (by rintro _ ⟨⟩; omega)
  refine Lw.val (Ex.assign rfl) rfl <| Lw.nil <| Pw.thenN <| Cw.out <| Cw.ret <| Pw.blkR <| Pw.thenR <| Pw.retCT rfl rfl rfl (by assumption) (Tryz.underlying29) rfl rfl rfl ?_
  rw [show mvE t s = 1 by simp_all [mvE]]
  exact ⟨hB, ansK_no (by decide)⟩
 intro g2
 have k_t : tok t.s t.l = true := by simpa using g1
 have k_s : Shapes.ok s = true := by simpa using g2
 have szs := Shapes.size_le s
 have szt := Shapes.size_le t.s
 have lt := (tok_ok k_t).2
 have S := (Shapes.ok_iff s).1 k_s
 clear g1 g2
 have h_t2 := h_t.2
 refine Cw.seq <| Cw.quiet mixed (by kernel_rfl) <| Qw.val (fun w1 hq => Ex.move rfl) rfl <| Qw.callF rfl rfl (fun w1 hq => (size_c u s w1 (h_u.bs hq)).q hq) <| Qw.val (fun w1 hq => Ex.fieldAddr (q := 0) Tryz.underlying29 rfl (sz_27 _) rfl) rfl <| Qw.val (fun w1 hq => Ex.ldB (ag_27 _) rfl (Blk.bs (by assumption) hq) rfl) rfl ?_
 refine Qw.val (fun w1 hq => Ex.lenS st_27 rfl (Sl.bs (by assumption) hq)) rfl ?_
 refine Qw.val (fun w1 hq => Ex.neq rfl rfl) rfl <| Qw.val (fun w1 hq => Ex.assign rfl) rfl ?_
 refine Qw.nil (fun w1 hq => ?_)
 refine Pw.thenN <| Cw.out ?_
 replace hB := hB.bs hq
 replace h_t := h_t.bs hq
 replace h_u := h_u.bs hq
 replace b_t := b_t.bs hq
 replace b_r := b_r.bs hq
 replace h_t2 := h_t2.bs hq
 clear hq
 refine Cw.cond rfl ?_ ?_
 ·intro g
  have g : ¬ Shapes.size s = (t.l.length : Int) := by simpa using g
  refine Cw.seq <| Cw.region <| Lw.val (Ex.build (vs := []) (cs := [.slice none 0 0, .slice none 0 0]) rfl (by kernel_rfl)) rfl <| Lw.unit (Xu.stA (cs := [.slice none 0 0, .slice none 0 0]) rfl rfl rfl rfl rfl b_r rfl) ?_
  rintro w3 ⟨b_r, hg, -⟩
  have hB := hB.grown hg (below_size hB) (by rintro _ ⟨⟩; omega)
  refine Lw.val (Ex.assign rfl) rfl <| Lw.nil <| Pw.thenN <| Cw.out <| Cw.ret <| Pw.blkR <| Pw.thenR <| Pw.retCT rfl rfl rfl (by assumption) (Tryz.underlying29) rfl rfl rfl ?_
  rw [show mvE t s = 10 by unfold mvE; rw [k_t, k_s]; simp [g]]
  exact ⟨hB, ansK_no (by decide)⟩
 intro g
 have g : Shapes.size s = (t.l.length : Int) := by simpa using g
 rw [show mvE t s = 0 by unfold mvE; rw [k_t, k_s]; simp [g]]
 refine Cw.skip <| Pw.blkN <| Pw.thenN <| Cw.out <| Cw.seq ?_
 rename World => w1
 have zW := below_size hB
 have q_r : A_r < w1.heap.size := blk_lt b_r
 have b_t0 := b_t
 have h_t20 := h_t2
 refine Cw.any mixed (fun w hcw _ => ?_)
 replace hB := hB.bs hcw
 replace h_t := h_t.bs hcw
 replace h_u := h_u.bs hcw
 replace b_t := b_t.bs hcw
 replace b_r := b_r.bs hcw
 replace h_t2 := h_t2.bs hcw
 have a_tr : A_t < A_r := by omega
 refine Aw.cls (fun w' => Below A_r w1 w') (fun hC => ?_) (hcw.mono (by omega))
 refine AwC.take (i := 0) (NoP.thn NoP.ret) rfl (by kernel_rfl) (by kernel_rfl) (by kernel_rfl) (fun w1 hc => Ex.move rfl) rfl <| AwC.take (i := 3) (NoP.thn NoP.ret) rfl (by kernel_rfl) (by kernel_rfl) (by kernel_rfl) (fun w1 hc => Ex.fieldAddr (q := 0) Tryz.underlying29 rfl (sz_27 _) rfl) rfl <| AwC.take (i := 4) (NoP.thn NoP.ret) rfl (by kernel_rfl) (by kernel_rfl) (by kernel_rfl) (fun w1 hc => Ex.ldB (ag_27 _) rfl (Blk.bl (by assumption) hc a_tr) rfl) rfl ?_
 refine AwC.only (by first | exact hcr | exact hcw.mono (by omega)) (i := 1) (by kernel_rfl) rfl ?_
 have zc := hcw.size
 refine Lw.callF rfl rfl (clone_c u s _ h_u (by omega)) ?_
 rintro x w ⟨hx, hn⟩
 have hx := own_mono (B' := w1.heap.size) hx (by omega)
 clear zc
 replace hB := hB.bs hn
 replace h_t := h_t.bs hn
 replace h_u := h_u.bs hn
 replace b_t := b_t.bs hn
 replace b_r := b_r.bs hn
 replace h_t2 := h_t2.bs hn
 replace hcw := hcw.bs hn
 clear hn
 refine AwC.back <| AwC.only (by first | exact hcr | exact hcw.mono (by omega)) (i := 2) (by kernel_rfl) rfl <| Lw.callF rfl rfl (clip_c x s _ (own_slT hx)) ?_
 rintro _ w ⟨rfl, hn⟩
 replace hB := hB.bs hn
 replace h_t := h_t.bs hn
 replace h_u := h_u.bs hn
 replace b_t := b_t.bs hn
 replace b_r := b_r.bs hn
 replace h_t2 := h_t2.bs hn
 replace hcw := hcw.bs hn
 replace hx := hx.bs hn
 clear hn
 have kx := KRow.clip hx
 refine AwC.back <| AwC.only (by first | exact hcr | exact hcw.mono (by omega)) (i := 5) (by kernel_rfl) rfl ?_
 have zc := hcw.size
 have zx : ∀ b, (clip x).ownBlock = some b → b < _ := fun b e => (kx.lt b e).2
 refine Lw.callF rfl rfl (clone32_c t.y t.l _ h_t2 (by omega)) ?_
 rintro y w ⟨hy, hn⟩
 have py := own_block hy
 have hy := own_mono (B' := w1.heap.size) hy (by omega)
 clear zc
 replace hB := hB.bs hn
 replace h_t := h_t.bs hn
 replace h_u := h_u.bs hn
 replace b_t := b_t.bs hn
 replace b_r := b_r.bs hn
 replace h_t2 := h_t2.bs hn
 replace hcw := hcw.bs hn
 replace kx := kx.bs hn
 clear hn
 refine AwC.back <| AwC.only (by first | exact hcr | exact hcw.mono (by omega)) (i := 6) (by kernel_rfl) rfl <| Lw.callF rfl rfl (clip32_c y t.l _ (own_slT hy)) ?_
 rintro _ w ⟨rfl, hn⟩
 replace hB := hB.bs hn
 replace h_t := h_t.bs hn
 replace h_u := h_u.bs hn
 replace b_t := b_t.bs hn
 replace b_r := b_r.bs hn
 replace h_t2 := h_t2.bs hn
 replace hcw := hcw.bs hn
 replace kx := kx.bs hn
 replace hy := hy.bs hn
 clear hn
 have ky := KRow.clip hy
 have by' : (clip y).ownBlock = y.ownBlock := clip_block y (by obtain ⟨_, ao, cap, rfl, _⟩ := own_sl hy; exact ⟨_, _, _, rfl⟩)
 refine AwC.back <| AwC.take (i := 7) (NoP.thn NoP.ret) rfl (by kernel_rfl) (by kernel_rfl) (by kernel_rfl) (fun w1 hc => Ex.build (vs := [(0, clip x), (1, clip y)]) (cs := [clip x, clip y]) rfl (bt_ten _ _ kx.slT.one ky.slT.one)) rfl <| AwC.only (by first | exact hcr | exact hcw.mono (by omega)) (i := 8) (by kernel_rfl) rfl ?_
 have hxy : [clip x, clip y].all (·.oneCell') = true := by simp [kx.slT.one', ky.slT.one']
 refine Lw.unit (Xu.stA (cs := [clip x, clip y]) rfl rfl rfl rfl hxy b_r rfl) ?_
 rintro w2 ⟨b_r2, hg, -⟩
 have kx := bl_krow kx hg q_r
 have ky := bl_krow ky hg q_r
 have hB := hB.grown hg (below_size hB) (by rintro _ ⟨⟩; omega)
 have hcr : Below A_r w1 w2 := (hcw.mono (by omega)).grown hg (by have := hcw.size; omega) (by rintro _ ⟨⟩; omega)
 refine AwC.back <| AwC.take (i := 9) (NoP.thn NoP.ret) rfl (by kernel_rfl) (by kernel_rfl) (by kernel_rfl) (fun w1 hc => Ex.assign rfl) rfl <| AwC.done (by first | exact hcr | exact hcw.mono (by omega)) (by kernel_rfl) <| Pw.thenN <| Cw.out <| Cw.ret <| Pw.retCT rfl rfl rfl (by assumption) (Tryz.underlying29) rfl rfl rfl ?_
 exact ⟨hB, clip x, clip y, rfl, fun h => absurd rfl h, fun _ => ⟨kx.mono zW, ky.mono zW, fun b e1 e2 => by
  have h1 := py b (by rw [← by']; exact e1)
  have h2 := zx b e2
  omega⟩⟩
theorem behind_c (u : Value) (s : List Int) (k : Nat) (w : World) (h_u : SlT (Value.int .i64) w u s) (hok : Shapes.ok s = true) (hk : k < s.length) :
  Fnc Tryz.prog 114 [u, .int .i64 (k : Int)] w (fun r w' => r = .int .i64 (Shapes.prod (s.drop (k + 1))) ∧ Below w.heap.size w w') := by
 have S := (Shapes.ok_iff s).1 hok
 obtain ⟨d, hd⟩ : ∃ d, d = s.drop (k + 1) := ⟨_, rfl⟩
 have ld : d.length = s.length - (k + 1) := by rw [hd, List.length_drop]
 have gd : Shapes.good d := hd ▸ Shapes.good_drop S.2.1 (k + 1)
 have pd : Shapes.prod d ≤ 4096 := by have := (Shapes.ok_prod hok (k + 1)).2; rw [hd]; exact this
 have h_d := SlT.drop h_u (i := k + 1) (by omega)
 rw [← hd] at h_d ⊢
 refine Fnc.enter (n := 22) Tryz.func114 (by kernel_rfl) rfl rfl rfl <| Cw.seq <| Cw.region <| Lw.val (Ex.assign rfl) rfl <| Lw.nil <| Pw.thenN <| Cw.out <| Cw.seq <| Cw.region <| Lw.val (Ex.assign rfl) rfl <| Lw.nil <| Pw.thenN <| Cw.out <| Cw.seq <| Cw.seq <| Cw.region <| Lw.val (Ex.move rfl) rfl <| Lw.val (Ex.move rfl) rfl <| Lw.val ((Ex.addI rfl rfl (by omega)).as (congrArg (Value.int .i64) (show (k : Int) + 1 = ((k + 1 : Nat) : Int) by omega))) rfl <| Lw.val (Ex.cutL (i := k + 1) st_140 rfl rfl h_u (by omega)) rfl <| Lw.val (Ex.lenS st_140 rfl (by assumption)) rfl ?_
 refine Lw.val (Ex.move rfl) rfl <| Lw.nil <| Pw.thenN <| Cw.out <| Cw.block ?_
 refine Cw.loop (S := Nat) (fun j => [(5, .int .i64 (Shapes.prod (d.take j))), (11, cut u 1 (k + 1) s.length), (12, .int .i64 (d.length : Int)), (13, .int .i64 (j : Int))]) (fun j w' => j ≤ d.length ∧ w' = w) (fun j => d.length - j) (0) ⟨rfl, rfl, rfl, rfl, trivial⟩ ?_ ?_
 ·exact ⟨Nat.zero_le _, rfl⟩
 rintro j w1 ⟨hj, rfl⟩
 refine Cw.seq <| Cw.region <| Lw.val (Ex.lss rfl rfl) rfl <| Lw.nil <| Pw.thenN <| Cw.out <| Cw.seq <| Cw.cond rfl ?_ ?_
 ·intro h
  have hj' : j < d.length := by have := of_decide_eq_true h; omega
  have e1 : Shapes.prod (d.take (j + 1)) = Shapes.prod (d.take j) * d.getD j default := by
   rw [List.take_succ_eq_append_getElem hj', Shapes.prod_append]; simp [Shapes.prod, hj']
  have e2 : Shapes.prod d = Shapes.prod (d.take (j + 1)) * Shapes.prod (d.drop (j + 1)) := by rw [← Shapes.prod_append, List.take_append_drop]
  have e3 := Shapes.prod_pos (s := d.take (j + 1)) fun x hx => gd x (List.mem_of_mem_take hx)
  have e4 := Shapes.prod_pos (Shapes.good_drop gd (j + 1))
  have e5 : Shapes.prod (d.take (j + 1)) * 1 ≤ Shapes.prod (d.take (j + 1)) * Shapes.prod (d.drop (j + 1)) := Int.mul_le_mul_of_nonneg_left e4 (by omega)
  refine Cw.skip <| Pw.thenN <| Cw.out <| Cw.seq <| Cw.block <| Cw.seq <| Cw.region <| Lw.val (Ex.idxT st_140 rfl rfl (by assumption) _ rfl (by omega)) rfl ?_
  refine Lw.val (Ex.ldT (ag_3 _) rfl (by assumption) (by omega)) rfl ?_
  refine Lw.val (Ex.assign rfl) rfl <| Lw.nil <| Pw.thenN <| Cw.out <| Cw.region <| Lw.val (Ex.move rfl) rfl <| Lw.val (Ex.move rfl) rfl <| Lw.val (Ex.mulI rfl rfl (by omega)) rfl <| Lw.val (Ex.assign rfl) rfl <| Lw.nil <| Pw.blkN <| Pw.thenN <| Cw.out <| Cw.region <| Lw.val (Ex.addI rfl rfl (by omega)) rfl <| Lw.val (Ex.move rfl) rfl <| Lw.nil ?_
  exact Pw.thenN (Pw.next (j + 1) ⟨congrArg (fun x => some (Value.int .i64 x)) e1.symm, rfl, rfl, rfl, trivial⟩ (⟨hj', rfl⟩) (by omega))
 intro h
 have hj' : j = d.length := by have := of_decide_eq_false h; omega
 subst hj'
 refine Cw.exit <| Pw.thenE <| Pw.thenE <| Pw.blkHit <| Pw.thenN <| Cw.out <| Cw.seq <| Cw.region <| Lw.val (Ex.move rfl) rfl <| Lw.val (Ex.assign rfl) rfl <| Lw.nil <| Pw.thenN <| Cw.out <| Cw.ret <| Pw.ret1 rfl rfl ?_
 exact ⟨by rw [List.take_length], Below.refl _ _⟩
/-- A tensor that is filled, number by number, from what is told. -/
theorem filled_c (u : Value) (s : List Int) (f : FuncId) (q : List Value) (F : Nat → BitVec 32) (W : World) (h_u : SlT (Value.int .i64) W u s) (hok : Shapes.ok s = true)
  (hf : ∀ (i : Nat) (a : Value) (w : World), Below W.heap.size W w → i < (Shapes.size s).toNat → SlT (Value.int .i64) w a (Shapes.place s i) → Fnc Tryz.prog f ([a] ++ q) w (fun r w' => r = i32 (F i) ∧ Below w.heap.size w w')) :
  Fnc Tryz.prog 112 [u, .func (.func f) #[] q.toArray] W (fun r w' => Below W.heap.size W w' ∧ ∃ x y, r = .tuple #[.agg #[x, y], .int .i64 0] ∧ Made1 W w' x y s ((List.range (Shapes.size s).toNat).map F)) := by
 have hB := Below.refl W.heap.size W
 have szs := Shapes.size_le s
 have h_u0 := h_u
 refine Fnc.enter (n := 38) Tryz.func112 (by kernel_rfl) rfl rfl rfl <| Cw.seq <| Cw.region <| Lw.newA it_29 rfl ?_
 rintro A_r w eA_r b_r hn -
 replace hB := hB.bs hn
 replace h_u := h_u.bs hn
 clear hn
 refine Lw.val (Ex.assign rfl) rfl <| Lw.nil <| Pw.thenN <| Cw.out <| Cw.seq <| Cw.region <| Lw.val (Ex.move rfl) rfl ?_
 have z_r := blk_lt b_r
 refine Lw.callF rfl rfl (new_c u s _ h_u) ?_
 rintro _ w7 ⟨hn7, ⟨hk, x, y, rfl, hm⟩ | ⟨hk, rfl⟩⟩
 ·refine Lw.val (Ex.move rfl) rfl <| Lw.val (Ex.extract (i := 0) rfl rfl) rfl <| Lw.val (Ex.extract (i := 1) rfl rfl) rfl <| Lw.boxed (cs := [x, y]) it_29 rfl rfl rfl rfl (fun _ => rfl) (hm.one) ?_
  rintro A_m w8 eA_m b_m hn8 zhn8
  have M := mine_new hm eA_m b_m hn8 zhn8 hn7.size
  have hw8 := bt hn7 hn8
  have zw := hw8.size
  have zB := below_size hB
  replace hB := hB.bs hw8
  replace h_u := h_u.bs hw8
  replace b_r := b_r.bs hw8
  clear hm b_m hn7 hn8 eA_m zhn8 hw8
  obtain ⟨fl, hfl⟩ : ∃ l, l = (List.range (Shapes.size s).toNat).map F := ⟨_, rfl⟩
  obtain ⟨zs, hzs⟩ : ∃ l, l = List.replicate (Shapes.size s).toNat 0#32 := ⟨_, rfl⟩
  rw [← hzs] at M
  have n1 : fl.length = zs.length := by rw [hfl, hzs]; simp
  have n2 : zs.length = (Shapes.size s).toNat := by rw [hzs]; simp
  have b_m := M.box
  have y_m := M.sly
  refine Lw.val (Ex.assign rfl) rfl <| Lw.nil <| Pw.thenN <| Cw.out <| Cw.seq <| Cw.seq <| Cw.region <| Lw.val (Ex.fieldAddr (q := 0) Tryz.underlying29 rfl (sz_27 _) rfl) rfl <| Lw.val (Ex.ldB (ag_27 _) rfl (by assumption) rfl) rfl ?_
  refine Lw.val (Ex.lenS st_27 rfl (by assumption)) rfl ?_
  refine Lw.val (Ex.move rfl) rfl <| Lw.nil <| Pw.thenN <| Cw.out <| Cw.block ?_
  refine Cw.loop (S := Nat) (fun i => [(0, u), (1, .func (.func f) #[] q.toArray), (4, .pointer (some ⟨A_r, 0, none⟩)), (6, .pointer (some ⟨A_m, 0, none⟩)), (7, .int .i64 0), (18, .int .i64 (zs.length : Int)), (19, .int .i64 (i : Int))]) (fun i w' => i ≤ zs.length ∧ Below w.heap.size w8 w' ∧ MineT w' w.heap.size w8.heap.size A_m x y s (fl.take i ++ zs.drop i)) (fun i => zs.length - i) (0) ⟨rfl, rfl, rfl, rfl, rfl, rfl, rfl, trivial⟩ ?_ ?_
  ·exact ⟨by omega, Below.refl _ _, by rw [td_zero]; exact M⟩
  clear M b_m y_m
  rintro i w11 ⟨hi, hw, M⟩
  have hB2 := hB.trans (hw.mono (by omega))
  refine Cw.seq <| Cw.region <| Lw.val (Ex.lss rfl rfl) rfl <| Lw.nil <| Pw.thenN <| Cw.out <| Cw.seq <| Cw.cond rfl ?_ ?_
  ·intro h
   have hi' : i < zs.length := by have := of_decide_eq_true h; omega
   have hu2 : SlT (Value.int .i64) w11 u s := Sl.stay h_u0 fun k e hne => hB2.block k (Sl.blk h_u0 hne k e)
   refine Cw.skip <| Pw.thenN <| Cw.out <| Cw.seq <| Cw.block <| Cw.seq <| Cw.region <| Lw.val (Ex.move rfl) rfl <| Lw.val (Ex.assign rfl) rfl <| Lw.nil <| Pw.thenN <| Cw.out <| Cw.seq <| Cw.region <| Lw.val (Ex.move rfl) rfl <| Lw.val (Ex.move rfl) rfl <| Lw.callF rfl rfl (at_c s u (i : Int) w11 hu2) ?_
   rintro _ w12 ⟨a, rfl, ha, hn⟩
   have ha := ha.sl
   rw [show Shapes.atl s (i : Int) = Shapes.place s i by unfold Shapes.atl; rw [if_pos (by omega)]] at ha
   have M := M.bs hn
   have hB3 := bt hB2 hn
   have hw := hw.trans (hn.mono (by have := hw.size; omega))
   have b_m := M.box
   have y_m := M.sly
   have e1 := td_len (i := i) n1
   refine Lw.val (Ex.move rfl) rfl <| Lw.val (Ex.extract (i := 0) rfl rfl) rfl <| Lw.val (Ex.extract (i := 1) rfl rfl) rfl <| Lw.val (Ex.assign rfl) rfl <| Lw.val (Ex.assign rfl) rfl <| Lw.nil <| Pw.thenN <| Cw.out <| Cw.tail 7 mixed (by kernel_rfl) <| Qw.val (fun w1 hq => Ex.fieldAddr (q := 0) Tryz.underlying29 rfl (sz_27 _) rfl) rfl <| Qw.val (fun w1 hq => Ex.ldB (ag_27 _) rfl (Blk.bs (by assumption) hq) rfl) rfl ?_
   refine Qw.val (fun w1 hq => Ex.move rfl) rfl <| Qw.val (fun w1 hq => Ex.move rfl) rfl <| Qw.val (fun w1 hq => Ex.move rfl) rfl <| Qw.callV (p := []) (q := q) rfl rfl rfl (fun w1 hq => (hf i a w1 (bt hB3 hq) (by omega) (ha.bs hq)).q hq) <| Qw.val (fun w1 hq => Ex.idxT st_27 rfl rfl (Sl.bs (by assumption) hq) _ rfl (by omega)) rfl ?_
   refine Qw.done (fun w13 hq => ?_)
   refine Lw.unit ((M.bs hq).st (sz_21 _) rfl rfl (by omega)) ?_
   rintro w14 ⟨M2, hg2, -⟩
   have hw2 := (M.bs hq).below (hw.trans (hq.mono (by have := hw.size; omega))) (by omega) hg2
   rw [show F i = fl.getD i default by rw [hfl]; simp [show i < (Shapes.size s).toNat by omega], td_set n1 hi'] at M2
   refine Lw.nil <| Pw.blkN <| Pw.thenN <| Cw.out <| Cw.region <| Lw.val (Ex.addI rfl rfl (by omega)) rfl <| Lw.val (Ex.move rfl) rfl <| Lw.nil ?_
   exact Pw.thenN (Pw.next (i + 1) ⟨rfl, rfl, rfl, rfl, rfl, rfl, rfl, trivial⟩ (⟨hi', hw2, M2⟩) (by omega))
  intro h
  have hi' : i = zs.length := by have := of_decide_eq_false h; omega
  subst hi'
  rw [td_all n1] at M
  have b_m := M.box
  have b_r := b_r.bl hw z_r
  rw [hfl] at M
  refine Cw.exit <| Pw.thenE <| Pw.thenE <| Pw.blkHit <| Pw.thenN <| Cw.out <| Cw.seq <| Cw.region <| Lw.val (Ex.ldA (ag_29 _) (sz_29 _) rfl rfl (by assumption)) rfl ?_
  refine Lw.val (Ex.move rfl) rfl <| Lw.unit (Xu.stA (cs := [x, y]) rfl rfl rfl rfl (mine_at M).one b_r rfl) ?_
  rintro w12 ⟨b_r2, hg, -⟩
  have M2 := M.keep hg (by rintro _ ⟨⟩; exact .inl z_r)
  have hB3 := hB2.grown hg (below_size hB2) (by rintro _ ⟨⟩; omega)
  refine Lw.val (Ex.assign rfl) rfl <| Lw.nil <| Pw.thenN <| Cw.out <| Cw.ret <| Pw.retCT rfl rfl rfl (by assumption) (Tryz.underlying29) rfl rfl rfl ?_
  exact ⟨hB3, x, y, rfl, ⟨M2.row.mono (by omega), own_mono M2.lst.own (by omega), M2.yx⟩⟩
 exact absurd hok (by rw [hk]; decide)
theorem idxOf_c (u : Value) (l : List Int) (x : Int) (w : World) (h_u : SlT (Value.int .i64) w u l) : Fnc Tryz.prog 125 [u, .int .i64 x] w (fun r w' => (∃ j, r = .int .i64 j ∧ decide (0 ≤ j) = l.contains x) ∧ w' = w) := by
 have hle := h_u.le
 refine Fnc.enter (n := 19) Tryz.func125 (by kernel_rfl) rfl rfl rfl <| Cw.seq <| Cw.region <| Lw.val (Ex.assign rfl) rfl <| Lw.nil <| Pw.thenN <| Cw.out <| Cw.seq <| Cw.seq <| Cw.region <| Lw.val (Ex.move rfl) rfl <| Lw.val (Ex.lenS st_26 rfl (by assumption)) rfl ?_
 refine Lw.val (Ex.move rfl) rfl <| Lw.nil <| Pw.thenN <| Cw.out <| Cw.block ?_
 refine Cw.loop (S := Nat) (fun i => [(0, u), (1, .int .i64 x), (7, .int .i64 (l.length : Int)), (8, .int .i64 (i : Int))]) (fun i w' => i ≤ l.length ∧ (l.take i).contains x = false ∧ w' = w) (fun i => l.length - i) (0) ⟨rfl, rfl, rfl, rfl, trivial⟩ ?_ ?_
 ·exact ⟨Nat.zero_le _, rfl, rfl⟩
 rintro i w1 ⟨hi, hc, rfl⟩
 refine Cw.seq <| Cw.region <| Lw.val (Ex.lss rfl rfl) rfl <| Lw.nil <| Pw.thenN <| Cw.out <| Cw.seq <| Cw.cond rfl ?_ ?_
 ·intro h
  have hi' : i < l.length := by have := of_decide_eq_true h; omega
  have e1 : l.take (i + 1) = l.take i ++ [l.getD i default] := by rw [List.take_succ_eq_append_getElem hi']; simp [hi']
  refine Cw.skip <| Pw.thenN <| Cw.out <| Cw.seq <| Cw.block <| Cw.seq <| Cw.region <| Lw.val (Ex.move rfl) rfl <| Lw.val (Ex.assign rfl) rfl <| Lw.nil <| Pw.thenN <| Cw.out <| Cw.seq <| Cw.region <| Lw.val (Ex.move rfl) rfl <| Lw.val (Ex.move rfl) rfl <| Lw.val (Ex.move rfl) rfl <| Lw.val (Ex.idxT st_26 rfl rfl (by assumption) _ rfl (by omega)) rfl ?_
  refine Lw.val (Ex.ldT (ag_3 _) rfl (by assumption) (by omega)) rfl ?_
  refine Lw.val (Ex.eql rfl rfl) rfl <| Lw.nil <| Pw.thenN <| Cw.out <| Cw.cond rfl ?_ ?_
  ·intro g
   have g := of_decide_eq_true g
   refine Cw.seq <| Cw.region <| Lw.val (Ex.move rfl) rfl <| Lw.val (Ex.assign rfl) rfl <| Lw.nil <| Pw.thenN <| Cw.out <| Cw.ret <| Pw.blkR <| Pw.thenR <| Pw.thenR <| Pw.blkR <| Pw.thenR <| Pw.ret1 rfl rfl ?_
   refine ⟨⟨(i : Int), rfl, ?_⟩, rfl⟩
   have hm : x ∈ l := by rw [g]; simp [hi']
   rw [decide_eq_true (by omega), List.contains_iff_mem.2 hm]
  intro g
  have g := of_decide_eq_false g
  refine Cw.skip <| Pw.blkN <| Pw.thenN <| Cw.out <| Cw.region <| Lw.val (Ex.addI rfl rfl (by omega)) rfl <| Lw.val (Ex.move rfl) rfl <| Lw.nil ?_
  exact Pw.thenN (Pw.next (i + 1) ⟨rfl, rfl, rfl, rfl, trivial⟩ (⟨hi', by rw [e1, List.contains_append, hc, Bool.false_or, List.contains_cons, beq_false_of_ne g]; rfl, rfl⟩) (by omega))
 intro h
 have hi' : i = l.length := by have := of_decide_eq_false h; omega
 subst hi'
 rw [List.take_length] at hc
 refine Cw.exit <| Pw.thenE <| Pw.thenE <| Pw.blkHit <| Pw.thenN <| Cw.out <| Cw.seq <| Cw.region <| Lw.val (Ex.assign rfl) rfl <| Lw.nil <| Pw.thenN <| Cw.out <| Cw.ret <| Pw.ret1 rfl rfl ?_
 exact ⟨⟨-1, rfl, by rw [hc]; rfl⟩, rfl⟩
theorem contains_c (u : Value) (l : List Int) (x : Int) (w : World) (h_u : SlT (Value.int .i64) w u l) : Fnc Tryz.prog 98 [u, .int .i64 x] w (fun r w' => r = .bool (l.contains x) ∧ Below w.heap.size w w') := by
 refine Fnc.enter (n := 9) Tryz.func98 (by kernel_rfl) rfl rfl rfl <| Cw.seq <| Cw.region <| Lw.val (Ex.assign rfl) rfl <| Lw.nil <| Pw.thenN <| Cw.out <| Cw.seq <| Cw.region <| Lw.val (Ex.move rfl) rfl <| Lw.val (Ex.move rfl) rfl <| Lw.callF rfl rfl (idxOf_c u l x w h_u) ?_
 rintro _ _ ⟨⟨j, rfl, hj⟩, rfl⟩
 refine Lw.val (Ex.geq rfl rfl) rfl <| Lw.val (Ex.assign rfl) rfl <| Lw.nil <| Pw.thenN <| Cw.out <| Cw.ret <| Pw.ret1 rfl rfl ?_
 exact ⟨congrArg Value.bool hj, Below.refl _ _⟩
/-- Where a turned number comes from. -/
theorem turnF_c (A_o A_t : Nat) (v : Value) (o : List Int) (t : T4) (a : Value) (i : Nat) (w : World) (b_o : Blk w A_o 26 [v]) (b_t : Blk w A_t 29 [t.x, t.y]) (h_o : SlT (Value.int .i64) w v o) (h_t : t.at w) (k_t : tok t.s t.l = true) (ho : ordOk o = true) (hl : o.length = t.s.length)
  (h_a : SlT (Value.int .i64) w a (Shapes.place (turn t.s o) i)) :
  Fnc Tryz.prog 113 ([a] ++ [.pointer (some ⟨A_o, 0, none⟩), .pointer (some ⟨A_t, 0, none⟩)]) w (fun r w' => r = i32 (t.l.getD (tuS t.s o (Shapes.place (turn t.s o) i) o.length).toNat default) ∧ Below w.heap.size w w') := by
 have hB := Below.refl w.heap.size w
 obtain ⟨k1, k2⟩ := tok_ok k_t
 have S := (Shapes.ok_iff t.s).1 k1
 have okT := turn_ok k1 ho hl
 have T := (Shapes.ok_iff (turn t.s o)).1 okT
 obtain ⟨p, hp⟩ : ∃ p, p = Shapes.place (turn t.s o) i := ⟨_, rfl⟩
 have pin : Shapes.inn (turn t.s o) p = true := by rw [hp]; exact Shapes.place_in (by omega) T.2.1
 have lp : p.length = o.length := by rw [hp, Shapes.place_length, turn_length]
 rw [← hp] at h_a ⊢
 have hle := h_o.le
 have kt := tuS_lt k1 ho hl pin
 have szt := Shapes.size_ok k1
 have hz := Shapes.size_le t.s
 show Fnc Tryz.prog 113 [a, .pointer (some ⟨A_o, 0, none⟩), .pointer (some ⟨A_t, 0, none⟩)] w _
 refine Fnc.enter (n := 32) Tryz.func113 (by kernel_rfl) rfl rfl rfl <| Cw.seq <| Cw.region <| Lw.val (Ex.assign (show _ = some (i32 (0#32)) from rfl)) rfl <| Lw.nil <| Pw.thenN <| Cw.out <| Cw.seq <| Cw.region <| Lw.val (Ex.assign rfl) rfl <| Lw.nil <| Pw.thenN <| Cw.out <| Cw.seq <| Cw.seq <| Cw.region <| Lw.val (Ex.ldB (ag_26 _) rfl (by assumption) rfl) rfl ?_
 refine Lw.val (Ex.lenS st_26 rfl (by assumption)) rfl ?_
 refine Lw.val (Ex.move rfl) rfl <| Lw.nil <| Pw.thenN <| Cw.out <| Cw.block ?_
 refine Cw.loop (S := Nat) (fun j => [(0, a), (1, .pointer (some ⟨A_o, 0, none⟩)), (2, .pointer (some ⟨A_t, 0, none⟩)), (5, .int .i64 (tuS t.s o p j)), (8, v), (9, .int .i64 (o.length : Int)), (10, .int .i64 (j : Int))]) (fun j w' => j ≤ o.length ∧ Below w.heap.size w w') (fun j => o.length - j) (0) ⟨rfl, rfl, rfl, rfl, rfl, rfl, rfl, trivial⟩ ?_ ?_
 ·exact ⟨Nat.zero_le _, hB⟩
 rintro j w1 ⟨hj, hn⟩
 have h_o1 := h_o.bs hn
 have h_a1 := h_a.bs hn
 have b_t1 := b_t.bs hn
 have h_t1 := (h_t.bs hn).1
 refine Cw.seq <| Cw.region <| Lw.val (Ex.lss rfl rfl) rfl <| Lw.nil <| Pw.thenN <| Cw.out <| Cw.seq <| Cw.cond rfl ?_ ?_
 ·intro h
  have hj' : j < o.length := by have := of_decide_eq_true h; omega
  obtain ⟨k, hk⟩ : ∃ k : Nat, o.getD j default = (k : Int) := ⟨_, (Int.toNat_of_nonneg (ord_in ho hj').1).symm⟩
  have hks : k < t.s.length := by have := (ord_in ho hj').2; omega
  have aj := Shapes.inn_at pin (k := j) (by rw [turn_length]; exact hj')
  rw [turn_at hj', hk, Int.toNat_natCast] at aj
  have ds := dim_at S.2.1 hks
  have pr := Shapes.ok_prod k1 (k + 1)
  have m0 : 0 ≤ p.getD j default * Shapes.prod (t.s.drop (k + 1)) := Int.mul_nonneg aj.1 (by omega)
  have m1 : p.getD j default * Shapes.prod (t.s.drop (k + 1)) ≤ 64 * 4096 := Int.mul_le_mul (by omega) pr.2 (by omega) (by decide)
  have l1 := tuS_le k1 ho hl pin hj
  have eF : tuS t.s o p j + p.getD j default * Shapes.prod (t.s.drop (k + 1)) = tuS t.s o p (j + 1) := by
   show _ = tuS t.s o p j + tuF t.s o p j
   unfold tuF; rw [hk, Int.toNat_natCast]
  refine Cw.skip <| Pw.thenN <| Cw.out <| Cw.seq <| Cw.block <| Cw.seq <| Cw.region <| Lw.val (Ex.move rfl) rfl <| Lw.val (Ex.idxT st_26 rfl rfl (by assumption) _ rfl (by omega)) rfl ?_
  refine Lw.val ((Ex.ldT (ag_3 _) rfl h_o1 hj').as (congrArg (Value.int .i64) hk)) rfl <| Lw.val (Ex.assign rfl) rfl <| Lw.val (Ex.assign rfl) rfl <| Lw.nil <| Pw.thenN <| Cw.out <| Cw.quiet mixed (by kernel_rfl) <| Qw.val (fun w1 hq => Ex.move rfl) rfl <| Qw.val (fun w1 hq => Ex.move rfl) rfl <| Qw.val (fun w1 hq => Ex.move rfl) rfl <| Qw.val (fun w1 hq => Ex.idxT st_26 rfl rfl (Sl.bs (by assumption) hq) _ rfl (by omega)) rfl ?_
  refine Qw.val (fun w1 hq => Ex.ldT (ag_3 _) rfl (Sl.bs (by assumption) hq) (by omega)) rfl ?_
  refine Qw.val (fun w1 hq => Ex.fieldAddr (q := 0) Tryz.underlying29 rfl (sz_26 _) rfl) rfl <| Qw.val (fun w1 hq => Ex.ldB (ag_26 _) rfl (Blk.bs (by assumption) hq) rfl) rfl ?_
  refine Qw.val (fun w1 hq => Ex.move rfl) rfl <| Qw.callF rfl rfl (fun w1 hq => (behind_c t.x t.s k w1 (h_t1.bs hq) k1 hks).q hq) <| Qw.val (fun w1 hq => Ex.mulI rfl rfl (by omega)) rfl <| Qw.val (fun w1 hq => Ex.addI rfl rfl (by omega)) rfl <| Qw.val (fun w1 hq => Ex.assign rfl) rfl ?_
  refine Qw.nil (fun w2 hq => ?_)
  refine Pw.blkN <| Pw.thenN <| Cw.out <| Cw.region <| Lw.val (Ex.addI rfl rfl (by omega)) rfl <| Lw.val (Ex.move rfl) rfl <| Lw.nil ?_
  exact Pw.thenN (Pw.next (j + 1) ⟨rfl, rfl, rfl, congrArg (fun x => some (Value.int .i64 x)) eF, rfl, rfl, rfl, trivial⟩ (⟨hj', bt hn hq⟩) (by omega))
 intro h
 have hj' : j = o.length := by have := of_decide_eq_false h; omega
 subst hj'
 obtain ⟨K, hK⟩ : ∃ K : Nat, tuS t.s o p o.length = (K : Int) := ⟨_, (Int.toNat_of_nonneg kt.1).symm⟩
 have h_t2 := (h_t.bs hn).2
 have hKl : K < t.l.length := by omega
 refine Cw.exit <| Pw.thenE <| Pw.thenE <| Pw.blkHit <| Pw.thenN <| Cw.out <| Cw.seq <| Cw.region <| Lw.val (Ex.fieldAddr (q := 0) Tryz.underlying29 rfl (sz_27 _) rfl) rfl <| Lw.val (Ex.ldB (ag_27 _) rfl (by assumption) rfl) rfl ?_
 refine Lw.val (Ex.move rfl) rfl <| Lw.val (Ex.idxT st_27 rfl rfl h_t2 K hK hKl) rfl <| Lw.val (Ex.ldT (ag_21 _) rfl (by assumption) (by omega)) rfl ?_
 refine Lw.val (Ex.assign rfl) rfl <| Lw.nil <| Pw.thenN <| Cw.out <| Cw.ret <| Pw.ret1 rfl rfl ?_
 exact ⟨by rw [hK, Int.toNat_natCast], hn⟩
def tnE (t : T4) (o : List Int) : Int := if tok t.s t.l && decide (o.length = t.s.length) && ordOk o then 0 else 1
theorem mturn_c (t : T4) (v : Value) (o : List Int) (W : World) (h_t : t.at W) (h_v : SlT (Value.int .i64) W v o) :
  Fnc Tryz.prog 85 [t.v, v] W (fun r w' => Below W.heap.size W w' ∧ AnsK W w' r (tnE t o) (turn t.s o) (tuL t.s t.l o)) := by
 have hB := Below.refl W.heap.size W
 have hvo := h_v.one
 refine Fnc.enter (n := 61) Tryz.func85 (by kernel_rfl) rfl rfl rfl <| Cw.seq <| Cw.region <| Lw.boxV (cs := [t.x, t.y]) rfl rfl rfl ?_
 rintro A_t w eA_t b_t hn -
 replace hB := hB.bs hn
 replace h_t := h_t.bs hn
 replace h_v := h_v.bs hn
 clear hn
 refine Lw.boxV (cs := [v]) rfl hvo rfl ?_
 rintro A_o w eA_o b_o hn -
 replace hB := hB.bs hn
 replace h_t := h_t.bs hn
 replace h_v := h_v.bs hn
 replace b_t := b_t.bs hn
 clear hn
 have z0 := below_size hB
 refine Lw.newA it_29 rfl ?_
 rintro A_r w eA_r b_r hn -
 replace hB := hB.bs hn
 replace h_t := h_t.bs hn
 replace h_v := h_v.bs hn
 replace b_t := b_t.bs hn
 replace b_o := b_o.bs hn
 clear hn
 refine Lw.val (Ex.assign rfl) rfl <| Lw.nil <| Pw.thenN <| Cw.out <| Cw.seq <| Cw.seq <| Cw.region <| Lw.val (Ex.ldA (ag_29 _) (sz_29 _) rfl rfl (by assumption)) rfl ?_
 have z_r := blk_lt b_r
 have h_t1 := h_t.1
 refine Lw.callF rfl rfl (tcheck_c t.x t.y t.s t.l _ h_t.1 h_t.2) ?_
 rintro _ w ⟨rfl, hn⟩
 replace hB := hB.bs hn
 replace h_t := h_t.bs hn
 replace h_v := h_v.bs hn
 replace b_t := b_t.bs hn
 replace b_o := b_o.bs hn
 replace b_r := b_r.bs hn
 replace h_t1 := h_t1.bs hn
 clear hn
 refine Lw.val (Ex.not rfl) rfl <| Lw.val (Ex.move rfl) rfl ?_
 refine Lw.part 12 rfl ?_ ?_
 ·intro g
  refine Lw.pass (dj := 12) rfl rfl rfl rfl <| Lw.pass (dj := 12) rfl rfl rfl rfl <| Lw.pass (dj := 12) rfl rfl rfl rfl <| Lw.pass (dj := 12) rfl rfl rfl rfl <| Lw.pass (dj := 12) rfl rfl rfl rfl <| Lw.pass (dj := 12) rfl rfl rfl rfl <| Lw.val (Ex.pickT rfl rfl) rfl <| Lw.nil <| Pw.thenN <| Cw.out <| Cw.condT rfl <| Cw.seq <| Cw.region <| Lw.val (Ex.build (vs := []) (cs := [.slice none 0 0, .slice none 0 0]) rfl (by kernel_rfl)) rfl <| Lw.unit (Xu.stA (cs := [.slice none 0 0, .slice none 0 0]) rfl rfl rfl rfl rfl b_r rfl) ?_
  rintro w3 ⟨b_r, hg, -⟩
  have hB := hB.grown hg (below_size hB) (by rintro _ ⟨⟩; omega)
  refine Lw.val (Ex.assign rfl) rfl <| Lw.nil <| Pw.thenN <| Cw.out <| Cw.ret <| Pw.thenR <| Pw.retCT rfl rfl rfl (by assumption) (Tryz.underlying29) rfl rfl rfl ?_
  rw [show tnE t o = 1 by simp_all [tnE]]
  exact ⟨hB, ansK_no (by decide)⟩
 intro g1
 have k_t : tok t.s t.l = true := by simpa using g1
 refine Lw.take (dj := 12) rfl rfl <| Lw.val (Ex.ldB (ag_26 _) rfl (by assumption) rfl) rfl ?_
 refine Lw.take (dj := 12) rfl rfl <| Lw.val (Ex.lenS st_26 rfl (by assumption)) rfl ?_
 refine Lw.take (dj := 12) rfl rfl <| Lw.val (Ex.fieldAddr (q := 0) Tryz.underlying29 rfl (sz_26 _) rfl) rfl <| Lw.take (dj := 12) rfl rfl <| Lw.val (Ex.ldB (ag_26 _) rfl (by assumption) rfl) rfl ?_
 refine Lw.take (dj := 12) rfl rfl <| Lw.val (Ex.lenS st_26 rfl (by assumption)) rfl ?_
 refine Lw.take (dj := 12) rfl rfl <| Lw.val (Ex.neq rfl rfl) rfl <| Lw.val (Ex.pickF rfl rfl) rfl <| Lw.nil <| Pw.thenN <| Cw.out <| Cw.cond rfl ?_ ?_
 ·intro g
  have g : ¬ o.length = t.s.length := by have := g; simp at this; omega
  refine Cw.seq <| Cw.region <| Lw.val (Ex.build (vs := []) (cs := [.slice none 0 0, .slice none 0 0]) rfl (by kernel_rfl)) rfl <| Lw.unit (Xu.stA (cs := [.slice none 0 0, .slice none 0 0]) rfl rfl rfl rfl rfl b_r rfl) ?_
  rintro w3 ⟨b_r, hg, -⟩
  have hB := hB.grown hg (below_size hB) (by rintro _ ⟨⟩; omega)
  refine Lw.val (Ex.assign rfl) rfl <| Lw.nil <| Pw.thenN <| Cw.out <| Cw.ret <| Pw.thenR <| Pw.retCT rfl rfl rfl (by assumption) (Tryz.underlying29) rfl rfl rfl ?_
  rw [show tnE t o = 1 by unfold tnE; rw [decide_eq_false g, Bool.and_false, Bool.false_and]; rfl]
  exact ⟨hB, ansK_no (by decide)⟩
 intro g2
 have hl : o.length = t.s.length := by have := g2; simp at this; omega
 clear g1 g2
 have S := (Shapes.ok_iff t.s).1 (tok_ok k_t).1
 refine Cw.skip <| Pw.thenN <| Cw.out <| Cw.seq <| Cw.region <| Lw.val (Ex.ldB (ag_26 _) rfl (by assumption) rfl) rfl ?_
 refine Lw.val (Ex.lenS st_26 rfl (by assumption)) rfl ?_
 have zB := below_size hB
 obtain ⟨B, hBB⟩ : ∃ B, B = w.heap.size := ⟨_, rfl⟩
 have p_t := h_t
 have p_v := h_v
 have y_t := blk_lt b_t
 have y_o := blk_lt b_o
 have y_r := blk_lt b_r
 rename World => w0
 refine Lw.valW (Xw.make (l := o.length) (c := o.length) st_26 it_3 rfl rfl rfl (Nat.le_refl _) (by omega) (by omega)) rfl ?_
 rintro y w1 ⟨hy, -, hn, -⟩
 obtain ⟨zs, hzs⟩ : ∃ l, l = List.replicate o.length (0 : Int) := ⟨_, rfl⟩
 have n2 : zs.length = o.length := by rw [hzs]; simp
 have n1 : (turn t.s o).length = zs.length := by rw [turn_length, n2]
 have hy : w1.ownsRow w0.heap.size 3 1 y zs.length (zs.map (Value.int .i64)) := by rw [n2, hzs, ← rep_flat (enc := Value.int .i64) (z := 0)]; exact hy
 replace hB := hB.bs hn
 replace h_t := h_t.bs hn
 replace h_v := h_v.bs hn
 replace b_t := b_t.bs hn
 replace b_o := b_o.bs hn
 replace b_r := b_r.bs hn
 replace h_t1 := h_t1.bs hn
 have zn := hn.size
 clear hn
 refine Lw.val (Ex.assign rfl) rfl <| Lw.nil <| Pw.thenN <| Cw.out <| Cw.seq <| Cw.seq <| Cw.region <| Lw.val (Ex.ldB (ag_26 _) rfl (by assumption) rfl) rfl ?_
 refine Lw.val (Ex.lenS st_26 rfl (by assumption)) rfl ?_
 refine Lw.val (Ex.move rfl) rfl <| Lw.nil <| Pw.thenN <| Cw.out <| Cw.block ?_
 refine Cw.loop (S := Nat) (fun i => [(2, .pointer (some ⟨A_t, 0, none⟩)), (3, .pointer (some ⟨A_o, 0, none⟩)), (4, .pointer (some ⟨A_r, 0, none⟩)), (6, y), (24, v), (25, .int .i64 (o.length : Int)), (26, .int .i64 (i : Int))]) (fun i w' => i ≤ o.length ∧ (∀ j, j < i → ordC o j = true) ∧ Below w0.heap.size w1 w' ∧ w'.ownsRow w0.heap.size 3 1 y zs.length (((turn t.s o).take i ++ zs.drop i).map (Value.int .i64))) (fun i => o.length - i) (0) ⟨rfl, rfl, rfl, rfl, rfl, rfl, rfl, trivial⟩ ?_ ?_
 ·exact ⟨Nat.zero_le _, fun j hj => absurd hj (by omega), Below.refl _ _, by rw [td_zero]; exact hy⟩
 clear hy
 rintro i w2 ⟨hi, hC, hw, hy⟩
 have zw := hw.size
 have hB := hB.trans (hw.mono zB)
 have b_t := b_t.bl hw y_t
 have b_o := b_o.bl hw y_o
 have b_r := b_r.bl hw y_r
 have h_t := at_stay p_t h_t (Nat.le_refl _) hw
 have h_v : SlT (Value.int .i64) w2 v o := Sl.stay h_v fun k e hne => hw.block k (Sl.blk p_v hne k e)
 have h_t1 := h_t.1
 refine Cw.seq <| Cw.region <| Lw.val (Ex.lss rfl rfl) rfl <| Lw.nil <| Pw.thenN <| Cw.out <| Cw.seq <| Cw.cond rfl ?_ ?_
 ·intro h
  have hi' : i < o.length := by have := of_decide_eq_true h; omega
  obtain ⟨k, hk⟩ : ∃ k, k = o.getD i default := ⟨_, rfl⟩
  refine Cw.skip <| Pw.thenN <| Cw.out <| Cw.seq <| Cw.block <| Cw.seq <| Cw.region <| Lw.val (Ex.move rfl) rfl <| Lw.val (Ex.idxT st_26 rfl rfl (by assumption) _ rfl (by omega)) rfl ?_
  refine Lw.val ((Ex.ldT (ag_3 _) rfl h_v hi').as (congrArg (Value.int .i64) hk.symm)) rfl <| Lw.val (Ex.assign rfl) rfl <| Lw.val (Ex.assign rfl) rfl <| Lw.nil <| Pw.thenN <| Cw.out <| Cw.seq <| Cw.seq <| Cw.region <| Lw.val (Ex.move rfl) rfl <| Lw.val (Ex.lss rfl rfl) rfl <| Lw.val (Ex.move rfl) rfl ?_
  refine Lw.part 33 rfl ?_ ?_
  ·intro g
   have g := of_decide_eq_true g
   refine Lw.pass (dj := 33) rfl rfl rfl rfl <| Lw.pass (dj := 33) rfl rfl rfl rfl <| Lw.pass (dj := 33) rfl rfl rfl rfl <| Lw.pass (dj := 33) rfl rfl rfl rfl <| Lw.val (Ex.pickT rfl rfl) rfl <| Lw.val (Ex.move rfl) rfl <| Lw.pass (dj := 39) rfl rfl rfl rfl <| Lw.pass (dj := 39) rfl rfl rfl rfl <| Lw.pass (dj := 39) rfl rfl rfl rfl <| Lw.pass (dj := 39) rfl rfl rfl rfl <| Lw.pass (dj := 39) rfl rfl rfl rfl <| Lw.val (Ex.pickT rfl rfl) rfl <| Lw.nil <| Pw.thenN <| Cw.out <| Cw.condT rfl <| Cw.seq <| Cw.region <| Lw.val (Ex.build (vs := []) (cs := [.slice none 0 0, .slice none 0 0]) rfl (by kernel_rfl)) rfl <| Lw.unit (Xu.stA (cs := [.slice none 0 0, .slice none 0 0]) rfl rfl rfl rfl rfl b_r rfl) ?_
   rintro w3 ⟨b_r, hg, -⟩
   have hB := hB.grown hg (below_size hB) (by rintro _ ⟨⟩; omega)
   refine Lw.val (Ex.assign rfl) rfl <| Lw.nil <| Pw.thenN <| Cw.out <| Cw.ret <| Pw.thenR <| Pw.blkR <| Pw.thenR <| Pw.thenR <| Pw.blkR <| Pw.thenR <| Pw.retCT rfl rfl rfl (by assumption) (Tryz.underlying29) rfl rfl rfl ?_
   rw [show tnE t o = 1 by unfold tnE; rw [ordOk_no hi' (by unfold ordC; rw [← hk, decide_eq_false (show ¬ 0 ≤ k by omega)]; rfl), Bool.and_false]; rfl]
   exact ⟨hB, ansK_no (by decide)⟩
  intro g1
  have g1 := of_decide_eq_false g1
  refine Lw.take (dj := 33) rfl rfl <| Lw.val (Ex.move rfl) rfl <| Lw.take (dj := 33) rfl rfl <| Lw.val (Ex.ldB (ag_26 _) rfl (by assumption) rfl) rfl ?_
  refine Lw.take (dj := 33) rfl rfl <| Lw.val (Ex.lenS st_26 rfl (by assumption)) rfl ?_
  refine Lw.take (dj := 33) rfl rfl <| Lw.val (Ex.geq rfl rfl) rfl <| Lw.val (Ex.pickF rfl rfl) rfl <| Lw.val (Ex.move rfl) rfl ?_
  refine Lw.part 39 rfl ?_ ?_
  ·intro g
   have g := of_decide_eq_true g
   refine Lw.pass (dj := 39) rfl rfl rfl rfl <| Lw.pass (dj := 39) rfl rfl rfl rfl <| Lw.pass (dj := 39) rfl rfl rfl rfl <| Lw.pass (dj := 39) rfl rfl rfl rfl <| Lw.pass (dj := 39) rfl rfl rfl rfl <| Lw.val (Ex.pickT rfl rfl) rfl <| Lw.nil <| Pw.thenN <| Cw.out <| Cw.condT rfl <| Cw.seq <| Cw.region <| Lw.val (Ex.build (vs := []) (cs := [.slice none 0 0, .slice none 0 0]) rfl (by kernel_rfl)) rfl <| Lw.unit (Xu.stA (cs := [.slice none 0 0, .slice none 0 0]) rfl rfl rfl rfl rfl b_r rfl) ?_
   rintro w3 ⟨b_r, hg, -⟩
   have hB := hB.grown hg (below_size hB) (by rintro _ ⟨⟩; omega)
   refine Lw.val (Ex.assign rfl) rfl <| Lw.nil <| Pw.thenN <| Cw.out <| Cw.ret <| Pw.thenR <| Pw.blkR <| Pw.thenR <| Pw.thenR <| Pw.blkR <| Pw.thenR <| Pw.retCT rfl rfl rfl (by assumption) (Tryz.underlying29) rfl rfl rfl ?_
   rw [show tnE t o = 1 by unfold tnE; rw [ordOk_no hi' (by unfold ordC; rw [← hk, decide_eq_false (show ¬ k < (o.length : Int) by omega), Bool.and_false]; rfl), Bool.and_false]; rfl]
   exact ⟨hB, ansK_no (by decide)⟩
  intro g2
  have g2 := of_decide_eq_false g2
  refine Lw.take (dj := 39) rfl rfl <| Lw.val (Ex.ldB (ag_26 _) rfl (by assumption) rfl) rfl ?_
  refine Lw.take (dj := 39) rfl rfl <| Lw.val (Ex.move rfl) rfl <| Lw.take (dj := 39) rfl rfl <| Lw.val (Ex.cutH st_26 rfl rfl h_v hi) rfl <| Lw.take (dj := 39) rfl rfl <| Lw.val (Ex.move rfl) rfl <| Lw.take (dj := 39) rfl rfl <| Lw.callF rfl rfl (contains_c (cut v 1 0 i) (o.take i) k _ (SlT.take h_v hi)) ?_
  rintro _ w3 ⟨rfl, hn⟩
  have hw := hw.trans (hn.mono (by omega))
  replace hB := hB.bs hn
  replace h_t := h_t.bs hn
  replace h_v := h_v.bs hn
  replace b_t := b_t.bs hn
  replace b_o := b_o.bs hn
  replace b_r := b_r.bs hn
  replace hy := hy.bs hn
  clear hn
  refine Lw.val (Ex.pickF rfl rfl) rfl <| Lw.nil <| Pw.thenN <| Cw.out <| Cw.cond rfl ?_ ?_
  ·intro g
   refine Cw.seq <| Cw.region <| Lw.val (Ex.build (vs := []) (cs := [.slice none 0 0, .slice none 0 0]) rfl (by kernel_rfl)) rfl <| Lw.unit (Xu.stA (cs := [.slice none 0 0, .slice none 0 0]) rfl rfl rfl rfl rfl b_r rfl) ?_
   rintro w3 ⟨b_r, hg, -⟩
   have hB := hB.grown hg (below_size hB) (by rintro _ ⟨⟩; omega)
   refine Lw.val (Ex.assign rfl) rfl <| Lw.nil <| Pw.thenN <| Cw.out <| Cw.ret <| Pw.thenR <| Pw.blkR <| Pw.thenR <| Pw.thenR <| Pw.blkR <| Pw.thenR <| Pw.retCT rfl rfl rfl (by assumption) (Tryz.underlying29) rfl rfl rfl ?_
   rw [show tnE t o = 1 by unfold tnE; rw [ordOk_no hi' (by unfold ordC; rw [← hk, g, Bool.not_true, Bool.and_false]), Bool.and_false]; rfl]
   exact ⟨hB, ansK_no (by decide)⟩
  intro g3
  have hO : ordC o i = true := by unfold ordC; rw [← hk, g3, decide_eq_true (show 0 ≤ k by omega), decide_eq_true (show k < (o.length : Int) by omega)]; rfl
  obtain ⟨K, hK⟩ : ∃ K : Nat, k = (K : Int) := ⟨_, (Int.toNat_of_nonneg (by omega)).symm⟩
  have hKs : K < t.s.length := by omega
  have h_t1 := h_t.1
  have e1 := td_len (i := i) n1
  have hy' := hy
  rw [← e1] at hy'
  have s_y := own_slT hy'
  clear hy'
  have hC' : ∀ j, j < i + 1 → ordC o j = true := by
   intro j hj
   rcases Nat.lt_or_ge j i with h | h
   ·exact hC j h
   ·obtain rfl : j = i := by omega
    exact hO
  have eV : t.s.getD K default = (turn t.s o).getD i default := by rw [turn_at hi', ← hk, hK, Int.toNat_natCast]
  refine Cw.skip <| Pw.thenN <| Cw.out <| Cw.region <| Lw.val (Ex.move rfl) rfl <| Lw.val (Ex.move rfl) rfl <| Lw.val (Ex.fieldAddr (q := 0) Tryz.underlying29 rfl (sz_26 _) rfl) rfl <| Lw.val (Ex.ldB (ag_26 _) rfl (by assumption) rfl) rfl ?_
  refine Lw.val (Ex.move rfl) rfl <| Lw.val (Ex.idxT st_26 rfl rfl h_t1 K hK hKs) rfl <| Lw.val ((Ex.ldT (ag_3 _) rfl h_t1 hKs).as (congrArg (Value.int .i64) eV)) rfl <| Lw.val (Ex.idxT st_26 rfl rfl s_y i rfl (by omega)) rfl <| Lw.unit (Xu.stO (sz_3 _) rfl rfl rfl hy (by rw [List.length_map]; omega)) ?_
  rintro w4 ⟨hy4, hg, -⟩
  rw [← List.map_set, td_set n1 (by omega)] at hy4
  have hw4 := hw.grown hg (by have := hw.size; omega) (fun b e => (own_block hy b e).1)
  refine Lw.nil <| Pw.blkN <| Pw.thenN <| Cw.out <| Cw.region <| Lw.val (Ex.addI rfl rfl (by omega)) rfl <| Lw.val (Ex.move rfl) rfl <| Lw.nil ?_
  exact Pw.thenN (Pw.next (i + 1) ⟨rfl, rfl, rfl, rfl, rfl, rfl, rfl, trivial⟩ (⟨hi', hC', hw4, hy4⟩) (by omega))
 intro h
 have hi' : i = o.length := by have := of_decide_eq_false h; omega
 subst hi'
 have ho : ordOk o = true := ordOk_iff.2 hC
 rw [← n2, td_all n1] at hy
 rw [← n1] at hy
 have s_y := own_slT hy
 have okT := turn_ok (tok_ok k_t).1 ho hl
 have q_r : A_r < w2.heap.size := by omega
 rw [show tnE t o = 0 by unfold tnE; rw [k_t, decide_eq_true hl, ho]; rfl]
 refine Cw.exit <| Pw.thenE <| Pw.thenE <| Pw.blkHit <| Pw.thenN <| Cw.out <| Cw.seq <| Cw.region <| Lw.val (Ex.move rfl) rfl <| Lw.val (Ex.mkFn (vs := []) (us := [.pointer (some ⟨A_o, 0, none⟩), .pointer (some ⟨A_t, 0, none⟩)]) rfl rfl) rfl <| Lw.callF rfl rfl (filled_c y (turn t.s o) 113 [.pointer (some ⟨A_o, 0, none⟩), .pointer (some ⟨A_t, 0, none⟩)] (fun i => t.l.getD (tuS t.s o (Shapes.place (turn t.s o) (i : Int)) o.length).toNat default) _ s_y okT (fun i a w' hb _ ha => turnF_c A_o A_t v o t a i w' (b_o.bs hb) (b_t.bs hb) (h_v.bs hb) (h_t.bs hb) k_t ho hl ha)) ?_
 rintro _ w ⟨hn, x, x2, rfl, hm⟩
 have hm := hm.k
 replace hB := hB.bs hn
 replace h_t := h_t.bs hn
 replace h_v := h_v.bs hn
 replace b_t := b_t.bs hn
 replace b_o := b_o.bs hn
 replace b_r := b_r.bs hn
 clear hn
 refine Lw.val (Ex.extract (i := 0) rfl rfl) rfl <| Lw.val (Ex.extract (i := 1) rfl rfl) rfl <| Lw.unit (Xu.stA (cs := [x, x2]) rfl rfl rfl rfl hm.at.one b_r rfl) ?_
 rintro w5 ⟨b_r5, hg, -⟩
 have hB5 := hB.grown hg (below_size hB) (by rintro _ ⟨⟩; omega)
 refine Lw.val (Ex.assign rfl) rfl <| Lw.nil <| Pw.thenN <| Cw.out <| Cw.ret <| Pw.retCT rfl rfl rfl (by assumption) (Tryz.underlying29) rfl rfl rfl ?_
 have zz := below_size hB
 exact ⟨hB5, x, x2, rfl, fun h => absurd rfl h, fun _ => ⟨(bl_krow hm.row hg q_r).mono (by omega), (bl_krow hm.col hg q_r).mono (by omega), hm.apart⟩⟩
end Go.Proofs.YtmipoeanpnnjoaaGreat

/-! Contracts: a number of a tensor. -/
namespace Go.Proofs.YtmipoeanpnnjoaaGreat
open Go Go.Dd Go.RowKit
set_option maxRecDepth 100000

theorem index_in {s t : List Int} (h : (Shapes.index s t).2 = 0) : 0 ≤ (Shapes.index s t).1 ∧ (Shapes.index s t).1 < Shapes.size s := by
 unfold Shapes.index at h ⊢
 split
 ·rename_i g
  simp only [Bool.and_eq_true] at g
  have h1 := Shapes.idx_lt ((Shapes.ok_iff s).1 g.1).2.1 g.2
  rw [Shapes.size_ok g.1]
  exact h1
 ·rename_i g
  rw [if_neg g] at h
  cases h
def tatE (s : List Int) (l : List (BitVec 32)) (t : List Int) : Int := if tok s l then (Shapes.index s t).2 else 1
def tatV (s : List Int) (l : List (BitVec 32)) (t : List Int) : BitVec 32 := if tok s l = true ∧ (Shapes.index s t).2 = 0 then l.getD (Shapes.index s t).1.toNat default else 0#32

theorem tat_c (a : T4) (u : Value) (t : List Int) (W : World) (h_a : a.at W) (h_u : SlT (Value.int .i64) W u t) :
  Fnc Tryz.prog 122 [a.v, u] W (fun r w' => r = .tuple #[i32 (tatV a.s a.l t), .int .i64 (tatE a.s a.l t)] ∧ Below W.heap.size W w') := by
 have hB := Below.refl W.heap.size W
 refine Fnc.enter (n := 26) Tryz.func122 (by kernel_rfl) rfl rfl rfl <| Cw.seq <| Cw.region <| Lw.boxV (cs := [a.x, a.y]) rfl rfl rfl ?_
 rintro A_a w eA_a b_a hn -
 replace hB := hB.bs hn
 replace h_a := h_a.bs hn
 replace h_u := h_u.bs hn
 clear hn
 refine Lw.val (Ex.assign (show _ = some (i32 (0#32)) from rfl)) rfl <| Lw.val (Ex.assign rfl) rfl <| Lw.nil <| Pw.thenN <| Cw.out <| Cw.seq <| Cw.seq <| Cw.region <| Lw.val (Ex.ldA (ag_29 _) (sz_29 _) rfl rfl (by assumption)) rfl ?_
 refine Lw.callF rfl rfl (tcheck_c a.x a.y a.s a.l _ h_a.1 h_a.2) ?_
 rintro _ w ⟨rfl, hn⟩
 replace hB := hB.bs hn
 replace h_a := h_a.bs hn
 replace h_u := h_u.bs hn
 replace b_a := b_a.bs hn
 clear hn
 refine Lw.val (Ex.not rfl) rfl <| Lw.nil <| Pw.thenN <| Cw.out <| Cw.cond rfl ?_ ?_
 ·intro g
  have ht : tok a.s a.l = false := by simpa using g
  refine Cw.seq <| Cw.region <| Lw.val (Ex.assign (show _ = some (i32 (0#32)) from rfl)) rfl <| Lw.val (Ex.assign rfl) rfl <| Lw.nil <| Pw.thenN <| Cw.out <| Cw.ret <| Pw.thenR <| Pw.ret2 rfl rfl rfl ?_
  exact ⟨by simp [tatV, tatE, ht], hB⟩
 intro g
 have ht : tok a.s a.l = true := by simpa using g
 refine Cw.skip <| Pw.thenN <| Cw.out <| Cw.seq <| Cw.region <| Lw.val (Ex.fieldAddr (q := 0) Tryz.underlying29 rfl (sz_26 _) rfl) rfl <| Lw.val (Ex.ldB (ag_26 _) rfl (by assumption) rfl) rfl ?_
 refine Lw.val (Ex.move rfl) rfl <| Lw.callF rfl rfl (index_c a.s t a.x u _ h_a.1 h_u) ?_
 rintro _ w ⟨rfl, hn⟩
 replace hB := hB.bs hn
 replace h_a := h_a.bs hn
 replace h_u := h_u.bs hn
 replace b_a := b_a.bs hn
 clear hn
 refine Lw.val (Ex.move rfl) rfl <| Lw.val (Ex.extract (i := 0) rfl rfl) rfl <| Lw.val (Ex.extract (i := 1) rfl rfl) rfl <| Lw.val (Ex.assign rfl) rfl <| Lw.val (Ex.assign rfl) rfl <| Lw.nil <| Pw.thenN <| Cw.out <| Cw.seq <| Cw.seq <| Cw.region <| Lw.val (Ex.move rfl) rfl <| Lw.val (Ex.neq rfl rfl) rfl <| Lw.nil <| Pw.thenN <| Cw.out <| Cw.cond rfl ?_ ?_
 ·intro g
  have g0 : ¬ (Shapes.index a.s t).2 = 0 := by simpa using g
  refine Cw.seq <| Cw.region <| Lw.val (Ex.move rfl) rfl <| Lw.val (Ex.assign (show _ = some (i32 (0#32)) from rfl)) rfl <| Lw.val (Ex.assign rfl) rfl <| Lw.nil <| Pw.thenN <| Cw.out <| Cw.ret <| Pw.thenR <| Pw.ret2 rfl rfl rfl ?_
  exact ⟨by simp [tatV, tatE, ht, g0], hB⟩
 intro g
 have g0 : (Shapes.index a.s t).2 = 0 := by simpa using g
 have hin := index_in g0
 have htl := (tok_ok ht).2
 obtain ⟨i, hi⟩ : ∃ i : Nat, (Shapes.index a.s t).1 = (i : Int) := ⟨_, (Int.toNat_of_nonneg hin.1).symm⟩
 have hil : i < a.l.length := by omega
 have hy := h_a.2
 refine Cw.skip <| Pw.thenN <| Cw.out <| Cw.seq <| Cw.region <| Lw.val (Ex.fieldAddr (q := 0) Tryz.underlying29 rfl (sz_27 _) rfl) rfl <| Lw.val (Ex.ldB (ag_27 _) rfl (by assumption) rfl) rfl ?_
 refine Lw.val (Ex.move rfl) rfl <| Lw.val (Ex.idxT st_27 rfl rfl hy i hi hil) rfl <| Lw.val (Ex.ldT (ag_21 _) rfl (by assumption) (by omega)) rfl ?_
 refine Lw.val (Ex.assign rfl) rfl <| Lw.val (Ex.assign rfl) rfl <| Lw.nil <| Pw.thenN <| Cw.out <| Cw.ret <| Pw.ret2 rfl rfl rfl ?_
 exact ⟨by simp [tatV, tatE, ht, g0, hi], hB⟩
end Go.Proofs.YtmipoeanpnnjoaaGreat

/-! Contract: some tensors, joined along a direction. -/
namespace Go.Proofs.YtmipoeanpnnjoaaGreat
open Go Go.Dd Go.RowKit
set_option maxRecDepth 100000

/-- A list of tensors. -/
def Tens (w : World) (v : Value) (ts : List T4) : Prop := Sl w 2 v ts.length (cellsOf ts) ∧ ∀ t ∈ ts, t.at w
theorem Tens.bs {w w' : World} {v : Value} {ts : List T4} (h : Tens w v ts) (g : Below w.heap.size w w') : Tens w' v ts := ⟨h.1.bs g, fun t ht => (h.2 t ht).bs g⟩
theorem Tens.stay {w0 w w' : World} {v : Value} {ts : List T4} {B : Nat} (p : Tens w0 v ts) (h : Tens w v ts) (hB : w0.heap.size ≤ B) (g : Below B w w') : Tens w' v ts :=
 ⟨Sl.stay h.1 fun k e hne => g.block k (Nat.lt_of_lt_of_le (Sl.blk p.1 hne k e) hB), fun t ht => at_stay (p.2 t ht) (h.2 t ht) hB g⟩
theorem Tens.slice {w : World} {v : Value} {ts : List T4} (h : Tens w v ts) {i : Nat} (hi : i < ts.length) : ∃ ad c k, v = .slice (some ad) c k := by
 obtain ⟨_, ao, cap, rfl, _, _, h3, _⟩ := h.1
 cases ao with
 | none => have := h3 rfl; omega
 | some ad => exact ⟨_, _, _, rfl⟩
theorem tens_at {ts : List T4} {i : Nat} (h : i < ts.length) : ∃ t : T4, t = ts[i] ∧ t ∈ ts ∧ (cellsOf ts)[i * 2]? = some t.x ∧ (cellsOf ts)[i * 2 + 1]? = some t.y :=
 ⟨ts[i], rfl, List.getElem_mem h, (cells_at h).1, (cells_at h).2⟩
theorem two_cells {xs : List Value} {o : Nat} {x y : Value} (h1 : xs[o]? = some x) (h2 : xs[o + 1]? = some y) : ∀ i, i < 2 → ∃ q, [x, y][i]? = some q ∧ xs[o + i]? = some q := fun i hi => by
 rcases (show i = 0 ∨ i = 1 by omega) with rfl | rfl
 ·exact ⟨_, rfl, h1⟩
 ·exact ⟨_, rfl, h2⟩
theorem join1_c (t : T4) (w : World) (h_t : t.at w) : Fnc Tryz.prog 119 [t.v] w (fun r w' => r = .bool (!tok t.s t.l) ∧ Below w.heap.size w w') := by
 have hB := Below.refl w.heap.size w
 refine Fnc.enter (n := 6) Tryz.func119 (by kernel_rfl) rfl rfl rfl <| Cw.seq <| Cw.region <| Lw.boxV (cs := [t.x, t.y]) rfl rfl rfl ?_
 rintro A_t w eA_t b_t hn -
 replace hB := hB.bs hn
 replace h_t := h_t.bs hn
 clear hn
 refine Lw.val (Ex.assign rfl) rfl <| Lw.nil <| Pw.thenN <| Cw.out <| Cw.seq <| Cw.region <| Lw.val (Ex.ldA (ag_29 _) (sz_29 _) rfl rfl (by assumption)) rfl ?_
 refine Lw.callF rfl rfl (tcheck_c t.x t.y t.s t.l _ h_t.1 h_t.2) ?_
 rintro _ w ⟨rfl, hn⟩
 replace hB := hB.bs hn
 replace h_t := h_t.bs hn
 replace b_t := b_t.bs hn
 clear hn
 refine Lw.val (Ex.not rfl) rfl <| Lw.val (Ex.assign rfl) rfl <| Lw.nil <| Pw.thenN <| Cw.out <| Cw.ret <| Pw.ret1 rfl rfl ?_
 exact ⟨rfl, hB⟩
def badT (ts : List T4) : Bool := ts.any fun t => !tok t.s t.l
theorem tIdx_c (v : Value) (ts : List T4) (w : World) (h : Tens w v ts) (hl : ts.length ≤ 1000) : Fnc Tryz.prog 130 [v, .func (.func 119) #[] #[]] w (fun r w' => ∃ j, r = .int .i64 j ∧ decide (0 ≤ j) = badT ts ∧ Below w.heap.size w w') := by
 have hv := h.1
 refine Fnc.enter (n := 19) Tryz.func130 (by kernel_rfl) rfl rfl rfl <| Cw.seq <| Cw.region <| Lw.val (Ex.assign rfl) rfl <| Lw.nil <| Pw.thenN <| Cw.out <| Cw.seq <| Cw.seq <| Cw.region <| Lw.val (Ex.move rfl) rfl <| Lw.val (Ex.lenS st_25 rfl (by assumption)) rfl ?_
 refine Lw.val (Ex.move rfl) rfl <| Lw.nil <| Pw.thenN <| Cw.out <| Cw.block ?_
 refine Cw.loop (S := Nat) (fun i => [(0, v), (1, .func (.func 119) #[] #[]), (7, .int .i64 (ts.length : Int)), (8, .int .i64 (i : Int))]) (fun i w' => i ≤ ts.length ∧ badT (ts.take i) = false ∧ Below w.heap.size w w') (fun i => ts.length - i) (0) ⟨rfl, rfl, rfl, rfl, trivial⟩ ?_ ?_
 ·exact ⟨Nat.zero_le _, rfl, Below.refl _ _⟩
 rintro i w1 ⟨hi, hc, hn⟩
 have h1 := h.bs hn
 refine Cw.seq <| Cw.region <| Lw.val (Ex.lss rfl rfl) rfl <| Lw.nil <| Pw.thenN <| Cw.out <| Cw.seq <| Cw.cond rfl ?_ ?_
 ·intro hlt
  have hi' : i < ts.length := by have := of_decide_eq_true hlt; omega
  obtain ⟨a, ea, ma, c1, c2⟩ := tens_at hi'
  have h_a := h1.2 a ma
  have e1 : badT (ts.take (i + 1)) = (badT (ts.take i) || !tok a.s a.l) := by unfold badT; rw [List.take_succ_eq_append_getElem hi', List.any_append, ← ea]; simp
  refine Cw.skip <| Pw.thenN <| Cw.out <| Cw.seq <| Cw.block <| Cw.seq <| Cw.region <| Lw.val (Ex.move rfl) rfl <| Lw.val (Ex.assign rfl) rfl <| Lw.nil <| Pw.thenN <| Cw.out <| Cw.seq <| Cw.region <| Lw.val (Ex.move rfl) rfl <| Lw.val (Ex.move rfl) rfl <| Lw.val (Ex.move rfl) rfl <| Lw.val (Ex.idx st_25 rfl rfl h1.1 i rfl hi') rfl <| Lw.val (Ex.ldE (cs := [a.x, a.y]) (ag_29 _) (sz_29 _) rfl h1.1 rfl (by decide) (two_cells c1 c2)) rfl <| Lw.callV (p := []) (q := []) rfl rfl rfl (join1_c a w1 h_a) ?_
  rintro _ w2 ⟨rfl, hn2⟩
  refine Lw.nil <| Pw.thenN <| Cw.out <| Cw.cond rfl ?_ ?_
  ·intro g
   refine Cw.seq <| Cw.region <| Lw.val (Ex.move rfl) rfl <| Lw.val (Ex.assign rfl) rfl <| Lw.nil <| Pw.thenN <| Cw.out <| Cw.ret <| Pw.blkR <| Pw.thenR <| Pw.thenR <| Pw.blkR <| Pw.thenR <| Pw.ret1 rfl rfl ?_
   refine ⟨(i : Int), rfl, ?_, bt hn hn2⟩
   have : badT ts = true := by
    unfold badT
    exact List.any_eq_true.2 ⟨a, ma, g⟩
   rw [this, decide_eq_true (by omega)]
  intro g
  refine Cw.skip <| Pw.blkN <| Pw.thenN <| Cw.out <| Cw.region <| Lw.val (Ex.addI rfl rfl (by omega)) rfl <| Lw.val (Ex.move rfl) rfl <| Lw.nil ?_
  exact Pw.thenN (Pw.next (i + 1) ⟨rfl, rfl, rfl, rfl, trivial⟩ (⟨hi', by rw [e1, hc, g]; rfl, bt hn hn2⟩) (by omega))
 intro hge
 have hi' : i = ts.length := by have := of_decide_eq_false hge; omega
 subst hi'
 rw [List.take_length] at hc
 refine Cw.exit <| Pw.thenE <| Pw.thenE <| Pw.blkHit <| Pw.thenN <| Cw.out <| Cw.seq <| Cw.region <| Lw.val (Ex.assign rfl) rfl <| Lw.nil <| Pw.thenN <| Cw.out <| Cw.ret <| Pw.ret1 rfl rfl ?_
 exact ⟨-1, rfl, by rw [hc]; rfl, hn⟩
theorem tBad_c (v : Value) (ts : List T4) (w : World) (h : Tens w v ts) (hl : ts.length ≤ 1000) : Fnc Tryz.prog 118 [v, .func (.func 119) #[] #[]] w (fun r w' => r = .bool (badT ts) ∧ Below w.heap.size w w') := by
 refine Fnc.enter (n := 9) Tryz.func118 (by kernel_rfl) rfl rfl rfl <| Cw.seq <| Cw.region <| Lw.val (Ex.assign rfl) rfl <| Lw.nil <| Pw.thenN <| Cw.out <| Cw.seq <| Cw.region <| Lw.val (Ex.move rfl) rfl <| Lw.val (Ex.move rfl) rfl <| Lw.callF rfl rfl (tIdx_c v ts w h hl) ?_
 rintro _ _ ⟨j, rfl, hj, hn⟩
 refine Lw.val (Ex.geq rfl rfl) rfl <| Lw.val (Ex.assign rfl) rfl <| Lw.nil <| Pw.thenN <| Cw.out <| Cw.ret <| Pw.ret1 rfl rfl ?_
 exact ⟨congrArg Value.bool hj, hn⟩
def alk (a b : List Int) (k : Nat) : Bool := decide (a.length = b.length) && decide (a.take k = b.take k) && decide (a.drop (k + 1) = b.drop (k + 1))
theorem alike_c (u v : Value) (a b : List Int) (k : Nat) (w : World) (h_u : SlT (Value.int .i64) w u a) (h_v : SlT (Value.int .i64) w v b) (hk : k < b.length) : Fnc Tryz.prog 120 [u, v, .int .i64 (k : Int)] w (fun r w' => r = .bool (alk a b k) ∧ Below w.heap.size w w') := by
 have hle := h_v.le
 refine Fnc.enter (n := 32) Tryz.func120 (by kernel_rfl) rfl rfl rfl <| Cw.seq <| Cw.region <| Lw.val (Ex.assign rfl) rfl <| Lw.nil <| Pw.thenN <| Cw.out <| Cw.seq <| Cw.quiet mixed (by kernel_rfl) <| Qw.val (fun w1 hq => Ex.move rfl) rfl <| Qw.val (fun w1 hq => Ex.lenS st_26 rfl (Sl.bs (by assumption) hq)) rfl ?_
 refine Qw.val (fun w1 hq => Ex.move rfl) rfl <| Qw.val (fun w1 hq => Ex.lenS st_26 rfl (Sl.bs (by assumption) hq)) rfl ?_
 refine Qw.val (fun w1 hq => Ex.eql rfl rfl) rfl <| Qw.val (fun w1 hq => Ex.move rfl) rfl ?_
 refine Qw.part 12 rfl ?_ ?_
 ·intro g
  have hl : a.length = b.length := by have := of_decide_eq_true g; omega
  refine Qw.take (dj := 12) rfl rfl <| Qw.val (fun w1 hq => Ex.move rfl) rfl <| Qw.take (dj := 12) rfl rfl <| Qw.val (fun w1 hq => Ex.move rfl) rfl <| Qw.take (dj := 12) rfl rfl <| Qw.val (fun w1 hq => Ex.cutH st_26 rfl rfl (Sl.bs (by assumption) hq) (by omega)) rfl ?_
  refine Qw.take (dj := 12) rfl rfl <| Qw.val (fun w1 hq => Ex.move rfl) rfl <| Qw.take (dj := 12) rfl rfl <| Qw.val (fun w1 hq => Ex.move rfl) rfl <| Qw.take (dj := 12) rfl rfl <| Qw.val (fun w1 hq => Ex.cutH st_26 rfl rfl (Sl.bs (by assumption) hq) (by omega)) rfl ?_
  refine Qw.take (dj := 12) rfl rfl <| Qw.callF rfl rfl (fun w1 hq => (equalInts_c (cut u 1 0 k) (cut v 1 0 k) (a.take k) (b.take k) w1 (Sl.bs (SlT.take h_u (by omega)) hq) (Sl.bs (SlT.take h_v (by omega)) hq)).q hq) <| Qw.val (fun w1 hq => Ex.pickT rfl rfl) rfl <| Qw.val (fun w1 hq => Ex.move rfl) rfl ?_
  refine Qw.part 21 rfl ?_ ?_
  ·intro g2
   refine Qw.take (dj := 21) rfl rfl <| Qw.val (fun w1 hq => Ex.move rfl) rfl <| Qw.take (dj := 21) rfl rfl <| Qw.val (fun w1 hq => Ex.move rfl) rfl <| Qw.take (dj := 21) rfl rfl <| Qw.val (fun w1 hq => (Ex.addI rfl rfl (by omega)).as (congrArg (Value.int .i64) (show (k : Int) + 1 = ((k + 1 : Nat) : Int) by omega))) rfl <| Qw.take (dj := 21) rfl rfl <| Qw.val (fun w1 hq => Ex.cutL st_26 rfl rfl (Sl.bs (by assumption) hq) (by omega)) rfl ?_
   refine Qw.take (dj := 21) rfl rfl <| Qw.val (fun w1 hq => Ex.move rfl) rfl <| Qw.take (dj := 21) rfl rfl <| Qw.val (fun w1 hq => Ex.move rfl) rfl <| Qw.take (dj := 21) rfl rfl <| Qw.val (fun w1 hq => (Ex.addI rfl rfl (by omega)).as (congrArg (Value.int .i64) (show (k : Int) + 1 = ((k + 1 : Nat) : Int) by omega))) rfl <| Qw.take (dj := 21) rfl rfl <| Qw.val (fun w1 hq => Ex.cutL st_26 rfl rfl (Sl.bs (by assumption) hq) (by omega)) rfl ?_
   refine Qw.take (dj := 21) rfl rfl <| Qw.callF rfl rfl (fun w1 hq => (equalInts_c (cut u 1 (k + 1) a.length) (cut v 1 (k + 1) b.length) (a.drop (k + 1)) (b.drop (k + 1)) w1 (Sl.bs (SlT.drop h_u (by omega)) hq) (Sl.bs (SlT.drop h_v (by omega)) hq)).q hq) <| Qw.val (fun w1 hq => Ex.pickT rfl rfl) rfl <| Qw.val (fun w1 hq => Ex.assign rfl) rfl ?_
   refine Qw.nil (fun w2 hq => ?_)
   refine Pw.thenN <| Cw.out <| Cw.ret <| Pw.ret1 rfl rfl ?_
   exact ⟨congrArg Value.bool (by unfold alk; rw [decide_eq_true hl, g2]; rfl), hq⟩
  intro g2
  refine Qw.pass (dj := 21) rfl rfl rfl rfl <| Qw.pass (dj := 21) rfl rfl rfl rfl <| Qw.pass (dj := 21) rfl rfl rfl rfl <| Qw.pass (dj := 21) rfl rfl rfl rfl <| Qw.pass (dj := 21) rfl rfl rfl rfl <| Qw.pass (dj := 21) rfl rfl rfl rfl <| Qw.pass (dj := 21) rfl rfl rfl rfl <| Qw.pass (dj := 21) rfl rfl rfl rfl <| Qw.pass (dj := 21) rfl rfl rfl rfl <| Qw.val (fun w1 hq => Ex.pickF rfl rfl) rfl <| Qw.val (fun w1 hq => Ex.assign rfl) rfl ?_
  refine Qw.nil (fun w2 hq => ?_)
  refine Pw.thenN <| Cw.out <| Cw.ret <| Pw.ret1 rfl rfl ?_
  exact ⟨congrArg Value.bool (by unfold alk; rw [g2, Bool.and_false, Bool.false_and]), hq⟩
 intro g
 have hl : ¬ a.length = b.length := by have := of_decide_eq_false g; omega
 refine Qw.pass (dj := 12) rfl rfl rfl rfl <| Qw.pass (dj := 12) rfl rfl rfl rfl <| Qw.pass (dj := 12) rfl rfl rfl rfl <| Qw.pass (dj := 12) rfl rfl rfl rfl <| Qw.pass (dj := 12) rfl rfl rfl rfl <| Qw.pass (dj := 12) rfl rfl rfl rfl <| Qw.pass (dj := 12) rfl rfl rfl rfl <| Qw.val (fun w1 hq => Ex.pickF rfl rfl) rfl <| Qw.val (fun w1 hq => Ex.move rfl) rfl <| Qw.pass (dj := 21) rfl rfl rfl rfl <| Qw.pass (dj := 21) rfl rfl rfl rfl <| Qw.pass (dj := 21) rfl rfl rfl rfl <| Qw.pass (dj := 21) rfl rfl rfl rfl <| Qw.pass (dj := 21) rfl rfl rfl rfl <| Qw.pass (dj := 21) rfl rfl rfl rfl <| Qw.pass (dj := 21) rfl rfl rfl rfl <| Qw.pass (dj := 21) rfl rfl rfl rfl <| Qw.pass (dj := 21) rfl rfl rfl rfl <| Qw.val (fun w1 hq => Ex.pickF rfl rfl) rfl <| Qw.val (fun w1 hq => Ex.assign rfl) rfl ?_
 refine Qw.nil (fun w2 hq => ?_)
 refine Pw.thenN <| Cw.out <| Cw.ret <| Pw.ret1 rfl rfl ?_
 exact ⟨congrArg Value.bool (by unfold alk; rw [decide_eq_false hl]; rfl), hq⟩

/-! ### What joining tells -/
def jsum (k : Nat) : List T4 → Int
 | [] => 0
 | t :: ts => t.s.getD k default + jsum k ts
theorem jsum_append (k : Nat) : ∀ (a b : List T4), jsum k (a ++ b) = jsum k a + jsum k b
 | [], b => by simp [jsum]
 | t :: a, b => by simp only [List.cons_append, jsum]; rw [jsum_append k a b]; omega
/-- The number at a place of some that are joined. -/
def jv (k : Nat) : List T4 → List Int → BitVec 32
 | [], _ => 0#32
 | t :: ts, p => if p.getD k default < t.s.getD k default then tatV t.s t.l p else jv k ts (p.set k (p.getD k default - t.s.getD k default))
def s0T : List T4 → List Int
 | [] => []
 | t :: _ => t.s
def jnS (ts : List T4) (k : Nat) : List Int := (s0T ts).set k (jsum k ts)
def jnA (ts : List T4) (al : Int) : Bool := decide (ts.length < 1) || decide (4 < ts.length) || badT ts || decide (al < 0) || decide (((s0T ts).length : Int) ≤ al)
def jnE (ts : List T4) (al : Int) : Int := if jnA ts al then 1 else if (ts.all fun t => alk t.s (s0T ts) al.toNat) && Shapes.ok (jnS ts al.toNat) then 0 else 10
def jnL (ts : List T4) (k : Nat) : List (BitVec 32) := (List.range (Shapes.size (jnS ts k)).toNat).map fun i : Nat => jv k ts (Shapes.place (jnS ts k) (i : Int))
theorem alk_set {a b : List Int} {k : Nat} (c : Int) : alk a (b.set k c) k = alk a b k := by
 have e1 : (b.set k c).take k = b.take k := by
  apply List.ext_getElem (by simp)
  intro i h1 h2
  simp only [List.length_take, List.length_set] at h1
  rw [List.getElem_take, List.getElem_take, List.getElem_set, if_neg (by omega)]
 have e2 : (b.set k c).drop (k + 1) = b.drop (k + 1) := by
  apply List.ext_getElem (by simp)
  intro i h1 h2
  rw [List.getElem_drop, List.getElem_drop, List.getElem_set, if_neg (by omega)]
 unfold alk
 rw [e1, e2, List.length_set]
/-- Where a joined number comes from. -/
theorem joinF_c (A_k A_l k : Nat) (v : Value) (ts : List T4) (p : List Int) (a : Value) (w : World) (b_k : Blk w A_k 3 [.int .i64 (k : Int)]) (b_l : Blk w A_l 25 [v]) (h : Tens w v ts) (hl : ts.length ≤ 1000) (hT : ∀ t ∈ ts, k < t.s.length ∧ Shapes.ok t.s = true)
  (hk : k < p.length) (hp : p.length ≤ 4) (hc : 0 ≤ p.getD k default ∧ p.getD k default < jsum k ts) (hj : jsum k ts ≤ 1000) (h_a : SlT (Value.int .i64) w a p) :
  Fnc Tryz.prog 121 ([a] ++ [.pointer (some ⟨A_k, 0, none⟩), .pointer (some ⟨A_l, 0, none⟩)]) w (fun r w' => r = i32 (jv k ts p) ∧ Below w.heap.size w w') := by
 show Fnc Tryz.prog 121 [a, .pointer (some ⟨A_k, 0, none⟩), .pointer (some ⟨A_l, 0, none⟩)] w _
 have set_id : p.set k (p.getD k default) = p := by
  have : p[k] = p.getD k default := by simp [hk]
  rw [← this]; exact List.set_getElem_self hk
 refine Fnc.enter (n := 49) Tryz.func121 (by kernel_rfl) rfl rfl rfl <| Cw.seq <| Cw.region <| Lw.val (Ex.assign (show _ = some (i32 (0#32)) from rfl)) rfl <| Lw.nil <| Pw.thenN <| Cw.out <| Cw.seq <| Cw.region <| Lw.val (Ex.move rfl) rfl <| Lw.callF rfl rfl (clone_c a p w h_a (by omega)) ?_
 rintro x w1 ⟨hx, hn1⟩
 refine Lw.val (Ex.assign rfl) rfl <| Lw.val (Ex.assign rfl) rfl <| Lw.nil <| Pw.thenN <| Cw.out <| Cw.seq <| Cw.block ?_
 refine Cw.loop (S := (Nat × Int)) (fun z => [(0, x), (1, .pointer (some ⟨A_k, 0, none⟩)), (2, .pointer (some ⟨A_l, 0, none⟩)), (5, .int .i64 (z.1 : Int))]) (fun z w' => z.1 ≤ ts.length ∧ (0 ≤ z.2 ∧ z.2 < jsum k (ts.drop z.1) ∧ z.2 ≤ 1000) ∧ jv k ts p = jv k (ts.drop z.1) (p.set k z.2) ∧ Below w.heap.size w w' ∧ w'.ownsRow w.heap.size 3 1 x p.length ((p.set k z.2).map (Value.int .i64))) (fun z => ts.length - z.1) ((0, p.getD k default)) ⟨rfl, rfl, rfl, rfl, trivial⟩ ?_ ?_
 ·exact ⟨Nat.zero_le _, ⟨hc.1, hc.2, by show p.getD k default ≤ 1000; omega⟩, by rw [set_id]; rfl, hn1, by show w1.ownsRow _ _ _ _ _ ((p.set k (p.getD k default)).map _); rw [set_id]; exact hx⟩
 clear hx hn1
 rintro ⟨n, c⟩ w2 ⟨hn, ⟨c0, c1, c2⟩, hv, hB, hx⟩
 dsimp only at hn c0 c1 c2 hv hx ⊢
 have hn' : n < ts.length := by
  rcases Nat.lt_or_ge n ts.length with h | h
  ·exact h
  ·rw [List.drop_of_length_le h] at c1; simp [jsum] at c1; omega
 obtain ⟨t, et, mt, k1, k2⟩ := tens_at hn'
 have hd : ts.drop n = t :: ts.drop (n + 1) := by rw [List.drop_eq_getElem_cons hn', ← et]
 obtain ⟨kt, okt⟩ := hT t mt
 have dt := dim_at ((Shapes.ok_iff t.s).1 okt).2.1 kt
 have h2 := h.bs hB
 have h_t := h2.2 t mt
 have h_t1 := h_t.1
 have hvs := h2.slice hn'
 have b_k2 := b_k.bs hB
 have b_l2 := b_l.bs hB
 have lset : (p.set k c).length = p.length := List.length_set
 have hx' := hx
 rw [← lset] at hx'
 have s_x := own_slT hx'
 clear hx'
 have gk : (p.set k c).getD k default = c := by simp [hk]
 have hkx : k < (p.set k c).length := by omega
 rw [hd] at c1 hv
 have c1' : c < t.s.getD k default + jsum k (ts.drop (n + 1)) := c1
 refine Cw.seq <| Cw.seq <| Cw.quiet mixed (by kernel_rfl) <| Qw.val (fun w1 hq => Ex.move rfl) rfl <| Qw.val (fun w1 hq => Ex.ldB (ag_3 _) rfl (Blk.bs (by assumption) hq) rfl) rfl ?_
 refine Qw.val (fun w1 hq => Ex.idxT st_26 rfl rfl (Sl.bs s_x hq) k rfl hkx) rfl <| Qw.val (fun w1 hq => (Ex.ldT (ag_3 _) rfl (Sl.bs s_x hq) hkx).as (congrArg (Value.int .i64) gk)) rfl <| Qw.val (fun w1 hq => Ex.ldB (ag_25 _) rfl (Blk.bs (by assumption) hq) rfl) rfl ?_
 refine Qw.val (fun w1 hq => Ex.move rfl) rfl <| Qw.val (fun w1 hq => Ex.idx st_25 rfl rfl (Sl.bs h2.1 hq) n rfl hn') rfl <| Qw.val (fun w1 hq => Ex.fieldAddrE Tryz.underlying29 rfl (sz_26 _) rfl hvs) rfl <| Qw.val (fun w1 hq => Ex.ld (ag_26 _) rfl (Sl.bs h2.1 hq) k1) rfl <| Qw.val (fun w1 hq => Ex.ldB (ag_3 _) rfl (Blk.bs (by assumption) hq) rfl) rfl ?_
 refine Qw.val (fun w1 hq => Ex.idxT st_26 rfl rfl (Sl.bs h_t1 hq) k rfl kt) rfl <| Qw.val (fun w1 hq => Ex.ldT (ag_3 _) rfl (Sl.bs h_t1 hq) kt) rfl <| Qw.val (fun w1 hq => Ex.geq rfl rfl) rfl ?_
 refine Qw.nil (fun w3 hq => ?_)
 refine Pw.thenN <| Cw.out ?_
 have hB3 := bt hB hq
 have hx3 := own_bs hx hq
 have h3 := h.bs hB3
 have h_t3 := h3.2 t mt
 have h_t13 := h_t3.1
 have b_k3 := b_k2.bs hq
 have b_l3 := b_l2.bs hq
 have s_x3 := s_x.bs hq
 clear hq
 refine Cw.cond rfl ?_ ?_
 ·intro g
  have g := of_decide_eq_true g
  refine Cw.skip <| Pw.thenN <| Cw.out <| Cw.block <| Cw.seq <| Cw.tail 14 mixed (by kernel_rfl) <| Qw.val (fun w1 hq => Ex.move rfl) rfl <| Qw.val (fun w1 hq => Ex.ldB (ag_3 _) rfl (Blk.bs (by assumption) hq) rfl) rfl ?_
  refine Qw.val (fun w1 hq => Ex.idxT st_26 rfl rfl (Sl.bs s_x3 hq) k rfl hkx) rfl <| Qw.val (fun w1 hq => (Ex.ldT (ag_3 _) rfl (Sl.bs s_x3 hq) hkx).as (congrArg (Value.int .i64) gk)) rfl <| Qw.val (fun w1 hq => Ex.ldB (ag_25 _) rfl (Blk.bs (by assumption) hq) rfl) rfl ?_
  refine Qw.val (fun w1 hq => Ex.move rfl) rfl <| Qw.val (fun w1 hq => Ex.idx st_25 rfl rfl (Sl.bs h3.1 hq) n rfl hn') rfl <| Qw.val (fun w1 hq => Ex.fieldAddrE Tryz.underlying29 rfl (sz_26 _) rfl hvs) rfl <| Qw.val (fun w1 hq => Ex.ld (ag_26 _) rfl (Sl.bs h3.1 hq) k1) rfl <| Qw.val (fun w1 hq => Ex.ldB (ag_3 _) rfl (Blk.bs (by assumption) hq) rfl) rfl ?_
  refine Qw.val (fun w1 hq => Ex.idxT st_26 rfl rfl (Sl.bs h_t13 hq) k rfl kt) rfl <| Qw.val (fun w1 hq => Ex.ldT (ag_3 _) rfl (Sl.bs h_t13 hq) kt) rfl <| Qw.val (fun w1 hq => Ex.subI rfl rfl (by omega)) rfl <| Qw.val (fun w1 hq => Ex.idxT st_26 rfl rfl (Sl.bs s_x3 hq) k rfl hkx) rfl ?_
  refine Qw.done (fun w4 hq => ?_)
  have hB4 := bt hB3 hq
  have hx4 := own_bs hx3 hq
  refine Lw.unit (Xu.stO (sz_3 _) rfl rfl rfl hx4 (by rw [List.length_map]; exact hkx)) ?_
  rintro w5 ⟨hx5, hg, -⟩
  rw [← List.map_set, List.set_set] at hx5
  have hB5 := hB4.grown hg (below_size hB4) (fun b e => (own_block hx4 b e).1)
  have ev : jv k (t :: ts.drop (n + 1)) (p.set k c) = jv k (ts.drop (n + 1)) (p.set k (c - t.s.getD k default)) := by
   rw [jv, gk, if_neg (by omega), List.set_set]
  refine Lw.nil <| Pw.thenN <| Cw.out <| Cw.region <| Lw.val (Ex.move rfl) rfl <| Lw.val (Ex.addI rfl rfl (by omega)) rfl <| Lw.val (Ex.assign rfl) rfl <| Lw.nil <| Pw.blkN ?_
  exact Pw.thenN (Pw.next ((n + 1, c - t.s.getD k default)) ⟨rfl, rfl, rfl, rfl, trivial⟩ (⟨hn', ⟨by show 0 ≤ c - t.s.getD k default; omega, by show c - t.s.getD k default < jsum k (ts.drop (n + 1)); omega, by show c - t.s.getD k default ≤ 1000; omega⟩, by rw [hv, ev], hB5, hx5⟩) (by simp only; omega))
 intro g
 have g := of_decide_eq_false g
 have ev : jv k (t :: ts.drop (n + 1)) (p.set k c) = tatV t.s t.l (p.set k c) := by rw [jv, gk, if_pos (by omega)]
 refine Cw.exit <| Pw.thenE <| Pw.thenE <| Pw.blkHit <| Pw.thenN <| Cw.out <| Cw.seq <| Cw.region <| Lw.val (Ex.ldB (ag_25 _) rfl (by assumption) rfl) rfl ?_
 refine Lw.val (Ex.move rfl) rfl <| Lw.val (Ex.idx st_25 rfl rfl h3.1 n rfl hn') rfl <| Lw.val (Ex.ldE (cs := [t.x, t.y]) (ag_29 _) (sz_29 _) rfl h3.1 rfl (by decide) (two_cells k1 k2)) rfl <| Lw.val (Ex.move rfl) rfl <| Lw.callF rfl rfl (tat_c t x (p.set k c) _ h_t3 s_x3) ?_
 rintro _ w4 ⟨rfl, hn4⟩
 refine Lw.val (Ex.move rfl) rfl <| Lw.val (Ex.extract (i := 0) rfl rfl) rfl <| Lw.val (Ex.extract (i := 1) rfl rfl) rfl <| Lw.val (Ex.assign rfl) rfl <| Lw.val (Ex.assign rfl) rfl <| Lw.nil <| Pw.thenN <| Cw.out <| Cw.seq <| Cw.region <| Lw.val (Ex.move rfl) rfl <| Lw.val (Ex.assign rfl) rfl <| Lw.nil <| Pw.thenN <| Cw.out <| Cw.ret <| Pw.ret1 rfl rfl ?_
 exact ⟨by rw [hv, ev], bt hB3 hn4⟩
theorem jnE_bad {ts : List T4} {al : Int} (h : jnA ts al = true) : jnE ts al = 1 := by unfold jnE; rw [if_pos h]
theorem jnE_ten {ts : List T4} {al : Int} (h : jnA ts al = false) (g : ((ts.all fun t => alk t.s (s0T ts) al.toNat) && Shapes.ok (jnS ts al.toNat)) = false) : jnE ts al = 10 := by unfold jnE; rw [h, if_neg (by decide), g, if_neg (by decide)]
theorem s0T_at {ts : List T4} {t : T4} (h : 0 < ts.length) (e : t = ts[0]) : s0T ts = t.s := by
 match ts, h, e with
 | a :: _, _, e => rw [e]; rfl
theorem badT_at {ts : List T4} (h : badT ts = false) {t : T4} (ht : t ∈ ts) : tok t.s t.l = true := by
 cases hk : tok t.s t.l with
 | true => rfl
 | false =>
  have : badT ts = true := List.any_eq_true.2 ⟨t, ht, by rw [hk]; rfl⟩
  rw [this] at h; cases h
theorem jsum_le {k : Nat} : ∀ {ts : List T4}, (∀ t ∈ ts, 0 ≤ t.s.getD k default ∧ t.s.getD k default ≤ 64) → 0 ≤ jsum k ts ∧ jsum k ts ≤ 64 * ts.length
 | [], _ => by simp [jsum]
 | t :: ts, h => by
  have h1 := h t (by simp)
  have h2 := jsum_le (ts := ts) fun u hu => h u (by simp [hu])
  simp only [jsum, List.length_cons]
  omega
theorem set_set_id {s : List Int} {k : Nat} (h : k < s.length) (c : Int) : (s.set k c).getD k default = c := by simp [h]
set_option maxHeartbeats 1000000 in
theorem mjoin_c (v : Value) (ts : List T4) (al : Int) (W : World) (h : Tens W v ts) :
  Fnc Tryz.prog 91 [v, .int .i64 al] W (fun r w' => Below W.heap.size W w' ∧ AnsK W w' r (jnE ts al) (jnS ts al.toNat) (jnL ts al.toNat)) := by
 have hB := Below.refl W.heap.size W
 have hvo := h.1.one
 have hv := h.1
 refine Fnc.enter (n := 77) Tryz.func91 (by kernel_rfl) rfl rfl rfl <| Cw.seq <| Cw.region <| Lw.boxV (cs := [v]) rfl hvo rfl ?_
 rintro A_l w eA_l b_l hn -
 replace hB := hB.bs hn
 replace h := h.bs hn
 replace hv := hv.bs hn
 clear hn
 refine Lw.boxV (cs := [.int .i64 al]) rfl rfl rfl ?_
 rintro A_k w eA_k b_k hn -
 replace hB := hB.bs hn
 replace h := h.bs hn
 replace hv := hv.bs hn
 replace b_l := b_l.bs hn
 clear hn
 have z0 := below_size hB
 refine Lw.newA it_29 rfl ?_
 rintro A_r w eA_r b_r hn -
 replace hB := hB.bs hn
 replace h := h.bs hn
 replace hv := hv.bs hn
 replace b_l := b_l.bs hn
 replace b_k := b_k.bs hn
 clear hn
 refine Lw.val (Ex.assign rfl) rfl <| Lw.nil <| Pw.thenN <| Cw.out <| Cw.seq <| Cw.seq ?_
 have z_r := blk_lt b_r
 refine Cw.quiet mixed (by kernel_rfl) <| Qw.val (fun w1 hq => Ex.ldB (ag_25 _) rfl (Blk.bs (by assumption) hq) rfl) rfl ?_
 refine Qw.val (fun w1 hq => Ex.lenS st_25 rfl (Sl.bs (by assumption) hq)) rfl ?_
 refine Qw.val (fun w1 hq => Ex.lss rfl rfl) rfl <| Qw.val (fun w1 hq => Ex.move rfl) rfl ?_
 refine Qw.part 12 rfl ?_ ?_
 ·intro g
  have g' : ts.length < 1 := by have := of_decide_eq_true g; omega
  refine Qw.pass (dj := 12) rfl rfl rfl rfl <| Qw.pass (dj := 12) rfl rfl rfl rfl <| Qw.pass (dj := 12) rfl rfl rfl rfl <| Qw.val (fun w1 hq => Ex.pickT rfl rfl) rfl <| Qw.val (fun w1 hq => Ex.move rfl) rfl <| Qw.pass (dj := 17) rfl rfl rfl rfl <| Qw.pass (dj := 17) rfl rfl rfl rfl <| Qw.val (fun w1 hq => Ex.pickT rfl rfl) rfl <| Qw.val (fun w1 hq => Ex.move rfl) rfl <| Qw.pass (dj := 21) rfl rfl rfl rfl <| Qw.pass (dj := 21) rfl rfl rfl rfl <| Qw.val (fun w1 hq => Ex.pickT rfl rfl) rfl <| Qw.val (fun w1 hq => Ex.move rfl) rfl <| Qw.pass (dj := 25) rfl rfl rfl rfl <| Qw.pass (dj := 25) rfl rfl rfl rfl <| Qw.pass (dj := 25) rfl rfl rfl rfl <| Qw.pass (dj := 25) rfl rfl rfl rfl <| Qw.pass (dj := 25) rfl rfl rfl rfl <| Qw.pass (dj := 25) rfl rfl rfl rfl <| Qw.pass (dj := 25) rfl rfl rfl rfl <| Qw.val (fun w1 hq => Ex.pickT rfl rfl) rfl ?_
  refine Qw.nil (fun w1 hq => ?_)
  refine Pw.thenN <| Cw.out <| Cw.condT rfl <| Cw.seq <| Cw.region <| Lw.val (Ex.build (vs := []) (cs := [.slice none 0 0, .slice none 0 0]) rfl (by kernel_rfl)) rfl ?_
  have b_r := b_r.bs hq
  have hB := bt hB hq
  refine Lw.unit (Xu.stA (cs := [.slice none 0 0, .slice none 0 0]) rfl rfl rfl rfl rfl b_r rfl) ?_
  rintro w3 ⟨b_r, hg, -⟩
  have hB := hB.grown hg (below_size hB) (by rintro _ ⟨⟩; omega)
  refine Lw.val (Ex.assign rfl) rfl <| Lw.nil <| Pw.thenN <| Cw.out <| Cw.ret <| Pw.thenR <| Pw.retCT rfl rfl rfl (by assumption) (Tryz.underlying29) rfl rfl rfl ?_
  rw [jnE_bad (by unfold jnA; rw [decide_eq_true g']; rfl)]
  exact ⟨hB, ansK_no (by decide)⟩
 intro g1
 have g1 : ¬ ts.length < 1 := by have := of_decide_eq_false g1; omega
 refine Qw.take (dj := 12) rfl rfl <| Qw.val (fun w1 hq => Ex.ldB (ag_25 _) rfl (Blk.bs (by assumption) hq) rfl) rfl ?_
 refine Qw.take (dj := 12) rfl rfl <| Qw.val (fun w1 hq => Ex.lenS st_25 rfl (Sl.bs (by assumption) hq)) rfl ?_
 refine Qw.take (dj := 12) rfl rfl <| Qw.val (fun w1 hq => Ex.gtr rfl rfl) rfl <| Qw.val (fun w1 hq => Ex.pickF rfl rfl) rfl <| Qw.val (fun w1 hq => Ex.move rfl) rfl ?_
 refine Qw.part 17 rfl ?_ ?_
 ·intro g
  have g' : 4 < ts.length := by have := of_decide_eq_true g; omega
  refine Qw.pass (dj := 17) rfl rfl rfl rfl <| Qw.pass (dj := 17) rfl rfl rfl rfl <| Qw.val (fun w1 hq => Ex.pickT rfl rfl) rfl <| Qw.val (fun w1 hq => Ex.move rfl) rfl <| Qw.pass (dj := 21) rfl rfl rfl rfl <| Qw.pass (dj := 21) rfl rfl rfl rfl <| Qw.val (fun w1 hq => Ex.pickT rfl rfl) rfl <| Qw.val (fun w1 hq => Ex.move rfl) rfl <| Qw.pass (dj := 25) rfl rfl rfl rfl <| Qw.pass (dj := 25) rfl rfl rfl rfl <| Qw.pass (dj := 25) rfl rfl rfl rfl <| Qw.pass (dj := 25) rfl rfl rfl rfl <| Qw.pass (dj := 25) rfl rfl rfl rfl <| Qw.pass (dj := 25) rfl rfl rfl rfl <| Qw.pass (dj := 25) rfl rfl rfl rfl <| Qw.val (fun w1 hq => Ex.pickT rfl rfl) rfl ?_
  refine Qw.nil (fun w1 hq => ?_)
  refine Pw.thenN <| Cw.out <| Cw.condT rfl <| Cw.seq <| Cw.region <| Lw.val (Ex.build (vs := []) (cs := [.slice none 0 0, .slice none 0 0]) rfl (by kernel_rfl)) rfl ?_
  have b_r := b_r.bs hq
  have hB := bt hB hq
  refine Lw.unit (Xu.stA (cs := [.slice none 0 0, .slice none 0 0]) rfl rfl rfl rfl rfl b_r rfl) ?_
  rintro w3 ⟨b_r, hg, -⟩
  have hB := hB.grown hg (below_size hB) (by rintro _ ⟨⟩; omega)
  refine Lw.val (Ex.assign rfl) rfl <| Lw.nil <| Pw.thenN <| Cw.out <| Cw.ret <| Pw.thenR <| Pw.retCT rfl rfl rfl (by assumption) (Tryz.underlying29) rfl rfl rfl ?_
  rw [jnE_bad (by unfold jnA; rw [decide_eq_true g', Bool.or_true]; rfl)]
  exact ⟨hB, ansK_no (by decide)⟩
 intro g2
 have g2 : ¬ 4 < ts.length := by have := of_decide_eq_false g2; omega
 refine Qw.take (dj := 17) rfl rfl <| Qw.val (fun w1 hq => Ex.ldB (ag_25 _) rfl (Blk.bs (by assumption) hq) rfl) rfl ?_
 refine Qw.take (dj := 17) rfl rfl <| Qw.callF rfl rfl (fun w1 hq => (tBad_c v ts w1 (h.bs hq) (by omega)).q hq) <| Qw.val (fun w1 hq => Ex.pickF rfl rfl) rfl <| Qw.val (fun w1 hq => Ex.move rfl) rfl ?_
 refine Qw.part 21 rfl ?_ ?_
 ·intro g
  refine Qw.pass (dj := 21) rfl rfl rfl rfl <| Qw.pass (dj := 21) rfl rfl rfl rfl <| Qw.val (fun w1 hq => Ex.pickT rfl rfl) rfl <| Qw.val (fun w1 hq => Ex.move rfl) rfl <| Qw.pass (dj := 25) rfl rfl rfl rfl <| Qw.pass (dj := 25) rfl rfl rfl rfl <| Qw.pass (dj := 25) rfl rfl rfl rfl <| Qw.pass (dj := 25) rfl rfl rfl rfl <| Qw.pass (dj := 25) rfl rfl rfl rfl <| Qw.pass (dj := 25) rfl rfl rfl rfl <| Qw.pass (dj := 25) rfl rfl rfl rfl <| Qw.val (fun w1 hq => Ex.pickT rfl rfl) rfl ?_
  refine Qw.nil (fun w1 hq => ?_)
  refine Pw.thenN <| Cw.out <| Cw.condT rfl <| Cw.seq <| Cw.region <| Lw.val (Ex.build (vs := []) (cs := [.slice none 0 0, .slice none 0 0]) rfl (by kernel_rfl)) rfl ?_
  have b_r := b_r.bs hq
  have hB := bt hB hq
  refine Lw.unit (Xu.stA (cs := [.slice none 0 0, .slice none 0 0]) rfl rfl rfl rfl rfl b_r rfl) ?_
  rintro w3 ⟨b_r, hg, -⟩
  have hB := hB.grown hg (below_size hB) (by rintro _ ⟨⟩; omega)
  refine Lw.val (Ex.assign rfl) rfl <| Lw.nil <| Pw.thenN <| Cw.out <| Cw.ret <| Pw.thenR <| Pw.retCT rfl rfl rfl (by assumption) (Tryz.underlying29) rfl rfl rfl ?_
  rw [jnE_bad (by unfold jnA; rw [g, Bool.or_true]; rfl)]
  exact ⟨hB, ansK_no (by decide)⟩
 intro g3
 refine Qw.take (dj := 21) rfl rfl <| Qw.val (fun w1 hq => Ex.ldB (ag_3 _) rfl (Blk.bs (by assumption) hq) rfl) rfl ?_
 refine Qw.take (dj := 21) rfl rfl <| Qw.val (fun w1 hq => Ex.lss rfl rfl) rfl <| Qw.val (fun w1 hq => Ex.pickF rfl rfl) rfl <| Qw.val (fun w1 hq => Ex.move rfl) rfl ?_
 refine Qw.part 25 rfl ?_ ?_
 ·intro g
  have g' : al < 0 := of_decide_eq_true g
  refine Qw.pass (dj := 25) rfl rfl rfl rfl <| Qw.pass (dj := 25) rfl rfl rfl rfl <| Qw.pass (dj := 25) rfl rfl rfl rfl <| Qw.pass (dj := 25) rfl rfl rfl rfl <| Qw.pass (dj := 25) rfl rfl rfl rfl <| Qw.pass (dj := 25) rfl rfl rfl rfl <| Qw.pass (dj := 25) rfl rfl rfl rfl <| Qw.val (fun w1 hq => Ex.pickT rfl rfl) rfl ?_
  refine Qw.nil (fun w1 hq => ?_)
  refine Pw.thenN <| Cw.out <| Cw.condT rfl <| Cw.seq <| Cw.region <| Lw.val (Ex.build (vs := []) (cs := [.slice none 0 0, .slice none 0 0]) rfl (by kernel_rfl)) rfl ?_
  have b_r := b_r.bs hq
  have hB := bt hB hq
  refine Lw.unit (Xu.stA (cs := [.slice none 0 0, .slice none 0 0]) rfl rfl rfl rfl rfl b_r rfl) ?_
  rintro w3 ⟨b_r, hg, -⟩
  have hB := hB.grown hg (below_size hB) (by rintro _ ⟨⟩; omega)
  refine Lw.val (Ex.assign rfl) rfl <| Lw.nil <| Pw.thenN <| Cw.out <| Cw.ret <| Pw.thenR <| Pw.retCT rfl rfl rfl (by assumption) (Tryz.underlying29) rfl rfl rfl ?_
  rw [jnE_bad (by unfold jnA; rw [decide_eq_true g', Bool.or_true]; rfl)]
  exact ⟨hB, ansK_no (by decide)⟩
 intro g4
 have g4 : ¬ al < 0 := of_decide_eq_false g4
 have hpos : 0 < ts.length := by omega
 obtain ⟨t0, e0, m0, c1, c2⟩ := tens_at hpos
 have h_00 := h.2 t0 m0
 have h_01 := h_00.1
 have es0 := s0T_at hpos e0
 have hvs := h.slice hpos
 refine Qw.take (dj := 25) rfl rfl <| Qw.val (fun w1 hq => Ex.ldB (ag_3 _) rfl (Blk.bs (by assumption) hq) rfl) rfl ?_
 refine Qw.take (dj := 25) rfl rfl <| Qw.val (fun w1 hq => Ex.ldB (ag_25 _) rfl (Blk.bs (by assumption) hq) rfl) rfl ?_
 refine Qw.take (dj := 25) rfl rfl <| Qw.val (fun w1 hq => Ex.idx st_25 rfl rfl (Sl.bs hv hq) 0 rfl hpos) rfl <| Qw.take (dj := 25) rfl rfl <| Qw.val (fun w1 hq => Ex.fieldAddrE Tryz.underlying29 rfl (sz_26 _) rfl hvs) rfl <| Qw.take (dj := 25) rfl rfl <| Qw.val (fun w1 hq => Ex.ld (ag_26 _) rfl (Sl.bs hv hq) c1) rfl <| Qw.take (dj := 25) rfl rfl <| Qw.val (fun w1 hq => Ex.lenS st_26 rfl (Sl.bs (by assumption) hq)) rfl ?_
 refine Qw.take (dj := 25) rfl rfl <| Qw.val (fun w1 hq => Ex.geq rfl rfl) rfl <| Qw.val (fun w1 hq => Ex.pickF rfl rfl) rfl ?_
 refine Qw.nil (fun w1 hq => ?_)
 refine Pw.thenN <| Cw.out <| Cw.cond rfl ?_ ?_
 ·intro g
  have g' : ((s0T ts).length : Int) ≤ al := by rw [es0]; exact of_decide_eq_true g
  refine Cw.seq <| Cw.region <| Lw.val (Ex.build (vs := []) (cs := [.slice none 0 0, .slice none 0 0]) rfl (by kernel_rfl)) rfl ?_
  have b_r := b_r.bs hq
  have hB := bt hB hq
  refine Lw.unit (Xu.stA (cs := [.slice none 0 0, .slice none 0 0]) rfl rfl rfl rfl rfl b_r rfl) ?_
  rintro w3 ⟨b_r, hg, -⟩
  have hB := hB.grown hg (below_size hB) (by rintro _ ⟨⟩; omega)
  refine Lw.val (Ex.assign rfl) rfl <| Lw.nil <| Pw.thenN <| Cw.out <| Cw.ret <| Pw.thenR <| Pw.retCT rfl rfl rfl (by assumption) (Tryz.underlying29) rfl rfl rfl ?_
  rw [jnE_bad (by unfold jnA; rw [decide_eq_true g', Bool.or_true])]
  exact ⟨hB, ansK_no (by decide)⟩
 intro g5
 have g5 := of_decide_eq_false g5
 have hA : jnA ts al = false := by
  unfold jnA
  rw [decide_eq_false g1, decide_eq_false g2, g3, decide_eq_false g4, es0, decide_eq_false (by omega)]; rfl
 obtain ⟨k, rfl⟩ : ∃ k : Nat, al = (k : Int) := ⟨al.toNat, by omega⟩
 have hk : k < t0.s.length := by omega
 have ok0 := (tok_ok (badT_at g3 m0)).1
 have S0 := (Shapes.ok_iff t0.s).1 ok0
 replace hB := hB.bs hq
 replace h := h.bs hq
 replace hv := hv.bs hq
 replace b_l := b_l.bs hq
 replace b_k := b_k.bs hq
 replace b_r := b_r.bs hq
 replace h_01 := h_01.bs hq
 clear hq h_00
 refine Cw.skip <| Pw.thenN <| Cw.out <| Cw.seq <| Cw.region <| Lw.val (Ex.ldB (ag_25 _) rfl (by assumption) rfl) rfl ?_
 refine Lw.val (Ex.idx st_25 rfl rfl hv 0 rfl hpos) rfl <| Lw.val (Ex.fieldAddrE Tryz.underlying29 rfl (sz_26 _) rfl hvs) rfl <| Lw.val (Ex.ld (ag_26 _) rfl hv c1) rfl ?_
 obtain ⟨B, hBB⟩ : ∃ B, B = w1.heap.size := ⟨_, rfl⟩
 have y_l : A_l < B := hBB ▸ blk_lt b_l
 have y_k : A_k < B := hBB ▸ blk_lt b_k
 have y_r : A_r < B := hBB ▸ blk_lt b_r
 have y_B := below_size hB
 have p_h := h
 have b_l0 := b_l
 have b_k0 := b_k
 have b_r0 := b_r
 have hB0 := hB
 refine Lw.callF rfl rfl (clone_c t0.x t0.s w1 h_01 (by omega)) ?_
 rintro x w2 ⟨hx, hn⟩
 rw [← hBB] at hx
 have zn := hn.size
 replace hB := hB.bs hn
 replace h := h.bs hn
 replace hv := hv.bs hn
 replace b_l := b_l.bs hn
 replace b_k := b_k.bs hn
 replace b_r := b_r.bs hn
 replace h_01 := h_01.bs hn
 have hK := hBB ▸ hn
 clear hn
 have s_x := own_slT hx
 refine Lw.val (Ex.assign rfl) rfl <| Lw.nil <| Pw.thenN <| Cw.out <| Cw.seq <| Cw.region <| Lw.val (Ex.move rfl) rfl <| Lw.val (Ex.ldB (ag_3 _) rfl (by assumption) rfl) rfl ?_
 refine Lw.val (Ex.idxT st_26 rfl rfl s_x k rfl hk) rfl <| Lw.unit (Xu.stO (sz_3 _) rfl rfl rfl hx (by rw [List.length_map]; exact hk)) ?_
 rintro w3 ⟨hx3, hg, -⟩
 rw [← List.map_set] at hx3
 have hK3 : Below B w1 w3 := Below.grown hK hg (by omega) (fun b e => (own_block hx b e).1)
 clear s_x hx hg
 clear hv
 have gd : ∀ t ∈ ts, 0 ≤ t.s.getD k default ∧ t.s.getD k default ≤ 64 := fun t ht => by
  have S := (Shapes.ok_iff t.s).1 (tok_ok (badT_at g3 ht)).1
  rcases Nat.lt_or_ge k t.s.length with h | h
  ·have := dim_at S.2.1 h; omega
  ·rw [List.getD_eq_getElem?_getD, List.getElem?_eq_none h]; decide
 have h3 := p_h.stay p_h (Nat.le_of_eq hBB.symm) hK3
 have hv3 := h3.1
 have b_l3 := b_l0.bl hK3 y_l
 have b_k3 := b_k0.bl hK3 y_k
 clear b_l b_k b_r hB h_01 h
 refine Lw.nil <| Pw.thenN <| Cw.out <| Cw.seq <| Cw.seq <| Cw.region <| Lw.val (Ex.ldB (ag_25 _) rfl (by assumption) rfl) rfl ?_
 refine Lw.val (Ex.lenS st_25 rfl (by assumption)) rfl ?_
 refine Lw.val (Ex.move rfl) rfl <| Lw.nil <| Pw.thenN <| Cw.out <| Cw.block ?_
 refine Cw.loop (S := Nat) (fun i => [(2, .pointer (some ⟨A_l, 0, none⟩)), (3, .pointer (some ⟨A_k, 0, none⟩)), (4, .pointer (some ⟨A_r, 0, none⟩)), (6, x), (43, v), (44, .int .i64 (ts.length : Int)), (45, .int .i64 (i : Int))]) (fun i w' => i ≤ ts.length ∧ (∀ t ∈ ts.take i, alk t.s t0.s k = true) ∧ Below B w1 w' ∧ w'.ownsRow B 3 1 x t0.s.length ((t0.s.set k (jsum k (ts.take i))).map (Value.int .i64))) (fun i => ts.length - i) (0) ⟨rfl, rfl, rfl, rfl, rfl, rfl, rfl, trivial⟩ ?_ ?_
 ·exact ⟨Nat.zero_le _, fun t ht => by simp at ht, hK3, hx3⟩
 clear hx3 hK3 b_l3 b_k3 hv3 h3
 rintro i w4 ⟨hi, hC, hK, hx⟩
 have hK4 := hK
 have zK := hK.size
 have h4 := p_h.stay p_h (Nat.le_of_eq hBB.symm) hK
 have b_k := b_k0.bl hK y_k
 have b_l := b_l0.bl hK y_l
 have b_r := b_r0.bl hK y_r
 have hB := hB0.trans (hK.mono (by omega))
 obtain ⟨s', hs'⟩ : ∃ s', s' = t0.s.set k (jsum k (ts.take i)) := ⟨_, rfl⟩
 have ls' : s'.length = t0.s.length := by rw [hs']; exact List.length_set
 rw [← hs', ← ls'] at hx
 have gk : s'.getD k default = jsum k (ts.take i) := by rw [hs']; exact set_set_id hk _
 have hks : k < s'.length := by omega
 refine Cw.seq <| Cw.region <| Lw.val (Ex.lss rfl rfl) rfl <| Lw.nil <| Pw.thenN <| Cw.out <| Cw.seq <| Cw.cond rfl ?_ ?_
 ·intro g
  have hi' : i < ts.length := by have := of_decide_eq_true g; omega
  obtain ⟨t, et, mt, k1, k2⟩ := tens_at hi'
  have h_t := h4.2 t mt
  have e1 : ts.take (i + 1) = ts.take i ++ [t] := by rw [List.take_succ_eq_append_getElem hi', ← et]
  have gt := gd t mt
  have js : jsum k (ts.take (i + 1)) = jsum k (ts.take i) + t.s.getD k default := by rw [e1, jsum_append]; simp [jsum]
  have jl := jsum_le (k := k) (ts := ts.take i) fun u hu => gd u (List.mem_of_mem_take hu)
  rw [List.length_take] at jl
  refine Cw.skip <| Pw.thenN <| Cw.out <| Cw.seq <| Cw.block <| Cw.seq <| Cw.region <| Lw.val (Ex.idx st_25 rfl rfl h4.1 i rfl hi') rfl <| Lw.val (Ex.ldE (cs := [t.x, t.y]) (ag_29 _) (sz_29 _) rfl h4.1 rfl (by decide) (two_cells k1 k2)) rfl <| Lw.boxed (cs := [t.x, t.y]) it_29 rfl rfl rfl rfl (fun _ => rfl) (h_t.one) ?_
  rintro A_x w5 eA_x b_x hn5 zhn5
  have h_t1 := (h_t.bs hn5).1
  have b_k := b_k.bs hn5
  have b_r := b_r.bs hn5
  have hx := own_bs hx hn5
  have hK := hK.trans (hn5.mono (by omega))
  have zK := hK.size
  have hB := bt hB hn5
  have s_x := own_slT hx
  refine Lw.nil <| Pw.thenN <| Cw.out <| Cw.seq <| Cw.seq <| Cw.region <| Lw.val (Ex.fieldAddr (q := 0) Tryz.underlying29 rfl (sz_26 _) rfl) rfl <| Lw.val (Ex.ldB (ag_26 _) rfl (by assumption) rfl) rfl ?_
  refine Lw.val (Ex.move rfl) rfl <| Lw.val (Ex.ldB (ag_3 _) rfl (by assumption) rfl) rfl ?_
  refine Lw.callF rfl rfl (alike_c t.x x t.s s' k w5 h_t1 s_x hks) ?_
  rintro _ w6 ⟨rfl, hn6⟩
  have h_t1 := h_t1.bs hn6
  have b_x := b_x.bs hn6
  have b_k := b_k.bs hn6
  have b_r := b_r.bs hn6
  have hx := own_bs hx hn6
  have hK := hK.trans (hn6.mono (by omega))
  have zK := hK.size
  have hB := bt hB hn6
  have s_x := own_slT hx
  refine Lw.val (Ex.not rfl) rfl <| Lw.nil <| Pw.thenN <| Cw.out <| Cw.cond rfl ?_ ?_
  ·intro g2
   have g2 : alk t.s t0.s k = false := by rw [hs', alk_set] at g2; simpa using g2
   refine Cw.seq <| Cw.region <| Lw.val (Ex.build (vs := []) (cs := [.slice none 0 0, .slice none 0 0]) rfl (by kernel_rfl)) rfl <| Lw.unit (Xu.stA (cs := [.slice none 0 0, .slice none 0 0]) rfl rfl rfl rfl rfl b_r rfl) ?_
   rintro w3 ⟨b_r, hg, -⟩
   have hB := hB.grown hg (below_size hB) (by rintro _ ⟨⟩; omega)
   refine Lw.val (Ex.assign rfl) rfl <| Lw.nil <| Pw.thenN <| Cw.out <| Cw.ret <| Pw.thenR <| Pw.blkR <| Pw.thenR <| Pw.thenR <| Pw.blkR <| Pw.thenR <| Pw.retCT rfl rfl rfl (by assumption) (Tryz.underlying29) rfl rfl rfl ?_
   rw [jnE_ten hA (by rw [es0, show (ts.all fun t => alk t.s t0.s ((k : Int)).toNat) = false from List.all_eq_false.2 ⟨t, mt, by rw [Int.toNat_natCast, g2]; decide⟩]; rfl)]
   exact ⟨hB, ansK_no (by decide)⟩
  intro g2
  have g2 : alk t.s t0.s k = true := by rw [hs', alk_set] at g2; simpa using g2
  have lk : t.s.length = t0.s.length := by
   unfold alk at g2
   simp only [Bool.and_eq_true, decide_eq_true_eq] at g2
   exact g2.1.1
  have hkt : k < t.s.length := by omega
  refine Cw.skip <| Pw.thenN <| Cw.out <| Cw.tail 11 mixed (by kernel_rfl) <| Qw.val (fun w1 hq => Ex.move rfl) rfl <| Qw.val (fun w1 hq => Ex.ldB (ag_3 _) rfl (Blk.bs (by assumption) hq) rfl) rfl ?_
  refine Qw.val (fun w1 hq => Ex.idxT st_26 rfl rfl (Sl.bs s_x hq) k rfl hks) rfl <| Qw.val (fun w1 hq => (Ex.ldT (ag_3 _) rfl (Sl.bs s_x hq) hks).as (congrArg (Value.int .i64) gk)) rfl <| Qw.val (fun w1 hq => Ex.fieldAddr (q := 0) Tryz.underlying29 rfl (sz_26 _) rfl) rfl <| Qw.val (fun w1 hq => Ex.ldB (ag_26 _) rfl (Blk.bs (by assumption) hq) rfl) rfl ?_
  refine Qw.val (fun w1 hq => Ex.ldB (ag_3 _) rfl (Blk.bs (by assumption) hq) rfl) rfl ?_
  refine Qw.val (fun w1 hq => Ex.idxT st_26 rfl rfl (Sl.bs h_t1 hq) k rfl hkt) rfl <| Qw.val (fun w1 hq => Ex.ldT (ag_3 _) rfl (Sl.bs h_t1 hq) hkt) rfl <| Qw.val (fun w1 hq => Ex.addI rfl rfl (by omega)) rfl <| Qw.val (fun w1 hq => Ex.idxT st_26 rfl rfl (Sl.bs s_x hq) k rfl hks) rfl ?_
  refine Qw.done (fun w7 hq => ?_)
  have hx := own_bs hx hq
  have hK := hK.trans (hq.mono (by omega))
  have zK := hK.size
  clear hq
  refine Lw.unit (Xu.stO (sz_3 _) rfl rfl rfl hx (by rw [List.length_map]; exact hks)) ?_
  rintro w8 ⟨hx8, hg, -⟩
  rw [← List.map_set, hs', List.set_set, ← js, ← hs', ls'] at hx8
  have hC' : ∀ u ∈ ts.take (i + 1), alk u.s t0.s k = true := fun u hu => by
   rw [e1] at hu
   rcases List.mem_append.1 hu with h | h
   ·exact hC u h
   ·rw [List.mem_singleton.1 h]; exact g2
  have hK8 : Below B w1 w8 := Below.grown hK hg (by omega) (fun b e => (own_block hx b e).1)
  refine Lw.nil <| Pw.blkN <| Pw.thenN <| Cw.out <| Cw.region <| Lw.val (Ex.addI rfl rfl (by omega)) rfl <| Lw.val (Ex.move rfl) rfl <| Lw.nil ?_
  exact Pw.thenN (Pw.next (i + 1) ⟨rfl, rfl, rfl, rfl, rfl, rfl, rfl, trivial⟩ (⟨hi', hC', hK8, hx8⟩) (by omega))
 intro g
 have hi' : i = ts.length := by have := of_decide_eq_false g; omega
 subst hi'
 rw [List.take_length] at hC hs' gk
 have eS : s' = jnS ts k := by rw [hs']; unfold jnS; rw [es0]
 have hAll : (ts.all fun t => alk t.s (s0T ts) k) = true := List.all_eq_true.2 fun t ht => by rw [es0]; exact hC t ht
 have hT : ∀ t ∈ ts, k < t.s.length ∧ Shapes.ok t.s = true := fun t ht => ⟨by
  have g2 := hC t ht
  unfold alk at g2
  simp only [Bool.and_eq_true, decide_eq_true_eq] at g2
  have := g2.1.1
  omega, (tok_ok (badT_at g3 ht)).1⟩
 have jl := jsum_le (k := k) (ts := ts) gd
 have s_x := own_slT hx
 refine Cw.exit <| Pw.thenE <| Pw.thenE <| Pw.blkHit <| Pw.thenN <| Cw.out <| Cw.seq <| Cw.seq <| Cw.region <| Lw.val (Ex.move rfl) rfl <| Lw.callF rfl rfl (check_c x s' w4 s_x) ?_
 rintro _ w6 ⟨rfl, hn6⟩
 have h6 := h4.bs hn6
 have b_k := b_k.bs hn6
 have b_l := b_l.bs hn6
 have b_r := b_r.bs hn6
 have hx := own_bs hx hn6
 have hK := hK.trans (hn6.mono (by omega))
 have zK := hK.size
 have hB := bt hB hn6
 have s_x := own_slT hx
 refine Lw.val (Ex.not rfl) rfl <| Lw.nil <| Pw.thenN <| Cw.out <| Cw.cond rfl ?_ ?_
 ·intro g2
  have g2 : Shapes.ok s' = false := by simpa using g2
  refine Cw.seq <| Cw.region <| Lw.val (Ex.build (vs := []) (cs := [.slice none 0 0, .slice none 0 0]) rfl (by kernel_rfl)) rfl <| Lw.unit (Xu.stA (cs := [.slice none 0 0, .slice none 0 0]) rfl rfl rfl rfl rfl b_r rfl) ?_
  rintro w3 ⟨b_r, hg, -⟩
  have hB := hB.grown hg (below_size hB) (by rintro _ ⟨⟩; omega)
  refine Lw.val (Ex.assign rfl) rfl <| Lw.nil <| Pw.thenN <| Cw.out <| Cw.ret <| Pw.thenR <| Pw.retCT rfl rfl rfl (by assumption) (Tryz.underlying29) rfl rfl rfl ?_
  rw [jnE_ten hA (by rw [Int.toNat_natCast, ← eS, g2, Bool.and_false])]
  exact ⟨hB, ansK_no (by decide)⟩
 intro g2
 have okS : Shapes.ok s' = true := by simpa using g2
 have S := (Shapes.ok_iff s').1 okS
 have hE : jnE ts (k : Int) = 0 := by unfold jnE; rw [hA, Int.toNat_natCast, hAll, ← eS, okS]; rfl
 have eL : jnL ts k = (List.range (Shapes.size s').toNat).map fun i : Nat => jv k ts (Shapes.place s' (i : Int)) := by unfold jnL; rw [← eS]
 rw [hE, Int.toNat_natCast, eL, ← eS]
 refine Cw.skip <| Pw.thenN <| Cw.out <| Cw.seq <| Cw.region <| Lw.val (Ex.move rfl) rfl <| Lw.val (Ex.mkFn (vs := []) (us := [.pointer (some ⟨A_k, 0, none⟩), .pointer (some ⟨A_l, 0, none⟩)]) rfl rfl) rfl <| Lw.callF rfl rfl (filled_c x s' 121 [.pointer (some ⟨A_k, 0, none⟩), .pointer (some ⟨A_l, 0, none⟩)] (fun i => jv k ts (Shapes.place s' (i : Int))) _ s_x okS (fun i a w' hb _ ha => joinF_c A_k A_l k v ts (Shapes.place s' i) a w' (b_k.bs hb) (b_l.bs hb) (h6.bs hb) (by omega) hT (by rw [Shapes.place_length]; exact hks) (by rw [Shapes.place_length]; exact S.1.2) (gk ▸ Shapes.inn_at (Shapes.place_in (by omega) S.2.1) (k := k) hks) (by omega) ha)) ?_
 rintro _ w ⟨hn, x1, x2, rfl, hm⟩
 have hm := hm.k
 have zw6 := hn.size
 have b_r := b_r.bs hn
 have hB := bt hB hn
 have q_r : A_r < w6.heap.size := by omega
 refine Lw.val (Ex.extract (i := 0) rfl rfl) rfl <| Lw.val (Ex.extract (i := 1) rfl rfl) rfl <| Lw.unit (Xu.stA (cs := [x1, x2]) rfl rfl rfl rfl hm.at.one b_r rfl) ?_
 rintro w5 ⟨b_r5, hg, -⟩
 have hB5 := hB.grown hg (below_size hB) (by rintro _ ⟨⟩; omega)
 refine Lw.val (Ex.assign rfl) rfl <| Lw.nil <| Pw.thenN <| Cw.out <| Cw.ret <| Pw.retCT rfl rfl rfl (by assumption) (Tryz.underlying29) rfl rfl rfl ?_
 have zz := below_size hB
 exact ⟨hB5, x1, x2, rfl, fun h => absurd rfl h, fun _ => ⟨(bl_krow hm.row hg q_r).mono (by omega), (bl_krow hm.col hg q_r).mono (by omega), hm.apart⟩⟩
end Go.Proofs.YtmipoeanpnnjoaaGreat

/-! Contracts: numbers as bytes. -/
namespace Go.Proofs.YtmipoeanpnnjoaaGreat
open Go Go.Dd Go.RowKit
set_option maxRecDepth 100000

def gf (l : List (BitVec 8)) : BitVec 32 := le4 (l.getD 0 default) (l.getD 1 default) (l.getD 2 default) (l.getD 3 default)
theorem growIntS_c (k : Nat) (w : World) (hk : k ≤ 16777216) : Fnc Tryz.prog 129 [.slice none 0 0, .int .i64 (k : Int)] w (fun r w' => w'.ownsRow w.heap.size 3 1 r 0 [] ∧ Below w.heap.size w w') := by
 have hnil := Sl.nil w 1
 refine Fnc.enter (n := 27) Tryz.func129 (by kernel_rfl) rfl rfl rfl <| Cw.seq <| Cw.region <| Lw.val (Ex.assign rfl) rfl <| Lw.nil <| Pw.thenN <| Cw.out <| Cw.seq <| Cw.seq <| Cw.region <| Lw.val (Ex.move rfl) rfl <| Lw.val (Ex.lss rfl rfl) rfl <| Lw.nil <| Pw.thenN <| Cw.out <| Cw.condB rfl false (by simp) <| Cw.skip <| Pw.thenN <| Cw.out <| Cw.seq <| Cw.seq <| Cw.region <| Lw.val (Ex.move rfl) rfl <| Lw.val (Ex.move rfl) rfl <| Lw.val (Ex.capNil st_26 rfl) rfl <| Lw.val (Ex.move rfl) rfl <| Lw.val (Ex.lenS st_26 rfl (by assumption)) rfl ?_
 refine Lw.val (Ex.subI rfl rfl (by omega)) rfl <| Lw.val (Ex.subI rfl rfl (by omega)) rfl <| Lw.val (Ex.assign rfl) rfl <| Lw.nil <| Pw.thenN <| Cw.out <| Cw.seq <| Cw.region <| Lw.val (Ex.move rfl) rfl <| Lw.val (Ex.gtr rfl rfl) rfl <| Lw.nil <| Pw.thenN <| Cw.out <| Cw.cond rfl ?_ ?_
 ·intro g
  have g' : 0 < k := by have := of_decide_eq_true g; omega
  refine Cw.region <| Lw.val (Ex.move rfl) rfl <| Lw.val (Ex.move rfl) rfl <| Lw.val (Ex.capNil st_26 rfl) rfl <| Lw.val (Ex.as (u := .slice none 0 0) (Ex.cutH (j := 0) st_26 rfl rfl hnil (Nat.le_refl 0)) rfl) rfl <| Lw.val (Ex.as (u := .int .i64 (k : Int)) (Ex.move rfl) (congrArg (Value.int .i64) (by omega))) rfl <| Lw.valW (Xw.grow0 (tn := 3) (kn := .i64) st_26 it_3 rfl (by decide) un_3 rfl rfl g' (by omega) (by omega)) rfl ?_
  rintro v w1 ⟨cap, xs, rfl, ho, hn⟩
  have hnil := Sl.nil w1 1
  refine Lw.val (Ex.move rfl) rfl <| Lw.val (Ex.lenS st_26 rfl (by assumption)) rfl ?_
  refine Lw.val (Ex.extH (j := 0) st_26 rfl rfl (Nat.zero_le cap)) rfl <| Lw.val (Ex.assign rfl) rfl <| Lw.nil <| Pw.thenN <| Cw.out <| Cw.seq <| Cw.region <| Lw.val (Ex.move rfl) rfl <| Lw.val (Ex.assign rfl) rfl <| Lw.nil <| Pw.thenN <| Cw.out <| Cw.ret <| Pw.ret1 rfl rfl ?_
  exact ⟨own_short (k := 0) (m := k) (xs := []) (by simpa using ho) rfl, hn⟩
 ·intro g
  refine Cw.skip <| Pw.thenN <| Cw.out <| Cw.seq <| Cw.region <| Lw.val (Ex.move rfl) rfl <| Lw.val (Ex.assign rfl) rfl <| Lw.nil <| Pw.thenN <| Cw.out <| Cw.ret <| Pw.ret1 rfl rfl ?_
  exact ⟨⟨rfl, .inl ⟨rfl, rfl⟩⟩, Below.refl _ _⟩
theorem concatInt_c (v : Value) (ps : List (Value × List (Int))) (w : World) (hv : SlT (fun p : Value × List (Int) => p.1) w v ps) (hp : ∀ p ∈ ps, SlT (Value.int .i64) w p.1 p.2) (hb : (ps.map (·.2)).flatten.length ≤ 16777216) :
  Fnc Tryz.prog 115 [v] w (fun r w' => w'.ownsRow w.heap.size 3 1 r (ps.map (·.2)).flatten.length ((ps.map (·.2)).flatten.map (Value.int .i64)) ∧ Below w.heap.size w w') := by
 have hle := hv.le
 have hmem : ∀ i, i < ps.length → SlT (Value.int .i64) w (ps.getD i default).1 (ps.getD i default).2 := fun i hi => hp _ (getD_mem hi)
 refine Fnc.enter (n := 36) Tryz.func115 (by kernel_rfl) rfl rfl rfl <| Cw.seq <| Cw.region <| Lw.val (Ex.assign rfl) rfl <| Lw.nil <| Pw.thenN <| Cw.out <| Cw.seq <| Cw.region <| Lw.val (Ex.assign rfl) rfl <| Lw.nil <| Pw.thenN <| Cw.out <| Cw.seq <| Cw.seq <| Cw.region <| Lw.val (Ex.move rfl) rfl <| Lw.val (Ex.lenS st_39 rfl (by assumption)) rfl ?_
 refine Lw.val (Ex.move rfl) rfl <| Lw.nil <| Pw.thenN <| Cw.out <| Cw.block ?_
 refine Cw.loop (S := Nat) (fun i => [(0, v), (3, .int .i64 ((((ps.take i).map (·.2)).flatten.length : Nat) : Int)), (9, v), (10, .int .i64 (ps.length : Int)), (11, .int .i64 (i : Int))]) (fun i w' => i ≤ ps.length ∧ w' = w) (fun i => ps.length - i) (0) ⟨rfl, rfl, rfl, rfl, rfl, trivial⟩ ?_ ?_
 ·exact ⟨by omega, rfl⟩
 rintro i w1 ⟨hi, rfl⟩
 refine Cw.seq <| Cw.region <| Lw.val (Ex.lss rfl rfl) rfl <| Lw.nil <| Pw.thenN <| Cw.out <| Cw.seq <| Cw.cond rfl ?_ ?_
 ·intro h
  have hi' : i < ps.length := by simp at h; omega
  have hs := hmem i hi'
  have h1 := cat_le (ps := ps) (i + 1)
  have h2 := cat_step hi'
  have h3 := congrArg List.length h2
  rw [List.length_append] at h3
  refine Cw.skip <| Pw.thenN <| Cw.out <| Cw.seq <| Cw.block <| Cw.seq <| Cw.region <| Lw.val (Ex.idxT st_39 rfl rfl (by assumption) _ rfl (by omega)) rfl ?_
  refine Lw.val (Ex.ldT (ag_26 _) rfl (by assumption) (by omega)) rfl ?_
  refine Lw.val (Ex.assign rfl) rfl <| Lw.nil <| Pw.thenN <| Cw.out <| Cw.seq <| Cw.region <| Lw.val (Ex.move rfl) rfl <| Lw.val (Ex.move rfl) rfl <| Lw.val (Ex.lenS st_26 rfl (by assumption)) rfl ?_
  refine Lw.val (Ex.addI rfl rfl (by omega)) rfl <| Lw.val (Ex.assign rfl) rfl <| Lw.nil <| Pw.thenN <| Cw.out <| Cw.seq <| Cw.region <| Lw.val (Ex.move rfl) rfl <| Lw.val (Ex.lss rfl rfl) rfl <| Lw.nil <| Pw.thenN <| Cw.out <| Cw.condB rfl false (by simp; omega) <| Cw.skip <| Pw.blkN <| Pw.thenN <| Cw.out <| Cw.region <| Lw.val (Ex.addI rfl rfl (by omega)) rfl <| Lw.val (Ex.move rfl) rfl <| Lw.nil ?_
  exact Pw.thenN (Pw.next (i + 1) ⟨rfl, (congrArg (fun x => some (Value.int .i64 x)) (by omega)), rfl, rfl, rfl, trivial⟩ (⟨hi', rfl⟩) (by omega))
 intro h
 have hi' : i = ps.length := by simp at h; omega
 subst hi'
 rw [List.take_length]
 refine Cw.exit <| Pw.thenE <| Pw.thenE <| Pw.blkHit <| Pw.thenN <| Cw.out <| Cw.seq <| Cw.region <| Lw.val (Ex.move rfl) rfl <| Lw.callF rfl rfl (growIntS_c _ w1 hb) ?_
 rintro x w2 ⟨ho, hn⟩
 have hv2 := hv.bs hn
 refine Lw.val (Ex.assign rfl) rfl <| Lw.nil <| Pw.thenN <| Cw.out <| Cw.seq <| Cw.seq <| Cw.region <| Lw.val (Ex.move rfl) rfl <| Lw.val (Ex.lenS st_39 rfl (by assumption)) rfl ?_
 refine Lw.val (Ex.move rfl) rfl <| Lw.nil <| Pw.thenN <| Cw.out <| Cw.block ?_
 refine Cw.loop (S := (Nat × Value)) (fun z => [(0, v), (6, z.2), (25, v), (26, .int .i64 (ps.length : Int)), (27, .int .i64 (z.1 : Int))]) (fun z w' => z.1 ≤ ps.length ∧ w'.ownsRow w1.heap.size 3 1 z.2 ((ps.take z.1).map (·.2)).flatten.length (((ps.take z.1).map (·.2)).flatten.map (Value.int .i64)) ∧ Below w1.heap.size w1 w') (fun z => ps.length - z.1) ((0, x)) ⟨rfl, rfl, rfl, rfl, rfl, trivial⟩ ?_ ?_
 ·exact ⟨Nat.zero_le _, by simpa using ho, hn⟩
 clear ho hn hv2
 rintro ⟨i, x⟩ w2 ⟨hi, ho, hn⟩
 dsimp only at hi ho ⊢
 have hv2 := hv.bs hn
 refine Cw.seq <| Cw.region <| Lw.val (Ex.lss rfl rfl) rfl <| Lw.nil <| Pw.thenN <| Cw.out <| Cw.seq <| Cw.cond rfl ?_ ?_
 ·intro h
  have hi' : i < ps.length := by simp at h; omega
  have hs := (hmem i hi').bs hn
  have h1 := cat_le (ps := ps) (i + 1)
  have h2 := cat_step hi'
  have h3 := congrArg List.length h2
  rw [List.length_append] at h3
  refine Cw.skip <| Pw.thenN <| Cw.out <| Cw.seq <| Cw.block <| Cw.seq <| Cw.region <| Lw.val (Ex.idxT st_39 rfl rfl (by assumption) _ rfl (by omega)) rfl ?_
  refine Lw.val (Ex.ldT (ag_26 _) rfl (by assumption) (by omega)) rfl ?_
  refine Lw.val (Ex.assign rfl) rfl <| Lw.nil <| Pw.thenN <| Cw.out <| Cw.region <| Lw.val (Ex.move rfl) rfl <| Lw.val (Ex.move rfl) rfl <| Lw.valW (Xw.append (base := w1.heap.size) st_26 it_3 rfl (by decide) rfl rfl ho hs (one_map (fun _ => rfl) _) (by omega) (by omega) hn.size) rfl ?_
  rintro x' w3 ⟨ho3, hb3, -⟩
  rw [← List.map_append, ← h2, ← h3] at ho3
  refine Lw.val (Ex.assign rfl) rfl <| Lw.nil <| Pw.blkN <| Pw.thenN <| Cw.out <| Cw.region <| Lw.val (Ex.addI rfl rfl (by omega)) rfl <| Lw.val (Ex.move rfl) rfl <| Lw.nil ?_
  exact Pw.thenN (Pw.next ((i + 1, x')) ⟨rfl, rfl, rfl, rfl, rfl, trivial⟩ (⟨hi', ho3, hn.trans hb3⟩) (by simp only; omega))
 intro h
 have hi' : i = ps.length := by simp at h; omega
 subst hi'
 rw [List.take_length] at ho
 refine Cw.exit <| Pw.thenE <| Pw.thenE <| Pw.blkHit <| Pw.thenN <| Cw.out <| Cw.seq <| Cw.region <| Lw.val (Ex.move rfl) rfl <| Lw.val (Ex.assign rfl) rfl <| Lw.nil <| Pw.thenN <| Cw.out <| Cw.ret <| Pw.ret1 rfl rfl ?_
 exact ⟨ho, hn⟩
end Go.Proofs.YtmipoeanpnnjoaaGreat

/-! Contract: sums along a direction. -/
namespace Go.Proofs.YtmipoeanpnnjoaaGreat
open Go Go.Dd Go.RowKit
set_option maxRecDepth 100000

theorem apartF_c (u : Value) (s : List Int) (k a : Nat) (w : World) (h_u : SlT (Value.int .i64) w u s) (hok : Shapes.ok s = true) (hk : k < s.length) (ha : Shapes.prod (s.drop (k + 1)) = (a : Int)) :
  Fnc Tryz.prog 116 [.agg #[u, .int .i64 (k : Int)]] w (fun r w' => r = .int .i64 (a : Int) ∧ Below w.heap.size w w') := by
 have hB := Below.refl w.heap.size w
 refine Fnc.enter (n := 8) Tryz.func116 (by kernel_rfl) rfl rfl rfl <| Cw.seq <| Cw.region <| Lw.boxV (cs := [u, .int .i64 (k : Int)]) rfl rfl rfl ?_
 rintro A_f w eA_f b_f hn -
 replace hB := hB.bs hn
 replace h_u := h_u.bs hn
 clear hn
 refine Lw.val (Ex.assign rfl) rfl <| Lw.nil <| Pw.thenN <| Cw.out <| Cw.seq <| Cw.region <| Lw.val (Ex.fieldAddr (q := 0) Tryz.underlying145 rfl (sz_140 _) rfl) rfl <| Lw.val (Ex.ldB (ag_140 _) rfl (by assumption) rfl) rfl ?_
 refine Lw.val (Ex.fieldAddr (q := 0) Tryz.underlying145 rfl (sz_3 _) rfl) rfl <| Lw.val (Ex.ldB (ag_3 _) rfl (by assumption) rfl) rfl ?_
 refine Lw.callF rfl rfl (behind_c u s k _ h_u hok hk) ?_
 rintro _ w ⟨rfl, hn⟩
 replace hB := hB.bs hn
 replace h_u := h_u.bs hn
 replace b_f := b_f.bs hn
 clear hn
 refine Lw.val (Ex.assign rfl) rfl <| Lw.nil <| Pw.thenN <| Cw.out <| Cw.ret <| Pw.ret1 rfl rfl ?_
 exact ⟨by rw [ha], hB⟩
theorem ofF_c (u : Value) (s : List Int) (k a : Nat) (w : World) (h_u : SlT (Value.int .i64) w u s) (hk : k < s.length) (ha : s.getD k default = (a : Int)) :
  Fnc Tryz.prog 117 [.agg #[u, .int .i64 (k : Int)]] w (fun r w' => r = .int .i64 (a : Int) ∧ Below w.heap.size w w') := by
 have hB := Below.refl w.heap.size w
 refine Fnc.enter (n := 9) Tryz.func117 (by kernel_rfl) rfl rfl rfl <| Cw.seq <| Cw.region <| Lw.boxV (cs := [u, .int .i64 (k : Int)]) rfl rfl rfl ?_
 rintro A_f w eA_f b_f hn -
 replace hB := hB.bs hn
 replace h_u := h_u.bs hn
 clear hn
 refine Lw.val (Ex.assign rfl) rfl <| Lw.nil <| Pw.thenN <| Cw.out <| Cw.seq <| Cw.region <| Lw.val (Ex.fieldAddr (q := 0) Tryz.underlying145 rfl (sz_140 _) rfl) rfl <| Lw.val (Ex.ldB (ag_140 _) rfl (by assumption) rfl) rfl ?_
 refine Lw.val (Ex.fieldAddr (q := 0) Tryz.underlying145 rfl (sz_3 _) rfl) rfl <| Lw.val (Ex.ldB (ag_3 _) rfl (by assumption) rfl) rfl ?_
 refine Lw.val (Ex.idxT st_140 rfl rfl h_u k rfl hk) rfl <| Lw.val ((Ex.ldT (ag_3 _) rfl h_u hk).as (congrArg (Value.int .i64) ha)) rfl <| Lw.val (Ex.assign rfl) rfl <| Lw.nil <| Pw.thenN <| Cw.out <| Cw.ret <| Pw.ret1 rfl rfl ?_
 exact ⟨rfl, hB⟩
theorem bt_field (y : Value) (a : Int) (hy : y.cells = [y].toArray) : Tryz.prog.built 145 [(0, y), (1, .int .i64 a)] = some [y, .int .i64 a].toArray := by
 have h1 : Tryz.prog.info? 145 = some Tryz.t145 := rfl
 have h2 : Tryz.prog.info? 140 = some Tryz.t140 := rfl
 have h3 : Tryz.prog.info? 3 = some Tryz.t3 := rfl
 simp [Program.built, h1, Tryz.underlying145, h2, h3, Instr.fill, hy]
 rfl
def suE (t : T4) (along : Int) : Int := if tok t.s t.l && decide (0 ≤ along) && decide (along < (t.s.length : Int)) then 0 else 1
set_option maxHeartbeats 1000000 in
theorem msum_c (t : T4) (al : Int) (W : World) (h_t : t.at W) :
  Fnc Tryz.prog 87 [t.v, .int .i64 al] W (fun r w' => Below W.heap.size W w' ∧ AnsK W w' r (suE t al) (without t.s al.toNat) (suL t.s t.l al.toNat)) := by
 have hB := Below.refl W.heap.size W
 refine Fnc.enter (n := 99) Tryz.func87 (by kernel_rfl) rfl rfl rfl <| Cw.seq <| Cw.region <| Lw.boxV (cs := [t.x, t.y]) rfl rfl rfl ?_
 rintro A_t w eA_t b_t hn -
 replace hB := hB.bs hn
 replace h_t := h_t.bs hn
 clear hn
 have z0 := below_size hB
 refine Lw.newA it_29 rfl ?_
 rintro A_r w eA_r b_r hn -
 replace hB := hB.bs hn
 replace h_t := h_t.bs hn
 replace b_t := b_t.bs hn
 clear hn
 refine Lw.val (Ex.assign rfl) rfl <| Lw.nil <| Pw.thenN <| Cw.out <| Cw.seq <| Cw.seq <| Cw.region <| Lw.val (Ex.ldA (ag_29 _) (sz_29 _) rfl rfl (by assumption)) rfl ?_
 have z_r := blk_lt b_r
 have h_t1 := h_t.1
 refine Lw.callF rfl rfl (tcheck_c t.x t.y t.s t.l _ h_t.1 h_t.2) ?_
 rintro _ w ⟨rfl, hn⟩
 replace hB := hB.bs hn
 replace h_t := h_t.bs hn
 replace b_t := b_t.bs hn
 replace b_r := b_r.bs hn
 replace h_t1 := h_t1.bs hn
 clear hn
 refine Lw.val (Ex.not rfl) rfl <| Lw.val (Ex.move rfl) rfl ?_
 refine Lw.part 16 rfl ?_ ?_
 ·intro g
  refine Lw.pass (dj := 16) rfl rfl rfl rfl <| Lw.pass (dj := 16) rfl rfl rfl rfl <| Lw.val (Ex.pickT rfl rfl) rfl <| Lw.val (Ex.move rfl) rfl <| Lw.pass (dj := 20) rfl rfl rfl rfl <| Lw.pass (dj := 20) rfl rfl rfl rfl <| Lw.pass (dj := 20) rfl rfl rfl rfl <| Lw.pass (dj := 20) rfl rfl rfl rfl <| Lw.pass (dj := 20) rfl rfl rfl rfl <| Lw.val (Ex.pickT rfl rfl) rfl <| Lw.nil <| Pw.thenN <| Cw.out <| Cw.condT rfl <| Cw.seq <| Cw.region <| Lw.val (Ex.build (vs := []) (cs := [.slice none 0 0, .slice none 0 0]) rfl (by kernel_rfl)) rfl <| Lw.unit (Xu.stA (cs := [.slice none 0 0, .slice none 0 0]) rfl rfl rfl rfl rfl b_r rfl) ?_
  rintro w3 ⟨b_r, hg, -⟩
  have hB := hB.grown hg (below_size hB) (by rintro _ ⟨⟩; omega)
  refine Lw.val (Ex.assign rfl) rfl <| Lw.nil <| Pw.thenN <| Cw.out <| Cw.ret <| Pw.thenR <| Pw.retCT rfl rfl rfl (by assumption) (Tryz.underlying29) rfl rfl rfl ?_
  rw [show suE t al = 1 by simp_all [suE]]
  exact ⟨hB, ansK_no (by decide)⟩
 intro g1
 have k_t : tok t.s t.l = true := by simpa using g1
 refine Lw.take (dj := 16) rfl rfl <| Lw.val (Ex.move rfl) rfl <| Lw.take (dj := 16) rfl rfl <| Lw.val (Ex.lss rfl rfl) rfl <| Lw.val (Ex.pickF rfl rfl) rfl <| Lw.val (Ex.move rfl) rfl ?_
 refine Lw.part 20 rfl ?_ ?_
 ·intro g
  have g := of_decide_eq_true g
  refine Lw.pass (dj := 20) rfl rfl rfl rfl <| Lw.pass (dj := 20) rfl rfl rfl rfl <| Lw.pass (dj := 20) rfl rfl rfl rfl <| Lw.pass (dj := 20) rfl rfl rfl rfl <| Lw.pass (dj := 20) rfl rfl rfl rfl <| Lw.val (Ex.pickT rfl rfl) rfl <| Lw.nil <| Pw.thenN <| Cw.out <| Cw.condT rfl <| Cw.seq <| Cw.region <| Lw.val (Ex.build (vs := []) (cs := [.slice none 0 0, .slice none 0 0]) rfl (by kernel_rfl)) rfl <| Lw.unit (Xu.stA (cs := [.slice none 0 0, .slice none 0 0]) rfl rfl rfl rfl rfl b_r rfl) ?_
  rintro w3 ⟨b_r, hg, -⟩
  have hB := hB.grown hg (below_size hB) (by rintro _ ⟨⟩; omega)
  refine Lw.val (Ex.assign rfl) rfl <| Lw.nil <| Pw.thenN <| Cw.out <| Cw.ret <| Pw.thenR <| Pw.retCT rfl rfl rfl (by assumption) (Tryz.underlying29) rfl rfl rfl ?_
  rw [show suE t al = 1 by unfold suE; rw [decide_eq_false (show ¬ 0 ≤ al by omega), Bool.and_false, Bool.false_and]; rfl]
  exact ⟨hB, ansK_no (by decide)⟩
 intro g2
 have g2 := of_decide_eq_false g2
 refine Lw.take (dj := 20) rfl rfl <| Lw.val (Ex.move rfl) rfl <| Lw.take (dj := 20) rfl rfl <| Lw.val (Ex.fieldAddr (q := 0) Tryz.underlying29 rfl (sz_26 _) rfl) rfl <| Lw.take (dj := 20) rfl rfl <| Lw.val (Ex.ldB (ag_26 _) rfl (by assumption) rfl) rfl ?_
 refine Lw.take (dj := 20) rfl rfl <| Lw.val (Ex.lenS st_26 rfl (by assumption)) rfl ?_
 refine Lw.take (dj := 20) rfl rfl <| Lw.val (Ex.geq rfl rfl) rfl <| Lw.val (Ex.pickF rfl rfl) rfl <| Lw.nil <| Pw.thenN <| Cw.out <| Cw.cond rfl ?_ ?_
 ·intro g
  have g := of_decide_eq_true g
  refine Cw.seq <| Cw.region <| Lw.val (Ex.build (vs := []) (cs := [.slice none 0 0, .slice none 0 0]) rfl (by kernel_rfl)) rfl <| Lw.unit (Xu.stA (cs := [.slice none 0 0, .slice none 0 0]) rfl rfl rfl rfl rfl b_r rfl) ?_
  rintro w3 ⟨b_r, hg, -⟩
  have hB := hB.grown hg (below_size hB) (by rintro _ ⟨⟩; omega)
  refine Lw.val (Ex.assign rfl) rfl <| Lw.nil <| Pw.thenN <| Cw.out <| Cw.ret <| Pw.thenR <| Pw.retCT rfl rfl rfl (by assumption) (Tryz.underlying29) rfl rfl rfl ?_
  rw [show suE t al = 1 by unfold suE; rw [decide_eq_false (show ¬ al < (t.s.length : Int) by omega), Bool.and_false]; rfl]
  exact ⟨hB, ansK_no (by decide)⟩
 intro g3
 have g3 := of_decide_eq_false g3
 rw [show suE t al = 0 by unfold suE; rw [k_t, decide_eq_true (show 0 ≤ al by omega), decide_eq_true (show al < (t.s.length : Int) by omega)]; rfl]
 clear g1
 obtain ⟨k, rfl⟩ : ∃ k : Nat, al = (k : Int) := ⟨al.toNat, by omega⟩
 rw [Int.toNat_natCast]
 have hk : k < t.s.length := by omega
 clear g2 g3
 obtain ⟨k1, k2⟩ := tok_ok k_t
 have S := (Shapes.ok_iff t.s).1 k1
 have okW := without_ok k1 hk
 have pr := Shapes.ok_prod k1 (k + 1)
 have dk := dim_at S.2.1 hk
 obtain ⟨a, ha⟩ : ∃ a : Nat, Shapes.prod (t.s.drop (k + 1)) = (a : Int) := ⟨_, (Int.toNat_of_nonneg (by omega)).symm⟩
 obtain ⟨n, hn⟩ : ∃ n : Nat, t.s.getD k default = (n : Int) := ⟨_, (Int.toNat_of_nonneg (by omega)).symm⟩
 obtain ⟨ps, hps⟩ : ∃ ps : List (Value × List Int), ps = [(cut t.x 1 0 k, t.s.take k), (cut t.x 1 (k + 1) t.s.length, t.s.drop (k + 1))] := ⟨_, rfl⟩
 have s_1 := SlT.take h_t1 (j := k) (by omega)
 have s_2 := SlT.drop h_t1 (i := k + 1) (by omega)
 refine Cw.skip <| Pw.thenN <| Cw.out <| Cw.seq <| Cw.tail 9 mixed (by kernel_rfl) <| Qw.val (fun w1 hq => Ex.fieldAddr (q := 0) Tryz.underlying29 rfl (sz_26 _) rfl) rfl <| Qw.val (fun w1 hq => Ex.ldB (ag_26 _) rfl (Blk.bs (by assumption) hq) rfl) rfl ?_
 refine Qw.val (fun w1 hq => Ex.move rfl) rfl <| Qw.val (fun w1 hq => Ex.cutH st_26 rfl rfl (Sl.bs (by assumption) hq) (by omega)) rfl ?_
 refine Qw.val (fun w1 hq => Ex.fieldAddr (q := 0) Tryz.underlying29 rfl (sz_26 _) rfl) rfl <| Qw.val (fun w1 hq => Ex.ldB (ag_26 _) rfl (Blk.bs (by assumption) hq) rfl) rfl ?_
 refine Qw.val (fun w1 hq => Ex.move rfl) rfl <| Qw.val (fun w1 hq => (Ex.addI rfl rfl (by omega)).as (congrArg (Value.int .i64) (show (k : Int) + 1 = ((k + 1 : Nat) : Int) by omega))) rfl <| Qw.val (fun w1 hq => Ex.cutL st_26 rfl rfl (Sl.bs (by assumption) hq) (by omega)) rfl ?_
 refine Qw.done (fun w2 hq => ?_)
 replace hB := hB.bs hq
 replace h_t := h_t.bs hq
 replace b_t := b_t.bs hq
 replace b_r := b_r.bs hq
 replace h_t1 := h_t1.bs hq
 replace s_1 := s_1.bs hq
 replace s_2 := s_2.bs hq
 clear hq
 refine Lw.valW (Xw.lit (vs := ps.map (fun p => p.1)) st_39 it_26 rfl (by rw [hps]; rfl) (by rw [hps]; rfl) (by rw [hps]; simp [s_1.one', s_2.one']) rfl) rfl ?_
 rintro x0 w ⟨hx0, -, hn0, -⟩
 have hx0 : w.ownsRow w2.heap.size 26 1 x0 ps.length (ps.map (fun p => p.1)) := by rw [show ps.length = 2 by rw [hps]; rfl]; exact hx0
 replace hB := hB.bs hn0
 replace h_t := h_t.bs hn0
 replace b_t := b_t.bs hn0
 replace b_r := b_r.bs hn0
 replace h_t1 := h_t1.bs hn0
 replace s_1 := s_1.bs hn0
 replace s_2 := s_2.bs hn0
 clear hn0
 have zc := below_size hB
 refine Lw.callF rfl rfl (concatInt_c x0 ps w (own_slT hx0) (by rw [hps]; intro p hp; simp at hp; rcases hp with rfl | rfl; exact s_1; exact s_2) (by rw [hps]; simp; omega)) ?_
 rintro x w ⟨hx, hn1⟩
 have hfl : (ps.map (·.2)).flatten = t.s.take k ++ t.s.drop (k + 1) := by rw [hps]; simp
 rw [hfl] at hx
 have hx := own_mono hx zc
 replace hB := hB.bs hn1
 replace h_t := h_t.bs hn1
 replace b_t := b_t.bs hn1
 replace b_r := b_r.bs hn1
 replace h_t1 := h_t1.bs hn1
 replace s_1 := s_1.bs hn1
 replace s_2 := s_2.bs hn1
 clear hn1 hx0 hfl
 have s_x := own_slT hx
 refine Lw.val (Ex.assign rfl) rfl <| Lw.nil <| Pw.thenN <| Cw.out <| Cw.seq <| Cw.seq <| Cw.region <| Lw.val (Ex.move rfl) rfl <| Lw.val (Ex.lenS st_26 rfl (by assumption)) rfl ?_
 refine Lw.val (Ex.eql rfl rfl) rfl <| Lw.nil <| Pw.thenN <| Cw.out ?_
 refine Cw.midS (St := Value) (fun z => [(1, .int .i64 (k : Int)), (2, .pointer (some ⟨A_t, 0, none⟩)), (4, .pointer (some ⟨A_r, 0, none⟩)), (6, z)]) (fun z w' => Below w.heap.size w w' ∧ SlT (Value.int .i64) w' z (without t.s k)) ?_ ?_
 ·have hM := Below.refl w.heap.size w
  refine Cw.cond rfl ?_ ?_
  ·intro g
   have g := of_decide_eq_true g
   have l1 : t.s.length = 1 := by rw [List.length_append, List.length_take, List.length_drop] at g; omega
   refine Cw.region <| Lw.valW (Xw.lit (vs := [(1 : Int)].map (Value.int .i64)) st_26 it_3 rfl rfl rfl rfl rfl) rfl ?_
   rintro z w ⟨hz, -, hn2, -⟩
   replace hB := hB.bs hn2
   replace h_t := h_t.bs hn2
   replace b_t := b_t.bs hn2
   replace b_r := b_r.bs hn2
   replace h_t1 := h_t1.bs hn2
   replace s_1 := s_1.bs hn2
   replace s_2 := s_2.bs hn2
   replace hx := hx.bs hn2
   replace s_x := s_x.bs hn2
   replace hM := hM.bs hn2
   refine Lw.val (Ex.assign rfl) rfl <| Lw.nil ?_
   exact Pw.midS (z) ⟨rfl, rfl, rfl, rfl, trivial⟩ (⟨hM, by unfold without; rw [if_pos l1]; exact own_slT hz⟩)
  intro g
  have g := of_decide_eq_false g
  have l1 : ¬ t.s.length = 1 := by intro h; apply g; rw [List.length_append, List.length_take, List.length_drop]; omega
  refine Cw.skip ?_
  exact Pw.midS (x) ⟨rfl, rfl, rfl, rfl, trivial⟩ (⟨hM, by unfold without; rw [if_neg l1]; exact own_slT hx⟩)
 rintro z w ⟨hn3, h_z⟩
 replace hB := hB.bs hn3
 replace h_t := h_t.bs hn3
 replace b_t := b_t.bs hn3
 replace b_r := b_r.bs hn3
 replace h_t1 := h_t1.bs hn3
 replace s_1 := s_1.bs hn3
 replace s_2 := s_2.bs hn3
 replace hx := hx.bs hn3
 replace s_x := s_x.bs hn3
 clear hn3
 clear hx s_x
 refine Cw.out ?_
 have h_t2 := h_t.2
 refine Cw.seq <| Cw.region <| Lw.val (Ex.fieldAddr (q := 0) Tryz.underlying29 rfl (sz_26 _) rfl) rfl <| Lw.val (Ex.ldB (ag_26 _) rfl (by assumption) rfl) rfl ?_
 refine Lw.val (Ex.move rfl) rfl <| Lw.val (Ex.build (vs := [(0, t.x), (1, .int .i64 (k : Int))]) (cs := [t.x, .int .i64 (k : Int)]) rfl (bt_field _ _ h_t1.one)) rfl <| Lw.boxed (cs := [t.x, .int .i64 (k : Int)]) it_145 rfl rfl rfl rfl (fun _ => rfl) (by simp [h_t1.one']; rfl) ?_
 rintro A_f w eA_f b_f hn -
 replace hB := hB.bs hn
 replace h_t := h_t.bs hn
 replace b_t := b_t.bs hn
 replace b_r := b_r.bs hn
 replace h_t1 := h_t1.bs hn
 replace s_1 := s_1.bs hn
 replace s_2 := s_2.bs hn
 replace h_z := h_z.bs hn
 replace h_t2 := h_t2.bs hn
 clear hn
 refine Lw.nil <| Pw.thenN <| Cw.out <| Cw.seq <| Cw.region <| Lw.val (Ex.move rfl) rfl ?_
 have y_t := blk_lt b_t
 have y_r := blk_lt b_r
 have y_f := blk_lt b_f
 have y_B := below_size hB
 have p_t := h_t
 refine Lw.callF rfl rfl (new_c z (without t.s k) _ h_z) ?_
 rintro _ w7 ⟨hn7, ⟨hk', x, y, rfl, hm⟩ | ⟨hk', rfl⟩⟩
 ·refine Lw.val (Ex.move rfl) rfl <| Lw.val (Ex.extract (i := 0) rfl rfl) rfl <| Lw.val (Ex.extract (i := 1) rfl rfl) rfl <| Lw.boxed (cs := [x, y]) it_29 rfl rfl rfl rfl (fun _ => rfl) (hm.one) ?_
  rintro A_m w8 eA_m b_m hn8 zhn8
  have M := mine_new hm eA_m b_m hn8 zhn8 hn7.size
  have hw8 := bt hn7 hn8
  have zw := hw8.size
  replace hB := hB.bs hw8
  replace h_t := h_t.bs hw8
  replace b_t := b_t.bs hw8
  replace b_r := b_r.bs hw8
  replace h_t1 := h_t1.bs hw8
  replace s_1 := s_1.bs hw8
  replace s_2 := s_2.bs hw8
  replace h_z := h_z.bs hw8
  replace h_t2 := h_t2.bs hw8
  replace b_f := b_f.bs hw8
  clear hm b_m hn7 hn8 eA_m zhn8 hw8
  have zB := below_size hB
  have szW := Shapes.size_le (without t.s k)
  have szo := Shapes.size_ok okW
  rw [without_prod hk, ha] at szo
  obtain ⟨P, hP⟩ : ∃ P : Nat, Shapes.prod (t.s.take k) = (P : Int) := ⟨_, (Int.toNat_of_nonneg (by have := Shapes.prod_pos (s := t.s.take k) fun x hx => S.2.1 x (List.mem_of_mem_take hx); omega)).symm⟩
  have hM : (Shapes.size (without t.s k)).toNat = P * a := by
   have : ((P * a : Nat) : Int) = Shapes.size (without t.s k) := by rw [szo, hP]; push_cast; rfl
   omega
  have hL : t.l.length = P * (n * a) := by
   have e1 := Shapes.size_ok k1
   rw [prod_split hk, ha, hn, hP] at e1
   have : ((P * (n * a) : Nat) : Int) = Shapes.size t.s := by rw [e1]; push_cast; rfl
   have := Shapes.size_le t.s
   omega
  have sz4 : t.l.length ≤ 4096 := by have := Shapes.size_le t.s; omega
  obtain ⟨fl, hfl⟩ : ∃ l, l = suL t.s t.l k := ⟨_, rfl⟩
  obtain ⟨zs, hzs⟩ : ∃ l, l = List.replicate (Shapes.size (without t.s k)).toNat 0#32 := ⟨_, rfl⟩
  rw [← hzs] at M
  have n1 : fl.length = zs.length := by rw [hfl, hzs]; simp [suL]
  have n2 : zs.length = P * a := by rw [hzs, List.length_replicate, hM]
  have hF : ∀ i, i < P * a → fl.getD i default = sm n (suF t.s t.l k i) := fun i hi => by rw [hfl]; unfold suL; rw [hM, hn, Int.toNat_natCast]; simp [hi]
  have hG : ∀ i j, suF t.s t.l k i j = t.l.getD (i / a * a * n + i % a + j * a) default := fun i j => by unfold suF; rw [ha, hn, Int.toNat_natCast, Int.toNat_natCast]
  have b_m := M.box
  have y_m := M.sly
  refine Lw.val (Ex.assign rfl) rfl <| Lw.nil <| Pw.thenN <| Cw.out <| Cw.seq <| Cw.seq <| Cw.region <| Lw.val (Ex.fieldAddr (q := 0) Tryz.underlying29 rfl (sz_27 _) rfl) rfl <| Lw.val (Ex.ldB (ag_27 _) rfl (by assumption) rfl) rfl ?_
  refine Lw.val (Ex.lenS st_27 rfl (by assumption)) rfl ?_
  refine Lw.val (Ex.move rfl) rfl <| Lw.nil <| Pw.thenN <| Cw.out <| Cw.block ?_
  refine Cw.loop (S := Nat) (fun i => [(2, .pointer (some ⟨A_t, 0, none⟩)), (4, .pointer (some ⟨A_r, 0, none⟩)), (7, .pointer (some ⟨A_f, 0, none⟩)), (8, .pointer (some ⟨A_m, 0, none⟩)), (9, .int .i64 0), (54, .int .i64 (zs.length : Int)), (55, .int .i64 (i : Int))]) (fun i w' => i ≤ zs.length ∧ Below w.heap.size w8 w' ∧ MineT w' w.heap.size w8.heap.size A_m x y (without t.s k) (fl.take i ++ zs.drop i)) (fun i => zs.length - i) (0) ⟨rfl, rfl, rfl, rfl, rfl, rfl, rfl, trivial⟩ ?_ ?_
  ·exact ⟨by omega, Below.refl _ _, by rw [td_zero]; exact M⟩
  clear M b_m y_m
  rintro i w11 ⟨hi, hw, M⟩
  refine Cw.seq <| Cw.region <| Lw.val (Ex.lss rfl rfl) rfl <| Lw.nil <| Pw.thenN <| Cw.out <| Cw.seq <| Cw.cond rfl ?_ ?_
  ·intro h
   have hi' : i < zs.length := by have := of_decide_eq_true h; omega
   have hiP : i < P * a := by omega
   have b_f1 := b_f.bl hw y_f
   have h_t11 := (at_stay p_t h_t (Nat.le_refl _) hw).1
   have a1 : 1 ≤ a := by omega
   have r0 := su_lt (n := n) hiP (j := 0) (by omega)
   rw [Nat.zero_mul, Nat.add_zero, ← hL] at r0
   obtain ⟨fi, hfi⟩ : ∃ x, x = i / a * a * n + i % a := ⟨_, rfl⟩
   obtain ⟨qa, hqa⟩ : ∃ x, x = i / a * a := ⟨_, rfl⟩
   obtain ⟨qn, hqn⟩ : ∃ x, x = qa * n := ⟨_, rfl⟩
   obtain ⟨q, hqq⟩ : ∃ x, x = i / a := ⟨_, rfl⟩
   obtain ⟨rr, hrr⟩ : ∃ x, x = i % a := ⟨_, rfl⟩
   rw [← hqq] at hqa
   rw [← hqq, ← hqa, ← hqn, ← hrr] at hfi r0
   have c1 : (q : Int) * (a : Int) = (qa : Int) := by rw [hqa]; push_cast; rfl
   have c2 : (qa : Int) * (n : Int) = (qn : Int) := by rw [hqn]; push_cast; rfl
   have qle : qa ≤ i := by rw [hqa, hqq]; exact Nat.div_mul_le_self i a
   refine Cw.skip <| Pw.thenN <| Cw.out <| Cw.seq <| Cw.block <| Cw.seq <| Cw.region <| Lw.val (Ex.move rfl) rfl <| Lw.val (Ex.assign rfl) rfl <| Lw.nil <| Pw.thenN <| Cw.out <| Cw.seq <| Cw.quiet mixed (by kernel_rfl) <| Qw.val (fun w1 hq => Ex.move rfl) rfl <| Qw.val (fun w1 hq => Ex.ldA (ag_145 _) (sz_145 _) rfl rfl (Blk.bs (by assumption) hq)) rfl ?_
   refine Qw.callF rfl rfl (fun w1 hq => (apartF_c t.x t.s k a w1 (h_t11.bs hq) k1 hk ha).q hq) <| Qw.val (fun w1 hq => (Ex.quoI rfl rfl (by omega) (by omega)).as (congrArg (Value.int .i64) (show (i : Int) / (a : Int) = (q : Int) by rw [hqq]; rfl))) rfl <| Qw.val (fun w1 hq => Ex.ldA (ag_145 _) (sz_145 _) rfl rfl (Blk.bs (by assumption) hq)) rfl ?_
   refine Qw.callF rfl rfl (fun w1 hq => (apartF_c t.x t.s k a w1 (h_t11.bs hq) k1 hk ha).q hq) <| Qw.val (fun w1 hq => (Ex.mulI rfl rfl (by omega)).as (congrArg (Value.int .i64) c1)) rfl <| Qw.val (fun w1 hq => Ex.ldA (ag_145 _) (sz_145 _) rfl rfl (Blk.bs (by assumption) hq)) rfl ?_
   refine Qw.callF rfl rfl (fun w1 hq => (ofF_c t.x t.s k n w1 (h_t11.bs hq) hk hn).q hq) <| Qw.val (fun w1 hq => (Ex.mulI rfl rfl (by omega)).as (congrArg (Value.int .i64) c2)) rfl <| Qw.val (fun w1 hq => Ex.move rfl) rfl <| Qw.val (fun w1 hq => Ex.ldA (ag_145 _) (sz_145 _) rfl rfl (Blk.bs (by assumption) hq)) rfl ?_
   refine Qw.callF rfl rfl (fun w1 hq => (apartF_c t.x t.s k a w1 (h_t11.bs hq) k1 hk ha).q hq) <| Qw.val (fun w1 hq => (Ex.remI rfl rfl (by omega) (by omega)).as (congrArg (Value.int .i64) (show (i : Int) % (a : Int) = (rr : Int) by rw [hrr]; rfl))) rfl <| Qw.val (fun w1 hq => (Ex.addI rfl rfl (by omega)).as (congrArg (Value.int .i64) (show (qn : Int) + (rr : Int) = (fi : Int) by omega))) rfl <| Qw.val (fun w1 hq => Ex.assign rfl) rfl ?_
   refine Qw.nil (fun w12 hq => ?_)
   refine Pw.thenN <| Cw.out <| Cw.seq ?_
   have hw := hw.trans (hq.mono (by have := hw.size; omega))
   have M := M.bs hq
   have b_f1 := b_f1.bs hq
   have h_t11 := h_t11.bs hq
   clear hq
   refine Cw.region <| Lw.val (Ex.ldA (ag_145 _) (sz_145 _) rfl rfl (by assumption)) rfl ?_
   refine Lw.callF rfl rfl (ofF_c t.x t.s k n w12 h_t11 hk hn) ?_
   rintro _ w13 ⟨rfl, hq⟩
   have hw := hw.trans (hq.mono (by have := hw.size; omega))
   have M := M.bs hq
   have e1 := td_len (i := i) n1
   have h0 : (fl.take i ++ zs.drop i).set i 0#32 = fl.take i ++ zs.drop i := set_selfD (by omega) (by rw [td_get n1 hi', hzs]; exact getD_rep (by omega))
   refine Lw.val (Ex.move rfl) rfl <| Lw.nil <| Pw.thenN <| Cw.out <| Cw.block ?_
   refine Cw.loop (S := Nat) (fun j => [(2, .pointer (some ⟨A_t, 0, none⟩)), (4, .pointer (some ⟨A_r, 0, none⟩)), (7, .pointer (some ⟨A_f, 0, none⟩)), (8, .pointer (some ⟨A_m, 0, none⟩)), (9, .int .i64 0), (54, .int .i64 (zs.length : Int)), (55, .int .i64 (i : Int)), (10, .int .i64 (i : Int)), (11, .int .i64 (fi : Int)), (74, .int .i64 (n : Int)), (75, .int .i64 (j : Int))]) (fun j w' => j ≤ n ∧ Below w.heap.size w8 w' ∧ MineT w' w.heap.size w8.heap.size A_m x y (without t.s k) ((fl.take i ++ zs.drop i).set i (sm j (suF t.s t.l k i)))) (fun j => n - j) (0) ⟨rfl, rfl, rfl, rfl, rfl, rfl, rfl, rfl, rfl, rfl, rfl, trivial⟩ ?_ ?_
   ·exact ⟨Nat.zero_le _, hw, by rw [show sm 0 (suF t.s t.l k i) = 0#32 from rfl, h0]; exact M⟩
   clear M hw hq b_f1 h_t11
   rintro j w14 ⟨hj, hw, M⟩
   refine Cw.seq <| Cw.region <| Lw.val (Ex.lss rfl rfl) rfl <| Lw.nil <| Pw.thenN <| Cw.out <| Cw.seq <| Cw.cond rfl ?_ ?_
   ·intro h
    have hj' : j < n := by have := of_decide_eq_true h; omega
    have b_f1 := b_f.bl hw y_f
    have b_t1 := b_t.bl hw y_t
    have h_t1a := at_stay p_t h_t (Nat.le_refl _) hw
    have h_t11 := h_t1a.1
    have h_t12 := h_t1a.2
    have b_m := M.box
    have y_m := M.sly
    have hil : i < ((fl.take i ++ zs.drop i).set i (sm j (suF t.s t.l k i))).length := by rw [List.length_set]; omega
    have rK := su_lt (n := n) hiP hj'
    rw [← hL] at rK
    obtain ⟨ja, hja⟩ : ∃ x, x = j * a := ⟨_, rfl⟩
    obtain ⟨K, hK⟩ : ∃ x, x = fi + ja := ⟨_, rfl⟩
    have eK : i / a * a * n + i % a + j * a = K := by rw [hK, hja, hfi, hqn, hqa, hqq, hrr]
    rw [eK] at rK
    have c3 : (j : Int) * (a : Int) = (ja : Int) := by rw [hja]; push_cast; rfl
    have eV : sm j (suF t.s t.l k i) + t.l.getD K default = sm (j + 1) (suF t.s t.l k i) := by
     show _ = sm j (suF t.s t.l k i) + suF t.s t.l k i j
     rw [hG, eK]
    refine Cw.skip <| Pw.thenN <| Cw.out <| Cw.seq <| Cw.block <| Cw.seq <| Cw.region <| Lw.val (Ex.move rfl) rfl <| Lw.val (Ex.assign rfl) rfl <| Lw.nil <| Pw.thenN <| Cw.out <| Cw.tail 17 mixed (by kernel_rfl) <| Qw.val (fun w1 hq => Ex.fieldAddr (q := 0) Tryz.underlying29 rfl (sz_27 _) rfl) rfl <| Qw.val (fun w1 hq => Ex.ldB (ag_27 _) rfl (Blk.bs (by assumption) hq) rfl) rfl ?_
    refine Qw.val (fun w1 hq => Ex.move rfl) rfl <| Qw.val (fun w1 hq => Ex.idxT st_27 rfl rfl (Sl.bs y_m hq) i rfl hil) rfl <| Qw.val (fun w1 hq => (Ex.ldT (ag_21 _) rfl (Sl.bs y_m hq) hil).as (congrArg i32 (getD_set (by omega)))) rfl <| Qw.val (fun w1 hq => Ex.fieldAddr (q := 0) Tryz.underlying29 rfl (sz_27 _) rfl) rfl <| Qw.val (fun w1 hq => Ex.ldB (ag_27 _) rfl (Blk.bs (by assumption) hq) rfl) rfl ?_
    refine Qw.val (fun w1 hq => Ex.move rfl) rfl <| Qw.val (fun w1 hq => Ex.move rfl) rfl <| Qw.val (fun w1 hq => Ex.ldA (ag_145 _) (sz_145 _) rfl rfl (Blk.bs (by assumption) hq)) rfl ?_
    refine Qw.callF rfl rfl (fun w1 hq => (apartF_c t.x t.s k a w1 (h_t11.bs hq) k1 hk ha).q hq) <| Qw.val (fun w1 hq => (Ex.mulI rfl rfl (by omega)).as (congrArg (Value.int .i64) c3)) rfl <| Qw.val (fun w1 hq => (Ex.addI rfl rfl (by omega)).as (congrArg (Value.int .i64) (show (fi : Int) + (ja : Int) = (K : Int) by omega))) rfl <| Qw.val (fun w1 hq => Ex.idxT st_27 rfl rfl (Sl.bs h_t12 hq) K rfl rK) rfl <| Qw.val (fun w1 hq => Ex.ldT (ag_21 _) rfl (Sl.bs h_t12 hq) rK) rfl <| Qw.val (fun w1 hq => (Ex.addi32 rfl rfl).as (congrArg i32 eV)) rfl <| Qw.val (fun w1 hq => Ex.idxT st_27 rfl rfl (Sl.bs y_m hq) i rfl hil) rfl ?_
    refine Qw.done (fun w15 hq => ?_)
    refine Lw.unit ((M.bs hq).st (sz_21 _) rfl rfl hil) ?_
    rintro w16 ⟨M2, hg2, -⟩
    have hw2 := (M.bs hq).below (hw.trans (hq.mono (by have := hw.size; omega))) (by omega) hg2
    rw [List.set_set] at M2
    refine Lw.nil <| Pw.blkN <| Pw.thenN <| Cw.out <| Cw.region <| Lw.val (Ex.addI rfl rfl (by omega)) rfl <| Lw.val (Ex.move rfl) rfl <| Lw.nil ?_
    exact Pw.thenN (Pw.next (j + 1) ⟨rfl, rfl, rfl, rfl, rfl, rfl, rfl, rfl, rfl, rfl, rfl, trivial⟩ (⟨hj', hw2, M2⟩) (by omega))
   intro h
   have hj' : j = n := by have := of_decide_eq_false h; omega
   subst hj'
   rw [← hF i hiP, td_set n1 hi'] at M
   refine Cw.exit <| Pw.thenE <| Pw.thenE <| Pw.blkHit <| Pw.blkN <| Pw.thenN <| Cw.out <| Cw.region <| Lw.val (Ex.addI rfl rfl (by omega)) rfl <| Lw.val (Ex.move rfl) rfl <| Lw.nil ?_
   exact Pw.thenN (Pw.next (i + 1) ⟨rfl, rfl, rfl, rfl, rfl, rfl, rfl, trivial⟩ (⟨hi', hw, M⟩) (by omega))
  intro h
  have hi' : i = zs.length := by have := of_decide_eq_false h; omega
  subst hi'
  rw [td_all n1, hfl] at M
  have b_m := M.box
  have b_r := b_r.bl hw y_r
  have hB2 := hB.trans (hw.mono (by omega))
  refine Cw.exit <| Pw.thenE <| Pw.thenE <| Pw.blkHit <| Pw.thenN <| Cw.out <| Cw.seq <| Cw.region <| Lw.val (Ex.ldA (ag_29 _) (sz_29 _) rfl rfl (by assumption)) rfl ?_
  refine Lw.val (Ex.move rfl) rfl <| Lw.unit (Xu.stA (cs := [x, y]) rfl rfl rfl rfl (mine_at M).one b_r rfl) ?_
  rintro w12 ⟨b_r2, hg, -⟩
  have M2 := M.keep hg (by rintro _ ⟨⟩; exact .inl y_r)
  have hB3 := hB2.grown hg (below_size hB2) (by rintro _ ⟨⟩; omega)
  refine Lw.val (Ex.assign rfl) rfl <| Lw.nil <| Pw.thenN <| Cw.out <| Cw.ret <| Pw.retCT rfl rfl rfl (by assumption) (Tryz.underlying29) rfl rfl rfl ?_
  exact ⟨hB3, x, y, rfl, fun h => absurd rfl h, fun _ => ⟨M2.row.mono (by omega), .inl (own_mono M2.lst.own (by omega)), M2.yx⟩⟩
 exact absurd okW (by rw [hk']; decide)
end Go.Proofs.YtmipoeanpnnjoaaGreat

/-! Contracts: the kinds of nodes. -/
namespace Go.Proofs.YtmipoeanpnnjoaaGreat
open Go Go.Dd Go.RowKit
set_option maxRecDepth 100000

/-- A row of six numbers. -/
def kv (l : List Int) : Value := .agg (l.map (Value.int .i64)).toArray
/-- The kinds: where each is put in, its number, its row. -/
def kdT : List (Nat × Int × List Int) := [(2, 1, [0, 0, 0, 0, 0, 1]), (4, 2, [0, 0, 0, 0, 0, 1]), (6, 3, [2, 2, 0, 0, 0, 0]), (8, 4, [2, 2, 0, 0, 0, 0]), (10, 7, [2, 2, 0, 0, 0, 0]), (12, 5, [1, 1, 0, 0, 0, 0]), (16, 6, [1, 1, 0, 31, 0, 0]), (18, 8, [2, 2, 1, 8, 8, 0]), (22, 9, [1, 1, 1, 64, 0, 0]), (24, 10, [1, 1, 0, 0, 0, 1]), (26, 11, [1, 1, 0, 0, 0, 2]), (28, 12, [1, 4, 0, 3, 0, 0]), (32, 13, [1, 1, 0, 3, 0, 0])]
def KD (k v : Value) : Prop := ∃ p ∈ kdT, k = .int .u8 p.2.1 ∧ v = kv p.2.2
def KDL (L : Nat → Bool) (k v : Value) : Prop := ∃ p ∈ kdT, L p.1 = true ∧ k = .int .u8 p.2.1 ∧ v = kv p.2.2
def kdI (W : World) (s : Nat) (L : Nat → Bool) (w : World) : Prop := Below W.heap.size W w ∧ (L 0 = true → W.heap.size ≤ s ∧ MapIn w s (.int .u8) (KDL L))
def kdV (f : Value) (s : Nat) : Nat → Value
 | 0 | 33 | 34 => .map (some s)
 | 1 | 3 => kv [0, 0, 0, 0, 0, 1]
 | 5 | 7 | 9 => kv [2, 2, 0, 0, 0, 0]
 | 11 | 14 | 20 | 30 => kv [1, 1, 0, 0, 0, 0]
 | 13 | 19 | 29 => f
 | 15 => kv [1, 1, 0, 31, 0, 0]
 | 17 => kv [2, 2, 1, 8, 8, 0]
 | 21 => kv [1, 1, 1, 64, 0, 0]
 | 23 => kv [1, 1, 0, 0, 0, 1]
 | 25 => kv [1, 1, 0, 0, 0, 2]
 | 27 => kv [1, 4, 0, 3, 0, 0]
 | 31 => kv [1, 1, 0, 3, 0, 0]
 | _ => undef
theorem upd_ne {L : Nat → Bool} {i j : Nat} (h : i ≠ j) : upd L i j = L j := by
 unfold upd
 cases hb : Nat.beq i j with
 | false => rfl
 | true => exact absurd (Nat.eq_of_beq_eq_true hb) h
theorem upd_self {L : Nat → Bool} {i : Nat} : upd L i i = true := by
 unfold upd; rw [Nat.beq_refl]; rfl
/-- An operation that puts nothing in. -/
theorem kd_no {W w w' : World} {s i : Nat} {L : Nat → Bool} (h : kdI W s L w) (g : Below w.heap.size w w') (h0 : i ≠ 0) (hi : ∀ p ∈ kdT, i ≠ p.1) : kdI W s (upd L i) w' := by
 refine ⟨h.1.trans (g.mono (below_size h.1)), fun hl => ?_⟩
 rw [upd_ne h0] at hl
 obtain ⟨h1, h2⟩ := h.2 hl
 refine ⟨h1, (h2.bs g).congr fun k v => ⟨fun ⟨p, hp, q⟩ => ⟨p, hp, by rw [upd_ne (hi p hp)]; exact q⟩, fun ⟨p, hp, q⟩ => ⟨p, hp, by rw [upd_ne (hi p hp)] at q; exact q⟩⟩⟩
/-- One that puts a row in. -/
theorem kd_in {W w w' : World} {s i : Nat} {n : Int} {l : List Int} {L : Nat → Bool} (h : kdI W s L w) (h0 : L 0 = true) (hm : (i, n, l) ∈ kdT) (hu : ∀ p ∈ kdT, p.1 = i → p = (i, n, l)) 
  (g : MapIn w' s (.int .u8) (fun k v => KDL L k v ∨ (k = .int .u8 n ∧ v = kv l)) ∧ w.grownBy w' (some s) ∧ w'.heap.size = w.heap.size) : kdI W s (upd L i) w' := by
 obtain ⟨h1, h2⟩ := h.2 h0
 refine ⟨h.1.grown g.2.1 (below_size h.1) (by rintro _ ⟨⟩; exact h1), fun _ => ⟨h1, g.1.congr fun k v => ⟨?_, ?_⟩⟩⟩
 ·rintro (⟨p, hp, hl, hk⟩ | ⟨rfl, rfl⟩)
  ·exact ⟨p, hp, by unfold upd; rw [hl, Bool.or_true], hk⟩
  ·exact ⟨_, hm, upd_self, rfl, rfl⟩
 ·rintro ⟨p, hp, hl, hk, hv⟩
  by_cases e : p.1 = i
  ·obtain rfl := hu p hp e
   exact .inr ⟨hk, hv⟩
  ·rw [upd_ne (Ne.symm e)] at hl
   exact .inl ⟨p, hp, hl, hk, hv⟩
theorem kd_new {L : Nat → Bool} {i : Nat} {n : Int} (hl : L i = false) (hu : ∀ p ∈ kdT, p.2.1 = n → p.1 = i) : ∀ v, ¬ KDL L (.int .u8 n) v := by
 rintro v ⟨p, hp, h1, h2, -⟩
 have h3 : n = p.2.1 := by cases h2; rfl
 rw [hu p hp h3.symm, hl] at h1; cases h1
theorem kv_one (l : List Int) : (l.map (Value.int .i64)).all (·.oneCell') = true := one_map (fun _ => rfl) l
theorem bt_kind (a b : Int) : Tryz.prog.built 76 [(0, .int .i64 a), (1, .int .i64 b)] = some ([a, b, 0, 0, 0, 0].map (Value.int .i64)).toArray := by
 have h1 : Tryz.prog.info? 76 = some Tryz.t76 := by kernel_rfl
 have h2 : Tryz.prog.info? 3 = some Tryz.t3 := by kernel_rfl
 simp [Program.built, h1, Tryz.underlying76, h2, Instr.fill, Value.cells]
 rfl
theorem with_c (a b lo hi : Int) (w : World) : Fnc Tryz.prog 62 [kv [a, b, 0, 0, 0, 0], .int .i64 lo, .int .i64 hi] w (fun r w' => r = kv [a, b, lo, hi, 0, 0] ∧ Below w.heap.size w w') := by
 have hB := Below.refl w.heap.size w
 refine Fnc.enter (n := 12) Tryz.func62 (by kernel_rfl) rfl rfl rfl <| Cw.seq <| Cw.region ?_
 obtain ⟨B, hBs⟩ : ∃ B, B = w.heap.size := ⟨_, rfl⟩
 refine Lw.boxV (cs := [a, b, 0, 0, 0, 0].map (Value.int .i64)) rfl rfl rfl ?_
 rintro A_k w eA_k b_k hn -
 replace hB := hB.bs hn
 clear hn
 have zk := blk_lt b_k
 refine Lw.newA it_76 rfl ?_
 rintro A_r w eA_r b_r hn -
 replace hB := hB.bs hn
 replace b_k := b_k.bs hn
 clear hn
 refine Lw.nil <| Pw.thenN <| Cw.out <| Cw.seq <| Cw.region <| Lw.val (Ex.move rfl) rfl <| Lw.val (Ex.move rfl) rfl <| Lw.val (Ex.fieldAddr (q := 0) Tryz.underlying76 rfl (sz_3 _) rfl) rfl ?_
 have zr := blk_lt b_r
 have z0 := below_size hB
 refine Lw.unit (Xu.stB (u := .int .i64 lo) (sz_3 _) rfl rfl rfl b_k (show 2 < 6 by decide)) ?_
 rintro w1 ⟨b_k, hg1, hz1⟩
 have b_r := b_r.by hg1 (by rintro ⟨⟩; omega)
 refine Lw.val (Ex.fieldAddr (q := 0) Tryz.underlying76 rfl (sz_3 _) rfl) rfl <| Lw.unit (Xu.stB (u := .int .i64 hi) (sz_3 _) rfl rfl rfl b_k (show 3 < 6 by decide)) ?_
 rintro w2 ⟨b_k, hg2, hz2⟩
 have b_r := b_r.by hg2 (by rintro ⟨⟩; omega)
 have b_k : Blk w2 A_k 76 ([a, b, lo, hi, 0, 0].map (Value.int .i64)) := b_k
 refine Lw.nil <| Pw.thenN <| Cw.out <| Cw.seq <| Cw.region <| Lw.val (Ex.ldA (k := 6) (ag_76 _) (sz_76 _) rfl rfl b_k) rfl <| Lw.unit (Xu.stA (cs := [a, b, lo, hi, 0, 0].map (Value.int .i64)) (k := 6) (by kernel_rfl) rfl rfl rfl (kv_one _) b_r rfl) ?_
 rintro w3 ⟨b_r, hg3, hz3⟩
 have hB1 := ((hB.grown hg1 z0 (by rintro _ ⟨⟩; omega)).grown hg2 (by omega) (by rintro _ ⟨⟩; omega)).grown hg3 (by omega) (by rintro _ ⟨⟩; omega)
 refine Lw.nil <| Pw.thenN <| Cw.out <| Cw.ret <| Pw.retC rfl rfl (by assumption) (Tryz.underlying76) rfl rfl rfl ?_
 exact ⟨rfl, hB1⟩
set_option maxRecDepth 4000 in
theorem kinds_c (w : World) : Fnc Tryz.prog 35 [] w (fun r w' => Below w.heap.size w w' ∧ ∃ M, r = .map (some M) ∧ w.heap.size ≤ M ∧ MapIn w' M (.int .u8) KD) := by
 have hB := Below.refl w.heap.size w
 refine Fnc.enter (n := 37) Tryz.func35 (by kernel_rfl) rfl rfl rfl <| Cw.seq <| Cw.region <| Lw.val (Ex.assign rfl) rfl <| Lw.nil <| Pw.thenN <| Cw.out <| Cw.seq <| Cw.region <| Lw.val (Ex.build (vs := [(0, .int .i64 1), (1, .int .i64 1)]) (cs := [1, 1, 0, 0, 0, 0].map (Value.int .i64)) rfl (bt_kind 1 1)) rfl <| Lw.val (Ex.build (vs := [(0, .int .i64 2), (1, .int .i64 2)]) (cs := [2, 2, 0, 0, 0, 0].map (Value.int .i64)) rfl (bt_kind 2 2)) rfl <| Lw.newA it_76 rfl ?_
 rintro A_one w eA_one b_one hn -
 replace hB := hB.bs hn
 clear hn
 have z1 := blk_lt b_one
 refine Lw.newA it_76 rfl ?_
 rintro A_two w eA_two b_two hn -
 replace hB := hB.bs hn
 replace b_one := b_one.bs hn
 clear hn
 have z2 := blk_lt b_two
 have z0 := below_size hB
 refine Lw.unit (Xu.stA (cs := [1, 1, 0, 0, 0, 0].map (Value.int .i64)) (k := 6) (by kernel_rfl) rfl rfl rfl (kv_one _) b_one rfl) ?_
 rintro w1 ⟨b_one, hg1, hz1⟩
 have b_two := b_two.by hg1 (by rintro ⟨⟩; omega)
 refine Lw.unit (Xu.stA (cs := [2, 2, 0, 0, 0, 0].map (Value.int .i64)) (k := 6) (by kernel_rfl) rfl rfl rfl (kv_one _) b_two rfl) ?_
 rintro w2 ⟨b_two, hg2, hz2⟩
 have b_one := b_one.by hg2 (by rintro ⟨⟩; omega)
 have hB := (hB.grown hg1 z0 (by rintro _ ⟨⟩; omega)).grown hg2 (by omega) (by rintro _ ⟨⟩; omega)
 refine Lw.nil <| Pw.thenN <| Cw.out <| Cw.seq <| Cw.region <| Lw.val (Ex.assign rfl) rfl <| Lw.nil <| Pw.thenN <| Cw.out <| Cw.seq <| Cw.region <| Lw.val (Ex.move rfl) rfl <| Lw.val (Ex.ldA (k := 6) (ag_76 _) (sz_76 _) rfl rfl b_two) rfl <| Lw.callV (p := []) (q := []) rfl rfl rfl (with_c 2 2 1 8 w2) ?_
 rintro _ w3 ⟨rfl, hn3⟩
 have b_one := b_one.bs hn3
 have b_two := b_two.bs hn3
 have z3 := hn3.size
 have hB := hB.trans (hn3.mono (below_size hB))
 refine Lw.valW (Xw.new it_76) rfl ?_
 rintro _ w4 ⟨rfl, b_win, hn4, hz4⟩
 have b_one := b_one.bs hn4
 have b_two := b_two.bs hn4
 refine Lw.unit (Xu.stA (cs := [2, 2, 1, 8, 0, 0].map (Value.int .i64)) (k := 6) (by kernel_rfl) rfl rfl rfl (kv_one _) b_win rfl) ?_
 rintro w5 ⟨b_win, hg5, hz5⟩
 have b_one := b_one.by hg5 (by rintro ⟨⟩; omega)
 have b_two := b_two.by hg5 (by rintro ⟨⟩; omega)
 have hB := (hB.trans (hn4.mono (below_size hB))).grown hg5 (by omega) (by rintro _ ⟨⟩; omega)
 refine Lw.nil <| Pw.thenN <| Cw.out <| Cw.seq <| Cw.region <| Lw.val (Ex.fieldAddr (q := 0) Tryz.underlying76 rfl (sz_3 _) rfl) rfl <| Lw.unit (Xu.stB (u := .int .i64 8) (sz_3 _) rfl rfl rfl b_win (show 4 < 6 by decide)) ?_
 rintro w6 ⟨b_win, hg6, hz6⟩
 have b_win : Blk w6 w3.heap.size 76 ([2, 2, 1, 8, 8, 0].map (Value.int .i64)) := b_win
 have b_one := b_one.by hg6 (by rintro ⟨⟩; omega)
 have b_two := b_two.by hg6 (by rintro ⟨⟩; omega)
 have hB := hB.grown hg6 (by omega) (by rintro _ ⟨⟩; omega)
 refine Lw.nil <| Pw.thenN <| Cw.out <| Cw.seq <| Cw.region <| Lw.val (Ex.move rfl) rfl <| Lw.val (Ex.ldA (k := 6) (ag_76 _) (sz_76 _) rfl rfl b_one) rfl <| Lw.callV (p := []) (q := []) rfl rfl rfl (with_c 1 1 0 3 w6) ?_
 rintro _ w7 ⟨rfl, hn7⟩
 have b_one := b_one.bs hn7
 have b_two := b_two.bs hn7
 have b_win := b_win.bs hn7
 have z7 := hn7.size
 have hB := hB.trans (hn7.mono (below_size hB))
 refine Lw.valW (Xw.new it_76) rfl ?_
 rintro _ w8 ⟨rfl, b_join, hn8, hz8⟩
 have b_one := b_one.bs hn8
 have b_two := b_two.bs hn8
 have b_win := b_win.bs hn8
 refine Lw.unit (Xu.stA (cs := [1, 1, 0, 3, 0, 0].map (Value.int .i64)) (k := 6) (by kernel_rfl) rfl rfl rfl (kv_one _) b_join rfl) ?_
 rintro w9 ⟨b_join, hg9, hz9⟩
 have b_one := b_one.by hg9 (by rintro ⟨⟩; omega)
 have b_two := b_two.by hg9 (by rintro ⟨⟩; omega)
 have b_win := b_win.by hg9 (fun e => by have := Option.some.inj e; omega)
 have hB := (hB.trans (hn8.mono (below_size hB))).grown hg9 (by omega) (by rintro _ ⟨⟩; omega)
 refine Lw.nil <| Pw.thenN <| Cw.out <| Cw.seq <| Cw.region <| Lw.val (Ex.fieldAddr (q := 0) Tryz.underlying76 rfl (sz_3 _) rfl) rfl <| Lw.unit (Xu.stB (u := .int .i64 4) (sz_3 _) rfl rfl rfl b_join (show 1 < 6 by decide)) ?_
 rintro w10 ⟨b_join, hg10, hz10⟩
 have b_join : Blk w10 w7.heap.size 76 ([1, 4, 0, 3, 0, 0].map (Value.int .i64)) := b_join
 have b_one := b_one.by hg10 (by rintro ⟨⟩; omega)
 have b_two := b_two.by hg10 (by rintro ⟨⟩; omega)
 have b_win := b_win.by hg10 (fun e => by have := Option.some.inj e; omega)
 have hB := hB.grown hg10 (by omega) (by rintro _ ⟨⟩; omega)
 refine Lw.nil <| Pw.thenN <| Cw.out <| Cw.seq ?_
 refine Cw.inv (kdV (.func (.func 62) #[] #[])) (kdI w10) (0) mixed (by kernel_rfl) ?_ ?_ ?_
 ·exact fun w' h => ⟨h, fun h => by cases h⟩
 ·refine AllOps.cons (fun s L w2 hI hl hd hcl => ?_) ?_
  ·refine Ow.mk (Xw.makeMap (d := .int .u8)) ?_
   rintro _ w3 ⟨rfl, hM, hn3, -⟩
   have hno : ∀ k q, nth _ k = some q → 0 ∈ depsOf q → L k = false := fun k q hq h0 => by
    cases hk : L k with
    | false => rfl
    | true => rw [hcl k q hq hk 0 h0] at hl; cases hl
   have n33 := hno 33 _ rfl (by decide)
   have n34 : L 34 = false := by
    cases hk : L 34 with
    | false => rfl
    | true => rw [hcl 34 _ rfl hk 33 (by decide)] at n33; cases n33
   have nin : ∀ p ∈ kdT, L p.1 = false := fun p hp => by
    simp only [kdT, List.mem_cons, List.not_mem_nil, or_false] at hp
    rcases hp with rfl | rfl | rfl | rfl | rfl | rfl | rfl | rfl | rfl | rfl | rfl | rfl | rfl <;> exact hno _ _ rfl (by decide)
   refine ⟨w2.heap.size, ⟨hI.1.trans (hn3.mono (below_size hI.1)), fun _ => ⟨below_size hI.1, hM.congr fun k v => ⟨fun h => h.elim, fun ⟨p, hp, hl, _⟩ => ?_⟩⟩⟩, fun j hj => ?_, fun _ => rfl⟩
   ·have hp0 : ∀ p ∈ kdT, (0 : Nat) ≠ p.1 := by decide
    rw [upd_ne (hp0 p hp), nin p hp] at hl; cases hl
   ·have j0 : j ≠ 0 := fun e => by rw [e, hl] at hj; cases hj
    have j33 : j ≠ 33 := fun e => by rw [e, n33] at hj; cases hj
    have j34 : j ≠ 34 := fun e => by rw [e, n34] at hj; cases hj
    unfold kdV
    split <;> first | rfl | omega
  refine AllOps.cons (fun s L w2 hI hl hd hcl => ?_) ?_
  ·exact Ow.val (Ex.build (vs := [(5, .int .i64 1)]) (cs := [0, 0, 0, 0, 0, 1].map (Value.int .i64)) rfl (by kernel_rfl)) ⟨s, kd_no hI (Below.refl _ _) (by decide) (by decide), fun _ _ => rfl, fun _ => rfl⟩
  refine AllOps.cons (fun s L w2 hI hl hd hcl => ?_) ?_
  ·refine Ow.unit (Xu.insert (M := s) (S := KDL L) (k := .int .u8 1) (u := kv [0, 0, 0, 0, 0, 1]) (d := .int .u8) Tryz.underlying71 un_43 rfl rfl rfl rfl (hI.2 (hd 0 (by decide))).2 (kd_new hl (by decide))) ?_
   exact fun w3 g => ⟨s, kd_in (i := 2) (n := 1) (l := [0, 0, 0, 0, 0, 1]) hI (hd 0 (by decide)) (by decide) (by decide) g, fun _ _ => rfl, fun h => by cases h⟩
  refine AllOps.cons (fun s L w2 hI hl hd hcl => ?_) ?_
  ·exact Ow.val (Ex.build (vs := [(5, .int .i64 1)]) (cs := [0, 0, 0, 0, 0, 1].map (Value.int .i64)) rfl (by kernel_rfl)) ⟨s, kd_no hI (Below.refl _ _) (by decide) (by decide), fun _ _ => rfl, fun _ => rfl⟩
  refine AllOps.cons (fun s L w2 hI hl hd hcl => ?_) ?_
  ·refine Ow.unit (Xu.insert (M := s) (S := KDL L) (k := .int .u8 2) (u := kv [0, 0, 0, 0, 0, 1]) (d := .int .u8) Tryz.underlying71 un_43 rfl rfl rfl rfl (hI.2 (hd 0 (by decide))).2 (kd_new hl (by decide))) ?_
   exact fun w3 g => ⟨s, kd_in (i := 4) (n := 2) (l := [0, 0, 0, 0, 0, 1]) hI (hd 0 (by decide)) (by decide) (by decide) g, fun _ _ => rfl, fun h => by cases h⟩
  refine AllOps.cons (fun s L w2 hI hl hd hcl => ?_) ?_
  ·exact Ow.val (Ex.ldA (k := 6) (ag_76 _) (sz_76 _) rfl rfl (b_two.bs hI.1)) ⟨s, kd_no hI (Below.refl _ _) (by decide) (by decide), fun _ _ => rfl, fun _ => rfl⟩
  refine AllOps.cons (fun s L w2 hI hl hd hcl => ?_) ?_
  ·refine Ow.unit (Xu.insert (M := s) (S := KDL L) (k := .int .u8 3) (u := kv [2, 2, 0, 0, 0, 0]) (d := .int .u8) Tryz.underlying71 un_43 rfl rfl rfl rfl (hI.2 (hd 0 (by decide))).2 (kd_new hl (by decide))) ?_
   exact fun w3 g => ⟨s, kd_in (i := 6) (n := 3) (l := [2, 2, 0, 0, 0, 0]) hI (hd 0 (by decide)) (by decide) (by decide) g, fun _ _ => rfl, fun h => by cases h⟩
  refine AllOps.cons (fun s L w2 hI hl hd hcl => ?_) ?_
  ·exact Ow.val (Ex.ldA (k := 6) (ag_76 _) (sz_76 _) rfl rfl (b_two.bs hI.1)) ⟨s, kd_no hI (Below.refl _ _) (by decide) (by decide), fun _ _ => rfl, fun _ => rfl⟩
  refine AllOps.cons (fun s L w2 hI hl hd hcl => ?_) ?_
  ·refine Ow.unit (Xu.insert (M := s) (S := KDL L) (k := .int .u8 4) (u := kv [2, 2, 0, 0, 0, 0]) (d := .int .u8) Tryz.underlying71 un_43 rfl rfl rfl rfl (hI.2 (hd 0 (by decide))).2 (kd_new hl (by decide))) ?_
   exact fun w3 g => ⟨s, kd_in (i := 8) (n := 4) (l := [2, 2, 0, 0, 0, 0]) hI (hd 0 (by decide)) (by decide) (by decide) g, fun _ _ => rfl, fun h => by cases h⟩
  refine AllOps.cons (fun s L w2 hI hl hd hcl => ?_) ?_
  ·exact Ow.val (Ex.ldA (k := 6) (ag_76 _) (sz_76 _) rfl rfl (b_two.bs hI.1)) ⟨s, kd_no hI (Below.refl _ _) (by decide) (by decide), fun _ _ => rfl, fun _ => rfl⟩
  refine AllOps.cons (fun s L w2 hI hl hd hcl => ?_) ?_
  ·refine Ow.unit (Xu.insert (M := s) (S := KDL L) (k := .int .u8 7) (u := kv [2, 2, 0, 0, 0, 0]) (d := .int .u8) Tryz.underlying71 un_43 rfl rfl rfl rfl (hI.2 (hd 0 (by decide))).2 (kd_new hl (by decide))) ?_
   exact fun w3 g => ⟨s, kd_in (i := 10) (n := 7) (l := [2, 2, 0, 0, 0, 0]) hI (hd 0 (by decide)) (by decide) (by decide) g, fun _ _ => rfl, fun h => by cases h⟩
  refine AllOps.cons (fun s L w2 hI hl hd hcl => ?_) ?_
  ·exact Ow.val (Ex.ldA (k := 6) (ag_76 _) (sz_76 _) rfl rfl (b_one.bs hI.1)) ⟨s, kd_no hI (Below.refl _ _) (by decide) (by decide), fun _ _ => rfl, fun _ => rfl⟩
  refine AllOps.cons (fun s L w2 hI hl hd hcl => ?_) ?_
  ·refine Ow.unit (Xu.insert (M := s) (S := KDL L) (k := .int .u8 5) (u := kv [1, 1, 0, 0, 0, 0]) (d := .int .u8) Tryz.underlying71 un_43 rfl rfl rfl rfl (hI.2 (hd 0 (by decide))).2 (kd_new hl (by decide))) ?_
   exact fun w3 g => ⟨s, kd_in (i := 12) (n := 5) (l := [1, 1, 0, 0, 0, 0]) hI (hd 0 (by decide)) (by decide) (by decide) g, fun _ _ => rfl, fun h => by cases h⟩
  refine AllOps.cons (fun s L w2 hI hl hd hcl => ?_) ?_
  ·exact Ow.val (Ex.move rfl) ⟨s, kd_no hI (Below.refl _ _) (by decide) (by decide), fun _ _ => rfl, fun _ => rfl⟩
  refine AllOps.cons (fun s L w2 hI hl hd hcl => ?_) ?_
  ·exact Ow.val (Ex.ldA (k := 6) (ag_76 _) (sz_76 _) rfl rfl (b_one.bs hI.1)) ⟨s, kd_no hI (Below.refl _ _) (by decide) (by decide), fun _ _ => rfl, fun _ => rfl⟩
  refine AllOps.cons (fun s L w2 hI hl hd hcl => ?_) ?_
  ·exact Ow.call (Xc.val (p := []) (q := []) (vs := [kv [1, 1, 0, 0, 0, 0], .int .i64 0, .int .i64 31]) (with_c 1 1 0 31 w2).1 rfl rfl) (with_c 1 1 0 31 w2) (fun _ w3 ⟨e, g⟩ => ⟨s, kd_no hI g (by decide) (by decide), fun _ _ => rfl, fun _ => e⟩)
  refine AllOps.cons (fun s L w2 hI hl hd hcl => ?_) ?_
  ·refine Ow.unit (Xu.insert (M := s) (S := KDL L) (k := .int .u8 6) (u := kv [1, 1, 0, 31, 0, 0]) (d := .int .u8) Tryz.underlying71 un_43 rfl rfl rfl rfl (hI.2 (hd 0 (by decide))).2 (kd_new hl (by decide))) ?_
   exact fun w3 g => ⟨s, kd_in (i := 16) (n := 6) (l := [1, 1, 0, 31, 0, 0]) hI (hd 0 (by decide)) (by decide) (by decide) g, fun _ _ => rfl, fun h => by cases h⟩
  refine AllOps.cons (fun s L w2 hI hl hd hcl => ?_) ?_
  ·exact Ow.val (Ex.ldA (k := 6) (ag_76 _) (sz_76 _) rfl rfl (b_win.bs hI.1)) ⟨s, kd_no hI (Below.refl _ _) (by decide) (by decide), fun _ _ => rfl, fun _ => rfl⟩
  refine AllOps.cons (fun s L w2 hI hl hd hcl => ?_) ?_
  ·refine Ow.unit (Xu.insert (M := s) (S := KDL L) (k := .int .u8 8) (u := kv [2, 2, 1, 8, 8, 0]) (d := .int .u8) Tryz.underlying71 un_43 rfl rfl rfl rfl (hI.2 (hd 0 (by decide))).2 (kd_new hl (by decide))) ?_
   exact fun w3 g => ⟨s, kd_in (i := 18) (n := 8) (l := [2, 2, 1, 8, 8, 0]) hI (hd 0 (by decide)) (by decide) (by decide) g, fun _ _ => rfl, fun h => by cases h⟩
  refine AllOps.cons (fun s L w2 hI hl hd hcl => ?_) ?_
  ·exact Ow.val (Ex.move rfl) ⟨s, kd_no hI (Below.refl _ _) (by decide) (by decide), fun _ _ => rfl, fun _ => rfl⟩
  refine AllOps.cons (fun s L w2 hI hl hd hcl => ?_) ?_
  ·exact Ow.val (Ex.ldA (k := 6) (ag_76 _) (sz_76 _) rfl rfl (b_one.bs hI.1)) ⟨s, kd_no hI (Below.refl _ _) (by decide) (by decide), fun _ _ => rfl, fun _ => rfl⟩
  refine AllOps.cons (fun s L w2 hI hl hd hcl => ?_) ?_
  ·exact Ow.call (Xc.val (p := []) (q := []) (vs := [kv [1, 1, 0, 0, 0, 0], .int .i64 1, .int .i64 64]) (with_c 1 1 1 64 w2).1 rfl rfl) (with_c 1 1 1 64 w2) (fun _ w3 ⟨e, g⟩ => ⟨s, kd_no hI g (by decide) (by decide), fun _ _ => rfl, fun _ => e⟩)
  refine AllOps.cons (fun s L w2 hI hl hd hcl => ?_) ?_
  ·refine Ow.unit (Xu.insert (M := s) (S := KDL L) (k := .int .u8 9) (u := kv [1, 1, 1, 64, 0, 0]) (d := .int .u8) Tryz.underlying71 un_43 rfl rfl rfl rfl (hI.2 (hd 0 (by decide))).2 (kd_new hl (by decide))) ?_
   exact fun w3 g => ⟨s, kd_in (i := 22) (n := 9) (l := [1, 1, 1, 64, 0, 0]) hI (hd 0 (by decide)) (by decide) (by decide) g, fun _ _ => rfl, fun h => by cases h⟩
  refine AllOps.cons (fun s L w2 hI hl hd hcl => ?_) ?_
  ·exact Ow.val (Ex.build (vs := [(0, .int .i64 1), (1, .int .i64 1), (5, .int .i64 1)]) (cs := [1, 1, 0, 0, 0, 1].map (Value.int .i64)) rfl (by kernel_rfl)) ⟨s, kd_no hI (Below.refl _ _) (by decide) (by decide), fun _ _ => rfl, fun _ => rfl⟩
  refine AllOps.cons (fun s L w2 hI hl hd hcl => ?_) ?_
  ·refine Ow.unit (Xu.insert (M := s) (S := KDL L) (k := .int .u8 10) (u := kv [1, 1, 0, 0, 0, 1]) (d := .int .u8) Tryz.underlying71 un_43 rfl rfl rfl rfl (hI.2 (hd 0 (by decide))).2 (kd_new hl (by decide))) ?_
   exact fun w3 g => ⟨s, kd_in (i := 24) (n := 10) (l := [1, 1, 0, 0, 0, 1]) hI (hd 0 (by decide)) (by decide) (by decide) g, fun _ _ => rfl, fun h => by cases h⟩
  refine AllOps.cons (fun s L w2 hI hl hd hcl => ?_) ?_
  ·exact Ow.val (Ex.build (vs := [(0, .int .i64 1), (1, .int .i64 1), (5, .int .i64 2)]) (cs := [1, 1, 0, 0, 0, 2].map (Value.int .i64)) rfl (by kernel_rfl)) ⟨s, kd_no hI (Below.refl _ _) (by decide) (by decide), fun _ _ => rfl, fun _ => rfl⟩
  refine AllOps.cons (fun s L w2 hI hl hd hcl => ?_) ?_
  ·refine Ow.unit (Xu.insert (M := s) (S := KDL L) (k := .int .u8 11) (u := kv [1, 1, 0, 0, 0, 2]) (d := .int .u8) Tryz.underlying71 un_43 rfl rfl rfl rfl (hI.2 (hd 0 (by decide))).2 (kd_new hl (by decide))) ?_
   exact fun w3 g => ⟨s, kd_in (i := 26) (n := 11) (l := [1, 1, 0, 0, 0, 2]) hI (hd 0 (by decide)) (by decide) (by decide) g, fun _ _ => rfl, fun h => by cases h⟩
  refine AllOps.cons (fun s L w2 hI hl hd hcl => ?_) ?_
  ·exact Ow.val (Ex.ldA (k := 6) (ag_76 _) (sz_76 _) rfl rfl (b_join.bs hI.1)) ⟨s, kd_no hI (Below.refl _ _) (by decide) (by decide), fun _ _ => rfl, fun _ => rfl⟩
  refine AllOps.cons (fun s L w2 hI hl hd hcl => ?_) ?_
  ·refine Ow.unit (Xu.insert (M := s) (S := KDL L) (k := .int .u8 12) (u := kv [1, 4, 0, 3, 0, 0]) (d := .int .u8) Tryz.underlying71 un_43 rfl rfl rfl rfl (hI.2 (hd 0 (by decide))).2 (kd_new hl (by decide))) ?_
   exact fun w3 g => ⟨s, kd_in (i := 28) (n := 12) (l := [1, 4, 0, 3, 0, 0]) hI (hd 0 (by decide)) (by decide) (by decide) g, fun _ _ => rfl, fun h => by cases h⟩
  refine AllOps.cons (fun s L w2 hI hl hd hcl => ?_) ?_
  ·exact Ow.val (Ex.move rfl) ⟨s, kd_no hI (Below.refl _ _) (by decide) (by decide), fun _ _ => rfl, fun _ => rfl⟩
  refine AllOps.cons (fun s L w2 hI hl hd hcl => ?_) ?_
  ·exact Ow.val (Ex.ldA (k := 6) (ag_76 _) (sz_76 _) rfl rfl (b_one.bs hI.1)) ⟨s, kd_no hI (Below.refl _ _) (by decide) (by decide), fun _ _ => rfl, fun _ => rfl⟩
  refine AllOps.cons (fun s L w2 hI hl hd hcl => ?_) ?_
  ·exact Ow.call (Xc.val (p := []) (q := []) (vs := [kv [1, 1, 0, 0, 0, 0], .int .i64 0, .int .i64 3]) (with_c 1 1 0 3 w2).1 rfl rfl) (with_c 1 1 0 3 w2) (fun _ w3 ⟨e, g⟩ => ⟨s, kd_no hI g (by decide) (by decide), fun _ _ => rfl, fun _ => e⟩)
  refine AllOps.cons (fun s L w2 hI hl hd hcl => ?_) ?_
  ·refine Ow.unit (Xu.insert (M := s) (S := KDL L) (k := .int .u8 13) (u := kv [1, 1, 0, 3, 0, 0]) (d := .int .u8) Tryz.underlying71 un_43 rfl rfl rfl rfl (hI.2 (hd 0 (by decide))).2 (kd_new hl (by decide))) ?_
   exact fun w3 g => ⟨s, kd_in (i := 32) (n := 13) (l := [1, 1, 0, 3, 0, 0]) hI (hd 0 (by decide)) (by decide) (by decide) g, fun _ _ => rfl, fun h => by cases h⟩
  refine AllOps.cons (fun s L w2 hI hl hd hcl => ?_) ?_
  ·exact Ow.val (Ex.move rfl) ⟨s, kd_no hI (Below.refl _ _) (by decide) (by decide), fun _ _ => rfl, fun _ => rfl⟩
  refine AllOps.cons (fun s L w2 hI hl hd hcl => ?_) ?_
  ·exact Ow.val (Ex.assign rfl) ⟨s, kd_no hI (Below.refl _ _) (by decide) (by decide), fun _ _ => rfl, fun _ => rfl⟩
  exact AllOps.nil
 intro s L w' hI hall
 have h0 := hI.2 (hall 0 (by decide))
 have h35 : ∀ p ∈ kdT, p.1 < 35 := by decide
 have hM : MapIn w' s (.int .u8) KD := h0.2.congr fun k v => ⟨fun ⟨p, hp, _, h⟩ => ⟨p, hp, h⟩, fun ⟨p, hp, h⟩ => ⟨p, hp, hall p.1 (h35 p hp), h⟩⟩
 have hBF := hB.trans (hI.1.mono (below_size hB))
 have zB := below_size hB
 refine Pw.thenN <| Cw.out <| Cw.ret <| Pw.ret1 rfl rfl ?_
 exact ⟨hBF, s, rfl, by omega, hM⟩
end Go.Proofs.YtmipoeanpnnjoaaGreat

/-! Contracts: is a node one of a kind; order; the shapes of nodes. -/
namespace Go.Proofs.YtmipoeanpnnjoaaGreat
open Go Go.Dd Go.RowKit
set_option maxRecDepth 100000

/-- A node, and where its lists lie. -/
structure N5 where
 k : BitVec 8
 x : Value
 y : Value
 i : List Int
 s : List Int
 n : Int
 p : Int
def N5.cells (a : N5) : List Value := [b8 a.k, a.x, a.y, .int .i64 a.n, .int .i64 a.p]
abbrev N5.v (a : N5) : Value := .agg a.cells.toArray
structure N5.at (w : World) (a : N5) : Prop where
 i : SlT (Value.int .i64) w a.x a.i
 s : SlT (Value.int .i64) w a.y a.s
theorem N5.at.bs {w w' : World} {a : N5} (h : N5.at w a) (g : Below w.heap.size w w') : N5.at w' a := ⟨h.i.bs g, h.s.bs g⟩
theorem N5.at.ones {w : World} {a : N5} (h : N5.at w a) : a.cells.all (·.oneCell') = true := by
 unfold N5.cells
 rw [List.all_cons, List.all_cons, List.all_cons, h.i.one', h.s.one']; rfl
/-- Whether a list has each number below its length, and is short. -/
def cov (l : List Int) : Bool := (List.range l.length).all fun i => l.contains (i : Int)
theorem cov_iff {l : List Int} : cov l = true ↔ ∀ j, j < l.length → l.contains (j : Int) = true := by
 unfold cov
 rw [List.all_eq_true]
 exact ⟨fun h j hj => h j (List.mem_range.2 hj), fun h j hj => h j (List.mem_range.1 hj)⟩
theorem cov_no {l : List Int} {j : Nat} (hj : j < l.length) (h : l.contains (j : Int) = false) : cov l = false := by
 cases hk : cov l with
 | false => rfl
 | true => rw [cov_iff.1 hk j hj] at h; cases h
def gord (l : List Int) : Bool := cov l && decide (l.length ≤ 4)
def kindB (least most lo hi ar sh : Int) (i s : List Int) (n p : Int) : Bool :=
 !(decide ((i.length : Int) < least) || decide (most < (i.length : Int)) || decide (n < lo) || decide (hi < n) || decide (p < 0) || decide (ar < p)) && (if sh = 0 then decide (s.length = 0) else if sh = 1 then Shapes.ok s else gord s)
theorem gorder_c (v : Value) (l : List Int) (w : World) (hv : SlT (Value.int .i64) w v l) : Fnc Tryz.prog 63 [v] w (fun r w' => r = .bool (gord l) ∧ Below w.heap.size w w') := by
 have hle := hv.le
 refine Fnc.enter (n := 17) Tryz.func63 (by kernel_rfl) rfl rfl rfl <| Cw.seq <| Cw.region <| Lw.val (Ex.assign rfl) rfl <| Lw.nil <| Pw.thenN <| Cw.out <| Cw.seq <| Cw.seq <| Cw.region <| Lw.val (Ex.move rfl) rfl <| Lw.val (Ex.lenS st_26 rfl (by assumption)) rfl ?_
 refine Lw.val (Ex.move rfl) rfl <| Lw.nil <| Pw.thenN <| Cw.out <| Cw.block ?_
 refine Cw.loop (S := Nat) (fun i => [(0, v), (5, .int .i64 (l.length : Int)), (6, .int .i64 (i : Int))]) (fun i w' => i ≤ l.length ∧ (∀ j, j < i → l.contains (j : Int) = true) ∧ Below w.heap.size w w') (fun i => l.length - i) (0) ⟨rfl, rfl, rfl, trivial⟩ ?_ ?_
 ·exact ⟨Nat.zero_le _, fun _ h => by omega, Below.refl _ _⟩
 rintro i w1 ⟨hi, hC, hB⟩
 have hv1 := hv.bs hB
 refine Cw.seq <| Cw.region <| Lw.val (Ex.lss rfl rfl) rfl <| Lw.nil <| Pw.thenN <| Cw.out <| Cw.seq <| Cw.cond rfl ?_ ?_
 ·intro h
  have hi' : i < l.length := by have := of_decide_eq_true h; omega
  refine Cw.skip <| Pw.thenN <| Cw.out <| Cw.seq <| Cw.block <| Cw.seq <| Cw.region <| Lw.val (Ex.move rfl) rfl <| Lw.val (Ex.assign rfl) rfl <| Lw.nil <| Pw.thenN <| Cw.out <| Cw.seq <| Cw.region <| Lw.val (Ex.move rfl) rfl <| Lw.val (Ex.move rfl) rfl <| Lw.callF rfl rfl (contains_c v l (i : Int) w1 hv1) ?_
  rintro _ w2 ⟨rfl, hn⟩
  have hB2 := hB.trans (hn.mono (below_size hB))
  refine Lw.val (Ex.not rfl) rfl <| Lw.nil <| Pw.thenN <| Cw.out <| Cw.cond rfl ?_ ?_
  ·intro g
   have g1 : l.contains (i : Int) = false := by simpa using g
   refine Cw.seq <| Cw.region <| Lw.val (Ex.assign rfl) rfl <| Lw.nil <| Pw.thenN <| Cw.out <| Cw.ret <| Pw.blkR <| Pw.thenR <| Pw.thenR <| Pw.blkR <| Pw.thenR <| Pw.ret1 rfl rfl ?_
   refine ⟨?_, hB2⟩
   unfold gord; rw [cov_no hi' g1]; rfl
  intro g
  have g1 : l.contains (i : Int) = true := by simpa using g
  refine Cw.skip <| Pw.blkN <| Pw.thenN <| Cw.out <| Cw.region <| Lw.val (Ex.addI rfl rfl (by omega)) rfl <| Lw.val (Ex.move rfl) rfl <| Lw.nil ?_
  exact Pw.thenN (Pw.next (i + 1) ⟨rfl, rfl, rfl, trivial⟩ (⟨hi', fun j hj => (Nat.lt_succ_iff_lt_or_eq.1 hj).elim (hC j) (fun e => e ▸ g1), hB2⟩) (by omega))
 intro h
 have hi' : i = l.length := by have := of_decide_eq_false h; omega
 subst hi'
 have hok : cov l = true := cov_iff.2 hC
 refine Cw.exit <| Pw.thenE <| Pw.thenE <| Pw.blkHit <| Pw.thenN <| Cw.out <| Cw.seq <| Cw.region <| Lw.val (Ex.move rfl) rfl <| Lw.val (Ex.lenS st_26 rfl (by assumption)) rfl ?_
 refine Lw.val (Ex.leq rfl rfl) rfl <| Lw.val (Ex.assign rfl) rfl <| Lw.nil <| Pw.thenN <| Cw.out <| Cw.ret <| Pw.ret1 rfl rfl ?_
 refine ⟨?_, hB⟩
 unfold gord; rw [hok, Bool.true_and]; congr 1; exact decide_eq_decide.2 (by omega)
theorem kindOf_c (a b lo hi ar sh : Int) (x : N5) (w : World) (hx : N5.at w x) :
  Fnc Tryz.prog 36 [kv [a, b, lo, hi, ar, sh], x.v] w (fun r w' => r = .bool (kindB a b lo hi ar sh x.i x.s x.n x.p) ∧ Below w.heap.size w w') := by
 have hB := Below.refl w.heap.size w
 have h_i := hx.i
 have h_s := hx.s
 refine Fnc.enter (n := 61) Tryz.func36 (by kernel_rfl) rfl rfl rfl <| Cw.seq <| Cw.region <| Lw.boxV (cs := [a, b, lo, hi, ar, sh].map (Value.int .i64)) rfl rfl rfl ?_
 rintro A_k w eA_k b_k hn -
 replace hB := hB.bs hn
 replace h_i := h_i.bs hn
 replace h_s := h_s.bs hn
 clear hn
 refine Lw.boxV (cs := x.cells) rfl rfl rfl ?_
 rintro A_x w eA_x b_x hn -
 replace hB := hB.bs hn
 replace h_i := h_i.bs hn
 replace h_s := h_s.bs hn
 replace b_k := b_k.bs hn
 clear hn
 refine Lw.val (Ex.assign rfl) rfl <| Lw.nil <| Pw.thenN <| Cw.out <| Cw.seq <| Cw.seq <| Cw.region <| Lw.val (Ex.fieldAddr (q := 0) Tryz.underlying45 rfl (sz_26 _) rfl) rfl <| Lw.val (Ex.ldB (ag_26 _) rfl (by assumption) rfl) rfl ?_
 refine Lw.val (Ex.lenS st_26 rfl (by assumption)) rfl ?_
 refine Lw.val (Ex.assign rfl) rfl <| Lw.nil <| Pw.thenN <| Cw.out <| Cw.seq <| Cw.region <| Lw.val (Ex.move rfl) rfl <| Lw.val (Ex.fieldAddr (q := 0) Tryz.underlying76 rfl (sz_3 _) rfl) rfl <| Lw.val (Ex.ldB (ag_3 _) rfl (by assumption) rfl) rfl ?_
 refine Lw.val (Ex.lss rfl rfl) rfl <| Lw.val (Ex.move rfl) rfl ?_
 refine Lw.part 13 rfl ?_ ?_
 ·intro g
  have g := of_decide_eq_true g
  refine Lw.pass (dj := 13) rfl rfl rfl rfl <| Lw.pass (dj := 13) rfl rfl rfl rfl <| Lw.pass (dj := 13) rfl rfl rfl rfl <| Lw.pass (dj := 13) rfl rfl rfl rfl <| Lw.val (Ex.pickT rfl rfl) rfl <| Lw.val (Ex.move rfl) rfl <| Lw.pass (dj := 19) rfl rfl rfl rfl <| Lw.pass (dj := 19) rfl rfl rfl rfl <| Lw.pass (dj := 19) rfl rfl rfl rfl <| Lw.pass (dj := 19) rfl rfl rfl rfl <| Lw.pass (dj := 19) rfl rfl rfl rfl <| Lw.val (Ex.pickT rfl rfl) rfl <| Lw.val (Ex.move rfl) rfl <| Lw.pass (dj := 26) rfl rfl rfl rfl <| Lw.pass (dj := 26) rfl rfl rfl rfl <| Lw.pass (dj := 26) rfl rfl rfl rfl <| Lw.pass (dj := 26) rfl rfl rfl rfl <| Lw.pass (dj := 26) rfl rfl rfl rfl <| Lw.val (Ex.pickT rfl rfl) rfl <| Lw.val (Ex.move rfl) rfl <| Lw.pass (dj := 33) rfl rfl rfl rfl <| Lw.pass (dj := 33) rfl rfl rfl rfl <| Lw.pass (dj := 33) rfl rfl rfl rfl <| Lw.val (Ex.pickT rfl rfl) rfl <| Lw.val (Ex.move rfl) rfl <| Lw.pass (dj := 38) rfl rfl rfl rfl <| Lw.pass (dj := 38) rfl rfl rfl rfl <| Lw.pass (dj := 38) rfl rfl rfl rfl <| Lw.pass (dj := 38) rfl rfl rfl rfl <| Lw.pass (dj := 38) rfl rfl rfl rfl <| Lw.val (Ex.pickT rfl rfl) rfl <| Lw.nil <| Pw.thenN <| Cw.out <| Cw.condT rfl <| Cw.seq <| Cw.region <| Lw.val (Ex.assign rfl) rfl <| Lw.nil <| Pw.thenN <| Cw.out <| Cw.ret <| Pw.thenR <| Pw.ret1 rfl rfl ?_
  refine ⟨?_, hB⟩
  unfold kindB
  simp [g]
 intro g1
 have g1 := of_decide_eq_false g1
 refine Lw.take (dj := 13) rfl rfl <| Lw.val (Ex.move rfl) rfl <| Lw.take (dj := 13) rfl rfl <| Lw.val (Ex.fieldAddr (q := 0) Tryz.underlying76 rfl (sz_3 _) rfl) rfl <| Lw.take (dj := 13) rfl rfl <| Lw.val (Ex.ldB (ag_3 _) rfl (by assumption) rfl) rfl ?_
 refine Lw.take (dj := 13) rfl rfl <| Lw.val (Ex.gtr rfl rfl) rfl <| Lw.val (Ex.pickF rfl rfl) rfl <| Lw.val (Ex.move rfl) rfl ?_
 refine Lw.part 19 rfl ?_ ?_
 ·intro g
  have g := of_decide_eq_true g
  refine Lw.pass (dj := 19) rfl rfl rfl rfl <| Lw.pass (dj := 19) rfl rfl rfl rfl <| Lw.pass (dj := 19) rfl rfl rfl rfl <| Lw.pass (dj := 19) rfl rfl rfl rfl <| Lw.pass (dj := 19) rfl rfl rfl rfl <| Lw.val (Ex.pickT rfl rfl) rfl <| Lw.val (Ex.move rfl) rfl <| Lw.pass (dj := 26) rfl rfl rfl rfl <| Lw.pass (dj := 26) rfl rfl rfl rfl <| Lw.pass (dj := 26) rfl rfl rfl rfl <| Lw.pass (dj := 26) rfl rfl rfl rfl <| Lw.pass (dj := 26) rfl rfl rfl rfl <| Lw.val (Ex.pickT rfl rfl) rfl <| Lw.val (Ex.move rfl) rfl <| Lw.pass (dj := 33) rfl rfl rfl rfl <| Lw.pass (dj := 33) rfl rfl rfl rfl <| Lw.pass (dj := 33) rfl rfl rfl rfl <| Lw.val (Ex.pickT rfl rfl) rfl <| Lw.val (Ex.move rfl) rfl <| Lw.pass (dj := 38) rfl rfl rfl rfl <| Lw.pass (dj := 38) rfl rfl rfl rfl <| Lw.pass (dj := 38) rfl rfl rfl rfl <| Lw.pass (dj := 38) rfl rfl rfl rfl <| Lw.pass (dj := 38) rfl rfl rfl rfl <| Lw.val (Ex.pickT rfl rfl) rfl <| Lw.nil <| Pw.thenN <| Cw.out <| Cw.condT rfl <| Cw.seq <| Cw.region <| Lw.val (Ex.assign rfl) rfl <| Lw.nil <| Pw.thenN <| Cw.out <| Cw.ret <| Pw.thenR <| Pw.ret1 rfl rfl ?_
  refine ⟨?_, hB⟩
  unfold kindB
  simp [g]
 intro g2
 have g2 := of_decide_eq_false g2
 refine Lw.take (dj := 19) rfl rfl <| Lw.val (Ex.fieldAddr (q := 0) Tryz.underlying45 rfl (sz_3 _) rfl) rfl <| Lw.take (dj := 19) rfl rfl <| Lw.val (Ex.ldB (ag_3 _) rfl (by assumption) rfl) rfl ?_
 refine Lw.take (dj := 19) rfl rfl <| Lw.val (Ex.fieldAddr (q := 0) Tryz.underlying76 rfl (sz_3 _) rfl) rfl <| Lw.take (dj := 19) rfl rfl <| Lw.val (Ex.ldB (ag_3 _) rfl (by assumption) rfl) rfl ?_
 refine Lw.take (dj := 19) rfl rfl <| Lw.val (Ex.lss rfl rfl) rfl <| Lw.val (Ex.pickF rfl rfl) rfl <| Lw.val (Ex.move rfl) rfl ?_
 refine Lw.part 26 rfl ?_ ?_
 ·intro g
  have g := of_decide_eq_true g
  refine Lw.pass (dj := 26) rfl rfl rfl rfl <| Lw.pass (dj := 26) rfl rfl rfl rfl <| Lw.pass (dj := 26) rfl rfl rfl rfl <| Lw.pass (dj := 26) rfl rfl rfl rfl <| Lw.pass (dj := 26) rfl rfl rfl rfl <| Lw.val (Ex.pickT rfl rfl) rfl <| Lw.val (Ex.move rfl) rfl <| Lw.pass (dj := 33) rfl rfl rfl rfl <| Lw.pass (dj := 33) rfl rfl rfl rfl <| Lw.pass (dj := 33) rfl rfl rfl rfl <| Lw.val (Ex.pickT rfl rfl) rfl <| Lw.val (Ex.move rfl) rfl <| Lw.pass (dj := 38) rfl rfl rfl rfl <| Lw.pass (dj := 38) rfl rfl rfl rfl <| Lw.pass (dj := 38) rfl rfl rfl rfl <| Lw.pass (dj := 38) rfl rfl rfl rfl <| Lw.pass (dj := 38) rfl rfl rfl rfl <| Lw.val (Ex.pickT rfl rfl) rfl <| Lw.nil <| Pw.thenN <| Cw.out <| Cw.condT rfl <| Cw.seq <| Cw.region <| Lw.val (Ex.assign rfl) rfl <| Lw.nil <| Pw.thenN <| Cw.out <| Cw.ret <| Pw.thenR <| Pw.ret1 rfl rfl ?_
  refine ⟨?_, hB⟩
  unfold kindB
  simp [g]
 intro g3
 have g3 := of_decide_eq_false g3
 refine Lw.take (dj := 26) rfl rfl <| Lw.val (Ex.fieldAddr (q := 0) Tryz.underlying45 rfl (sz_3 _) rfl) rfl <| Lw.take (dj := 26) rfl rfl <| Lw.val (Ex.ldB (ag_3 _) rfl (by assumption) rfl) rfl ?_
 refine Lw.take (dj := 26) rfl rfl <| Lw.val (Ex.fieldAddr (q := 0) Tryz.underlying76 rfl (sz_3 _) rfl) rfl <| Lw.take (dj := 26) rfl rfl <| Lw.val (Ex.ldB (ag_3 _) rfl (by assumption) rfl) rfl ?_
 refine Lw.take (dj := 26) rfl rfl <| Lw.val (Ex.gtr rfl rfl) rfl <| Lw.val (Ex.pickF rfl rfl) rfl <| Lw.val (Ex.move rfl) rfl ?_
 refine Lw.part 33 rfl ?_ ?_
 ·intro g
  have g := of_decide_eq_true g
  refine Lw.pass (dj := 33) rfl rfl rfl rfl <| Lw.pass (dj := 33) rfl rfl rfl rfl <| Lw.pass (dj := 33) rfl rfl rfl rfl <| Lw.val (Ex.pickT rfl rfl) rfl <| Lw.val (Ex.move rfl) rfl <| Lw.pass (dj := 38) rfl rfl rfl rfl <| Lw.pass (dj := 38) rfl rfl rfl rfl <| Lw.pass (dj := 38) rfl rfl rfl rfl <| Lw.pass (dj := 38) rfl rfl rfl rfl <| Lw.pass (dj := 38) rfl rfl rfl rfl <| Lw.val (Ex.pickT rfl rfl) rfl <| Lw.nil <| Pw.thenN <| Cw.out <| Cw.condT rfl <| Cw.seq <| Cw.region <| Lw.val (Ex.assign rfl) rfl <| Lw.nil <| Pw.thenN <| Cw.out <| Cw.ret <| Pw.thenR <| Pw.ret1 rfl rfl ?_
  refine ⟨?_, hB⟩
  unfold kindB
  simp [g]
 intro g4
 have g4 := of_decide_eq_false g4
 refine Lw.take (dj := 33) rfl rfl <| Lw.val (Ex.fieldAddr (q := 0) Tryz.underlying45 rfl (sz_3 _) rfl) rfl <| Lw.take (dj := 33) rfl rfl <| Lw.val (Ex.ldB (ag_3 _) rfl (by assumption) rfl) rfl ?_
 refine Lw.take (dj := 33) rfl rfl <| Lw.val (Ex.lss rfl rfl) rfl <| Lw.val (Ex.pickF rfl rfl) rfl <| Lw.val (Ex.move rfl) rfl ?_
 refine Lw.part 38 rfl ?_ ?_
 ·intro g
  have g := of_decide_eq_true g
  refine Lw.pass (dj := 38) rfl rfl rfl rfl <| Lw.pass (dj := 38) rfl rfl rfl rfl <| Lw.pass (dj := 38) rfl rfl rfl rfl <| Lw.pass (dj := 38) rfl rfl rfl rfl <| Lw.pass (dj := 38) rfl rfl rfl rfl <| Lw.val (Ex.pickT rfl rfl) rfl <| Lw.nil <| Pw.thenN <| Cw.out <| Cw.condT rfl <| Cw.seq <| Cw.region <| Lw.val (Ex.assign rfl) rfl <| Lw.nil <| Pw.thenN <| Cw.out <| Cw.ret <| Pw.thenR <| Pw.ret1 rfl rfl ?_
  refine ⟨?_, hB⟩
  unfold kindB
  simp [g]
 intro g5
 have g5 := of_decide_eq_false g5
 refine Lw.take (dj := 38) rfl rfl <| Lw.val (Ex.fieldAddr (q := 0) Tryz.underlying45 rfl (sz_3 _) rfl) rfl <| Lw.take (dj := 38) rfl rfl <| Lw.val (Ex.ldB (ag_3 _) rfl (by assumption) rfl) rfl ?_
 refine Lw.take (dj := 38) rfl rfl <| Lw.val (Ex.fieldAddr (q := 0) Tryz.underlying76 rfl (sz_3 _) rfl) rfl <| Lw.take (dj := 38) rfl rfl <| Lw.val (Ex.ldB (ag_3 _) rfl (by assumption) rfl) rfl ?_
 refine Lw.take (dj := 38) rfl rfl <| Lw.val (Ex.gtr rfl rfl) rfl <| Lw.val (Ex.pickF rfl rfl) rfl <| Lw.nil <| Pw.thenN <| Cw.out <| Cw.cond rfl ?_ ?_
 ·intro g
  have g := of_decide_eq_true g
  refine Cw.seq <| Cw.region <| Lw.val (Ex.assign rfl) rfl <| Lw.nil <| Pw.thenN <| Cw.out <| Cw.ret <| Pw.thenR <| Pw.ret1 rfl rfl ?_
  refine ⟨?_, hB⟩
  unfold kindB
  simp [g]
 intro g6
 have g6 := of_decide_eq_false g6
 have e : kindB a b lo hi ar sh x.i x.s x.n x.p = if sh = 0 then decide (x.s.length = 0) else if sh = 1 then Shapes.ok x.s else gord x.s := by
  unfold kindB
  rw [decide_eq_false g1, decide_eq_false g2, decide_eq_false g3, decide_eq_false g4, decide_eq_false g5, decide_eq_false g6]; rfl
 rw [e]
 refine Cw.skip <| Pw.thenN <| Cw.out <| Cw.seq <| Cw.seq <| Cw.region <| Lw.val (Ex.fieldAddr (q := 0) Tryz.underlying76 rfl (sz_3 _) rfl) rfl <| Lw.val (Ex.ldB (ag_3 _) rfl (by assumption) rfl) rfl ?_
 refine Lw.nil <| Pw.thenN <| Cw.out <| Cw.block <| Cw.seq <| Cw.region <| Lw.val (Ex.eql rfl rfl) rfl <| Lw.val (Ex.assign rfl) rfl <| Lw.nil <| Pw.thenN <| Cw.out <| Cw.cond rfl ?_ ?_
 ·intro g
  have g := of_decide_eq_true g
  refine Cw.seq <| Cw.region <| Lw.val (Ex.fieldAddr (q := 0) Tryz.underlying45 rfl (sz_26 _) rfl) rfl <| Lw.val (Ex.ldB (ag_26 _) rfl (by assumption) rfl) rfl ?_
  refine Lw.val (Ex.lenS st_26 rfl (by assumption)) rfl ?_
  refine Lw.val (Ex.eql rfl rfl) rfl <| Lw.val (Ex.assign rfl) rfl <| Lw.nil <| Pw.thenN <| Cw.out <| Cw.ret <| Pw.blkR <| Pw.thenR <| Pw.ret1 rfl rfl ?_
  refine ⟨?_, hB⟩
  rw [if_pos g]; congr 1; exact decide_eq_decide.2 (by omega)
 intro g7
 have g7 := of_decide_eq_false g7
 rw [if_neg g7]
 refine Cw.seq <| Cw.region <| Lw.val (Ex.eql rfl rfl) rfl <| Lw.val (Ex.assign rfl) rfl <| Lw.nil <| Pw.thenN <| Cw.out <| Cw.cond rfl ?_ ?_
 ·intro g
  have g := of_decide_eq_true g
  rw [if_pos g]
  refine Cw.seq <| Cw.region <| Lw.val (Ex.fieldAddr (q := 0) Tryz.underlying45 rfl (sz_26 _) rfl) rfl <| Lw.val (Ex.ldB (ag_26 _) rfl (by assumption) rfl) rfl ?_
  refine Lw.callF rfl rfl (check_c x.y x.s w h_s) ?_
  rintro _ w ⟨rfl, hn⟩
  refine Lw.val (Ex.assign rfl) rfl <| Lw.nil <| Pw.thenN <| Cw.out <| Cw.ret <| Pw.blkR <| Pw.thenR <| Pw.ret1 rfl rfl ?_
  exact ⟨rfl, bt hB hn⟩
 intro g8
 have g8 := of_decide_eq_false g8
 rw [if_neg g8]
 refine Cw.skip <| Pw.blkN <| Pw.thenN <| Cw.out <| Cw.seq <| Cw.region <| Lw.val (Ex.fieldAddr (q := 0) Tryz.underlying45 rfl (sz_26 _) rfl) rfl <| Lw.val (Ex.ldB (ag_26 _) rfl (by assumption) rfl) rfl ?_
 refine Lw.callF rfl rfl (gorder_c x.y x.s w h_s) ?_
 rintro _ w ⟨rfl, hn⟩
 refine Lw.val (Ex.assign rfl) rfl <| Lw.nil <| Pw.thenN <| Cw.out <| Cw.ret <| Pw.ret1 rfl rfl ?_
 exact ⟨rfl, bt hB hn⟩
end Go.Proofs.YtmipoeanpnnjoaaGreat

/-! Contracts: shapes without a direction, turned, joined. -/
namespace Go.Proofs.YtmipoeanpnnjoaaGreat
open Go Go.Dd Go.RowKit
set_option maxRecDepth 100000

theorem del_c (v : Value) (l : List Int) (i B : Nat) (w : World) (ho : w.ownsRow B 3 1 v l.length (l.map (Value.int .i64))) (hi : i < l.length) (hB : B ≤ w.heap.size) (hl : l.length ≤ 1000000) :
  Fnc Tryz.prog 100 [v, .int .i64 (i : Int), .int .i64 ((i + 1 : Nat) : Int)] w (fun r w' => w'.ownsRow B 3 1 r (l.eraseIdx i).length ((l.eraseIdx i).map (Value.int .i64)) ∧ Below B w w') := by
 have hsl := own_sl ho
 obtain ⟨b, cap0, -, eg, -, -⟩ : ∃ b cap, v = .slice (some ⟨b, 0, none⟩) l.length cap ∧ v.ownBlock = some b ∧ True ∧ True := by
  rcases ho.2 with ⟨_, h0⟩ | ⟨g, cap, cur, rfl, -⟩
  ·omega
  ·exact ⟨g, cap, rfl, rfl, trivial, trivial⟩
 obtain ⟨cap, cur, rfl, hb, htk, h1, h2, h3, h4⟩ := own_cells ho eg
 rw [Nat.mul_one] at htk h3
 have hsl : SlT (Value.int .i64) w (.slice (some ⟨b, 0, none⟩) l.length cap) l := hsl
 have hsd := SlT.drop hsl (show i + 1 ≤ l.length by omega)
 obtain ⟨news, hnews⟩ : ∃ news, news = (l.drop (i + 1)).map (Value.int .i64) := ⟨_, rfl⟩
 have ln : news.length = l.length - (i + 1) := by rw [hnews, List.length_map, List.length_drop]
 have hsd : Sl w 1 (cut (.slice (some ⟨b, 0, none⟩) l.length cap) 1 (i + 1) l.length) (l.length - (i + 1)) news := by
  have := hsd; unfold SlT at this
  rwa [List.length_drop, ← hnews] at this
 have hcut : cut (.slice (some ⟨b, 0, none⟩) l.length cap) 1 0 i = .slice (some ⟨b, 0, none⟩) i cap := by
  unfold cut
  simp only [Nat.sub_zero]
  split
  ·rfl
  ·simp [add_lit]
 refine Fnc.enter (n := 33) Tryz.func100 (by kernel_rfl) rfl rfl rfl <| Cw.seq <| Cw.region <| Lw.val (Ex.assign rfl) rfl <| Lw.nil <| Pw.thenN <| Cw.out <| Cw.seq <| Cw.region <| Lw.val (Ex.move rfl) rfl <| Lw.val (Ex.move rfl) rfl <| Lw.val (Ex.move rfl) rfl <| Lw.val (Ex.move rfl) rfl <| Lw.val (Ex.lenS st_26 rfl (by assumption)) rfl ?_
 refine Lw.valW (Xw.cut3 st_26 rfl rfl rfl rfl (by omega) (by omega) h1) rfl ?_
 rintro _ w rfl
 refine Lw.nil <| Pw.thenN <| Cw.out <| Cw.seq <| Cw.seq <| Cw.region <| Lw.val (Ex.move rfl) rfl <| Lw.val (Ex.move rfl) rfl <| Lw.val (Ex.as (Ex.eql rfl rfl) (congrArg Value.bool (decide_eq_false (by omega)))) rfl <| Lw.nil <| Pw.thenN <| Cw.out <| Cw.condB rfl false (rfl) <| Cw.skip <| Pw.thenN <| Cw.out <| Cw.seq <| Cw.region <| Lw.val (Ex.move rfl) rfl <| Lw.val (Ex.lenS st_26 rfl (by assumption)) rfl ?_
 refine Lw.val (Ex.assign rfl) rfl <| Lw.nil <| Pw.thenN <| Cw.out <| Cw.seq <| Cw.tail 6 mixed (by kernel_rfl) <| Qw.val (fun w1 hq => Ex.move rfl) rfl <| Qw.val (fun w1 hq => Ex.move rfl) rfl <| Qw.val (fun w1 hq => Ex.as (Ex.cutHv st_26 rfl rfl hsl.shp (by omega)) hcut) rfl <| Qw.val (fun w1 hq => Ex.move rfl) rfl <| Qw.val (fun w1 hq => Ex.move rfl) rfl <| Qw.val (fun w1 hq => Ex.cutLv (i := i + 1) st_26 rfl rfl hsl.shp (by omega)) rfl ?_
 refine Qw.done (fun w1 hq => ?_)
 refine Lw.valW (Xw.appRoom st_26 it_3 rfl rfl (hb.bs hq) h3 (hsd.bs hq) (by rw [hnews]; exact one_map (fun _ => rfl) _) (by omega)) rfl ?_
 rintro _ w2 ⟨rfl, hb2, hg2, hz2⟩
 have e1 : i + (l.length - (i + 1)) = l.length - 1 := by omega
 rw [e1]
 have l2 : (spl cur i news).length = cap := by rw [spl_len (by omega)]; exact h3
 have b2 : (l.length : Int) = ((l.length - 1 + 1 : Nat) : Int) := by omega
 refine Lw.val (Ex.assign rfl) rfl <| Lw.nil <| Pw.thenN <| Cw.out <| Cw.seq <| Cw.region <| Lw.val (Ex.move rfl) rfl <| Lw.val (Ex.move rfl) rfl <| Lw.val (Ex.lenS st_26 rfl (own_sl (own_back (base := B) (sz := 1) hb2 (by rw [Nat.mul_one]; exact l2) (by omega) h2 h4))) rfl <| Lw.val (Ex.move rfl) rfl <| Lw.val (Ex.cutLHc st_26 rfl rfl rfl (show l.length - 1 ≤ l.length by omega) h1 (by omega)) rfl ?_
 have m1 : l.length - (l.length - 1) = 0 + 1 := by omega
 rw [m1]
 refine Lw.valU (Xw.clear (m := 0) st_26 it_3 rfl rfl hb2 (by omega)) ?_
 rintro _ w3 ⟨hb3, hg3, hz3⟩
 have ln1 : ((l.eraseIdx i).length) = l.length - 1 := by rw [List.length_eraseIdx, if_pos hi]
 have hcells : (spl (spl cur i news) (l.length - 1) (List.replicate (0 + 1) (Value.int .i64 0))).take ((l.length - 1) * 1) = (l.eraseIdx i).map (Value.int .i64) := by
  have e3 : spl (spl cur i news) (l.length - 1) (List.replicate (0 + 1) (Value.int .i64 0)) = (spl cur i news).take (l.length - 1) ++ (List.replicate (0 + 1) (Value.int .i64 0) ++ (spl cur i news).drop (l.length - 1 + 1)) := by simp [spl]
  rw [Nat.mul_one, e3, List.take_left' (by rw [List.length_take]; omega)]
  have e4 : spl cur i news = (cur.take i ++ news) ++ cur.drop (i + news.length) := by simp [spl]
  rw [e4, List.take_left' (by rw [List.length_append, List.length_take]; omega)]
  have e5 : cur.take i = (l.take i).map (Value.int .i64) := by
   have := congrArg (List.take i) htk
   rw [List.take_take, Nat.min_eq_left (by omega)] at this
   rw [this, List.map_take]
  rw [e5, hnews, ← List.map_append, List.eraseIdx_eq_take_drop_succ]
 have hF := own_back (base := B) (sz := 1) (n := l.length - 1) hb3 (by rw [Nat.mul_one, spl_len (by simp; omega)]; exact l2) (by omega) h2 h4
 rw [hcells] at hF
 refine Lw.nil <| Pw.thenN <| Cw.out <| Cw.seq <| Cw.region <| Lw.val (Ex.move rfl) rfl <| Lw.val (Ex.assign rfl) rfl <| Lw.nil <| Pw.thenN <| Cw.out <| Cw.ret <| Pw.ret1 rfl rfl ?_
 rw [ln1]
 exact ⟨hF, (((Below.refl B w).trans (hq.mono hB)).grown hg2 (by have := hq.size; omega) (by rintro _ ⟨⟩; exact h4)).grown hg3 (by have := hq.size; omega) (by rintro _ ⟨⟩; exact h4)⟩

/-! ### Without a direction -/
def woG (s : List Int) (k : Int) : List Int := if (s.length : Int) ≤ k then [] else if s.length = 1 then [1] else s.eraseIdx k.toNat
theorem gwithout_c (u : Value) (s : List Int) (k : Int) (w : World) (hu : SlT (Value.int .i64) w u s) (hk : 0 ≤ k) (hl : s.length ≤ 1000000) :
  Fnc Tryz.prog 70 [u, .int .i64 k] w (fun r w' => SlT (Value.int .i64) w' r (woG s k) ∧ Below w.heap.size w w') := by
 refine Fnc.enter (n := 21) Tryz.func70 (by kernel_rfl) rfl rfl rfl <| Cw.seq <| Cw.region <| Lw.val (Ex.assign rfl) rfl <| Lw.nil <| Pw.thenN <| Cw.out <| Cw.seq <| Cw.block <| Cw.seq <| Cw.region <| Lw.val (Ex.move rfl) rfl <| Lw.val (Ex.move rfl) rfl <| Lw.val (Ex.lenS st_26 rfl (by assumption)) rfl ?_
 refine Lw.val (Ex.geq rfl rfl) rfl <| Lw.val (Ex.assign rfl) rfl <| Lw.nil <| Pw.thenN <| Cw.out <| Cw.cond rfl ?_ ?_
 ·intro g
  have g := of_decide_eq_true g
  refine Cw.seq <| Cw.region <| Lw.val (Ex.assign rfl) rfl <| Lw.nil <| Pw.thenN <| Cw.out <| Cw.ret <| Pw.blkR <| Pw.thenR <| Pw.ret1 rfl rfl ?_
  exact ⟨by rw [woG, if_pos (by omega)]; exact Sl.nil _ _, Below.refl _ _⟩
 intro g
 have g := of_decide_eq_false g
 refine Cw.seq <| Cw.region <| Lw.val (Ex.move rfl) rfl <| Lw.val (Ex.lenS st_26 rfl (by assumption)) rfl ?_
 refine Lw.val (Ex.eql rfl rfl) rfl <| Lw.val (Ex.assign rfl) rfl <| Lw.nil <| Pw.thenN <| Cw.out <| Cw.cond rfl ?_ ?_
 ·intro g2
  have g2 := of_decide_eq_true g2
  refine Cw.seq <| Cw.region <| Lw.valW (Xw.lit (vs := [(1 : Int)].map (Value.int .i64)) st_26 it_3 rfl rfl rfl rfl rfl) rfl ?_
  rintro v w1 ⟨o_v, -, hn, -⟩
  refine Lw.val (Ex.assign rfl) rfl <| Lw.nil <| Pw.thenN <| Cw.out <| Cw.ret <| Pw.blkR <| Pw.thenR <| Pw.ret1 rfl rfl ?_
  exact ⟨by rw [woG, if_neg (by omega), if_pos (by omega)]; exact own_slT o_v, hn⟩
 intro g2
 have g2 := of_decide_eq_false g2
 obtain ⟨i, rfl⟩ : ∃ i : Nat, k = (i : Int) := ⟨k.toNat, by omega⟩
 refine Cw.skip <| Pw.blkN <| Pw.thenN <| Cw.out <| Cw.seq <| Cw.region <| Lw.val (Ex.move rfl) rfl <| Lw.callF rfl rfl (clone_c u s w hu (by omega)) ?_
 rintro v w1 ⟨o_v, hn⟩
 refine Lw.val (Ex.move rfl) rfl <| Lw.val (Ex.move rfl) rfl <| Lw.val (Ex.as (Ex.addI rfl rfl (by omega)) (congrArg (Value.int .i64) (show (i : Int) + 1 = ((i + 1 : Nat) : Int) by omega))) rfl <| Lw.callF rfl rfl (del_c v s i w.heap.size w1 o_v (by omega) hn.size hl) ?_
 rintro r w2 ⟨o_r, hn2⟩
 refine Lw.val (Ex.assign rfl) rfl <| Lw.nil <| Pw.thenN <| Cw.out <| Cw.ret <| Pw.ret1 rfl rfl ?_
 refine ⟨?_, hn.trans hn2⟩
 rw [woG, if_neg (by omega), if_neg (by omega), Int.toNat_natCast]
 exact own_slT o_r

/-! ### Turned -/
def trnG (s o : List Int) : List Int := if s.length = o.length then o.map (fun k => s.getD k.toNat default) else []
theorem gturned_c (u v : Value) (s o : List Int) (w : World) (hu : SlT (Value.int .i64) w u s) (hv : SlT (Value.int .i64) w v o) (ho : ∀ k ∈ o, 0 ≤ k ∧ k < (o.length : Int)) (hl : o.length ≤ 1000000) :
  Fnc Tryz.prog 68 [u, v] w (fun r w' => SlT (Value.int .i64) w' r (trnG s o) ∧ Below w.heap.size w w') := by
 refine Fnc.enter (n := 27) Tryz.func68 (by kernel_rfl) rfl rfl rfl <| Cw.seq <| Cw.region <| Lw.val (Ex.assign rfl) rfl <| Lw.nil <| Pw.thenN <| Cw.out <| Cw.seq <| Cw.seq <| Cw.region <| Lw.val (Ex.move rfl) rfl <| Lw.val (Ex.lenS st_26 rfl (by assumption)) rfl ?_
 refine Lw.val (Ex.move rfl) rfl <| Lw.val (Ex.lenS st_26 rfl (by assumption)) rfl ?_
 refine Lw.val (Ex.neq rfl rfl) rfl <| Lw.nil <| Pw.thenN <| Cw.out <| Cw.cond rfl ?_ ?_
 ·intro g
  have g1 : ¬ s.length = o.length := fun e => by rw [e] at g; simp at g
  refine Cw.seq <| Cw.region <| Lw.val (Ex.assign rfl) rfl <| Lw.nil <| Pw.thenN <| Cw.out <| Cw.ret <| Pw.thenR <| Pw.ret1 rfl rfl ?_
  exact ⟨by rw [trnG, if_neg g1]; exact Sl.nil _ _, Below.refl _ _⟩
 intro g
 have g1 : s.length = o.length := by simp at g; omega
 refine Cw.skip <| Pw.thenN <| Cw.out <| Cw.seq <| Cw.seq <| Cw.region <| Lw.val (Ex.move rfl) rfl <| Lw.val (Ex.lenS st_26 rfl (by assumption)) rfl ?_
 refine Lw.val (Ex.move rfl) rfl <| Lw.nil <| Pw.thenN <| Cw.out <| Cw.block ?_
 refine Cw.loop (S := (Nat × Value)) (fun z => [(0, u), (1, v), (4, z.2), (12, v), (13, .int .i64 (o.length : Int)), (14, .int .i64 (z.1 : Int))]) (fun z w' => z.1 ≤ o.length ∧ Below w.heap.size w w' ∧ w'.ownsRow w.heap.size 3 1 z.2 z.1 (((o.take z.1).map (fun k => s.getD k.toNat default)).map (Value.int .i64))) (fun z => o.length - z.1) ((0, .slice none 0 0)) ⟨rfl, rfl, rfl, rfl, rfl, rfl, trivial⟩ ?_ ?_
 ·exact ⟨Nat.zero_le _, Below.refl _ _, ⟨rfl, .inl ⟨rfl, rfl⟩⟩⟩
 rintro ⟨i, r⟩ w1 ⟨hi, hB, o_r⟩
 dsimp only at hi hB o_r ⊢
 have hu1 := hu.bs hB
 have hv1 := hv.bs hB
 refine Cw.seq <| Cw.region <| Lw.val (Ex.lss rfl rfl) rfl <| Lw.nil <| Pw.thenN <| Cw.out <| Cw.seq <| Cw.cond rfl ?_ ?_
 ·intro h
  have hi' : i < o.length := by have := of_decide_eq_true h; omega
  obtain ⟨k, hk⟩ : ∃ k, k = o.getD i default := ⟨_, rfl⟩
  have hkm : k ∈ o := by rw [hk, List.getD_eq_getElem?_getD, List.getElem?_eq_getElem hi']; exact List.getElem_mem hi'
  have hkb := ho k hkm
  refine Cw.skip <| Pw.thenN <| Cw.out <| Cw.seq <| Cw.block <| Cw.seq <| Cw.region <| Lw.val (Ex.idxT st_26 rfl rfl (by assumption) _ rfl (by omega)) rfl ?_
  refine Lw.val (Ex.as (Ex.ldT (ag_3 _) rfl hv1 hi') (congrArg (Value.int .i64) hk.symm)) rfl <| Lw.val (Ex.assign rfl) rfl <| Lw.nil <| Pw.thenN <| Cw.out <| Cw.region <| Lw.val (Ex.move rfl) rfl <| Lw.val (Ex.move rfl) rfl <| Lw.val (Ex.move rfl) rfl <| Lw.val (Ex.idxT st_26 rfl rfl hu1 k.toNat (by omega) (by omega)) rfl <| Lw.val (Ex.ldT (ag_3 _) rfl hu1 (show k.toNat < s.length by omega)) rfl <| Lw.valW (Xw.lit (vs := [s.getD k.toNat default].map (Value.int .i64)) st_26 it_3 rfl rfl rfl rfl rfl) rfl ?_
  rintro q w2 ⟨o_q, -, hn, -⟩
  have hB2 := hB.trans (hn.mono (below_size hB))
  have z1 := below_size hB
  have z2 := hn.size
  refine Lw.valW (Xw.append (base := w.heap.size) st_26 it_3 rfl (by decide) rfl rfl (own_bs o_r hn) (own_sl o_q) (one_map (fun _ => rfl) _) (by omega) (by omega) (by omega)) rfl ?_
  rintro r' w3 ⟨o_r', hb3, -⟩
  have e1 : ((o.take i).map (fun k => s.getD k.toNat default)).map (Value.int .i64) ++ [s.getD k.toNat default].map (Value.int .i64) = ((o.take (i + 1)).map (fun k => s.getD k.toNat default)).map (Value.int .i64) := by
   rw [List.take_succ_eq_append_getElem hi', List.map_append, List.map_append]
   have : o[i] = k := by rw [hk, List.getD_eq_getElem?_getD, List.getElem?_eq_getElem hi']; rfl
   rw [this]; rfl
  rw [e1] at o_r'
  refine Lw.val (Ex.assign rfl) rfl <| Lw.nil <| Pw.blkN <| Pw.thenN <| Cw.out <| Cw.region <| Lw.val (Ex.addI rfl rfl (by omega)) rfl <| Lw.val (Ex.move rfl) rfl <| Lw.nil ?_
  exact Pw.thenN (Pw.next ((i + 1, r')) ⟨rfl, rfl, rfl, rfl, rfl, rfl, trivial⟩ (⟨hi', hB2.trans hb3, o_r'⟩) (by simp only; omega))
 intro h
 have hi' : i = o.length := by have := of_decide_eq_false h; omega
 subst hi'
 rw [List.take_length] at o_r
 refine Cw.exit <| Pw.thenE <| Pw.thenE <| Pw.blkHit <| Pw.thenN <| Cw.out <| Cw.seq <| Cw.region <| Lw.val (Ex.move rfl) rfl <| Lw.val (Ex.assign rfl) rfl <| Lw.nil <| Pw.thenN <| Cw.out <| Cw.ret <| Pw.ret1 rfl rfl ?_
 refine ⟨?_, hB⟩
 rw [trnG, if_pos g1]
 exact own_slT o_r

/-! ### Joined -/
/-- Lists of whole numbers, in memory. -/
structure LI (w : World) (v : Value) (ps : List (Value × List Int)) : Prop where
 sl : SlT (fun p : Value × List Int => p.1) w v ps
 each : ∀ p ∈ ps, SlT (Value.int .i64) w p.1 p.2
theorem LI.bs {w w' : World} {v : Value} {ps : List (Value × List Int)} (h : LI w v ps) (g : Below w.heap.size w w') : LI w' v ps := ⟨h.sl.bs g, fun p hp => (h.each p hp).bs g⟩
abbrev ints2 (ps : List (Value × List Int)) : List (List Int) := ps.map (·.2)
def jn1 (k : Nat) (s x : List Int) : Option (List Int) := if x.length = s.length ∧ k < s.length ∧ (∀ m, m < s.length → m ≠ k → s.getD m default = x.getD m default) then some (s.set k (s.getD k default + x.getD k default)) else none
def jnR (k : Nat) : List Int → List (List Int) → Option (List Int)
 | s, [] => some s
 | s, x :: r => match jn1 k s x with
  | some s' => jnR k s' r
  | none => none
def jnG (l : List (List Int)) (k : Nat) : List Int := match jnR k (l.headD []) l.tail with
 | some s => if k < s.length then s else []
 | none => []
theorem spl_set {l : List Int} {j : Nat} {z : Int} (h : j < l.length) : spl (l.map (Value.int .i64)) j [.int .i64 z] = (l.set j z).map (Value.int .i64) := by
 rw [spl_one (by rw [List.length_map]; exact h), List.map_set]
theorem getD_mem {l : List Int} {j : Nat} (h : j < l.length) : l.getD j default ∈ l := by
 rw [List.getD_eq_getElem?_getD, List.getElem?_eq_getElem h]; exact List.getElem_mem h
theorem gjoined_c (v : Value) (ps : List (Value × List Int)) (k : Nat) (w : World) (h : LI w v ps) (h0 : 0 < ps.length) (h4 : ps.length ≤ 4) (hb : ∀ p ∈ ps, p.2.length ≤ 4 ∧ ∀ x ∈ p.2, 0 ≤ x ∧ x ≤ 64) :
  Fnc Tryz.prog 69 [v, .int .i64 (k : Int)] w (fun r w' => SlT (Value.int .i64) w' r (jnG (ints2 ps) k) ∧ Below w.heap.size w w') := by
 obtain ⟨p0, rest, rfl⟩ : ∃ p0 rest, ps = p0 :: rest := by
  cases ps with
  | nil => simp at h0
  | cons p0 rest => exact ⟨p0, rest, rfl⟩
 have s_0 := h.each p0 (by simp)
 have b_0 := hb p0 (by simp)
 have hsl := h.sl
 have hrest : SlT (fun p : Value × List Int => p.1) w (cut v 1 1 (rest.length + 1)) rest := SlT.drop h.sl (show 1 ≤ (p0 :: rest).length by simp)
 have hjn : ∀ s, jnR k p0.2 (ints2 rest) = some s → jnG (ints2 (p0 :: rest)) k = if k < s.length then s else [] := fun s hs => by
  show (match jnR k p0.2 (ints2 rest) with | some s => if k < s.length then s else [] | none => []) = _
  rw [hs]
 have hjnN : jnR k p0.2 (ints2 rest) = none → jnG (ints2 (p0 :: rest)) k = [] := fun hs => by
  show (match jnR k p0.2 (ints2 rest) with | some s => if k < s.length then s else [] | none => []) = _
  rw [hs]
 obtain ⟨s0, hs0⟩ : ∃ s0, s0 = p0.2 := ⟨_, rfl⟩
 rw [← hs0] at s_0 b_0 hjn hjnN
 obtain ⟨RES, hRES⟩ : ∃ RES, RES = jnG (ints2 (p0 :: rest)) k := ⟨_, rfl⟩
 rw [← hRES] at hjn hjnN ⊢
 simp only [List.length_cons] at h4
 refine Fnc.enter (n := 64) Tryz.func69 (by kernel_rfl) rfl rfl rfl <| Cw.seq <| Cw.region <| Lw.val (Ex.assign rfl) rfl <| Lw.nil <| Pw.thenN <| Cw.out <| Cw.seq <| Cw.region <| Lw.val (Ex.move rfl) rfl <| Lw.val (Ex.idxT st_39 rfl rfl hsl 0 rfl (by simp)) rfl <| Lw.val (Ex.as (Ex.ldT (ag_26 _) rfl hsl (show 0 < (p0 :: rest).length by simp)) rfl) rfl <| Lw.callF rfl rfl (clone_c p0.1 s0 w s_0 (by omega)) ?_
 rintro u w1 ⟨o_u, hn1⟩
 have ub := own_block o_u
 have hrest1 := hrest.bs hn1
 refine Lw.val (Ex.assign rfl) rfl <| Lw.nil <| Pw.thenN <| Cw.out <| Cw.seq <| Cw.seq <| Cw.region <| Lw.val (Ex.move rfl) rfl <| Lw.val (Ex.as (Ex.cutLv (i := 1) st_39 rfl rfl (hsl.bs hn1).shp (by simp)) rfl) rfl <| Lw.val (Ex.lenS st_39 rfl hrest1) rfl <| Lw.val (Ex.move rfl) rfl <| Lw.nil <| Pw.thenN <| Cw.out <| Cw.block ?_
 refine Cw.loop (S := (Nat × List Int)) (fun z => [(0, v), (1, .int .i64 (k : Int)), (5, u), (15, cut v 1 1 (rest.length + 1)), (16, .int .i64 (rest.length : Int)), (17, .int .i64 (z.1 : Int))]) (fun z w' => z.1 ≤ rest.length ∧ Below w.heap.size w w' ∧ w'.ownsRow w.heap.size 3 1 u z.2.length (z.2.map (Value.int .i64)) ∧ jnR k z.2 (ints2 (rest.drop z.1)) = jnR k s0 (ints2 rest) ∧ z.2.length ≤ 4 ∧ (∀ m, m < z.2.length → 0 ≤ z.2.getD m default ∧ z.2.getD m default ≤ 64 * ((z.1 : Int) + 1))) (fun z => rest.length - z.1) ((0, s0)) ⟨rfl, rfl, rfl, rfl, rfl, rfl, trivial⟩ ?_ ?_
 ·exact ⟨Nat.zero_le _, hn1, o_u, rfl, b_0.1, fun m hm => ⟨(b_0.2 _ (getD_mem hm)).1, by have := (b_0.2 _ (getD_mem hm)).2; simp only; omega⟩⟩
 clear o_u
 rintro ⟨i, s⟩ w2 ⟨hi, hB, o_u, hj, hs4, hsb⟩
 dsimp only at hi hB o_u hj hs4 hsb ⊢
 have hrest2 := hrest.bs hB
 have s_u : SlT (Value.int .i64) w2 u s := own_slT o_u
 refine Cw.seq <| Cw.region <| Lw.val (Ex.lss rfl rfl) rfl <| Lw.nil <| Pw.thenN <| Cw.out <| Cw.seq <| Cw.cond rfl ?_ ?_
 ·intro g
  have hi' : i < rest.length := by have := of_decide_eq_true g; omega
  obtain ⟨p, hp⟩ : ∃ p, p = rest[i] := ⟨_, rfl⟩
  have hpm : p ∈ p0 :: rest := List.mem_cons_of_mem _ (by rw [hp]; exact List.getElem_mem hi')
  have s_x := (h.each p hpm).bs hB
  obtain ⟨x, hx⟩ : ∃ x, x = p.2 := ⟨_, rfl⟩
  have b_x := hb p hpm
  rw [← hx] at s_x b_x
  have eg : (rest.getD i default).1 = p.1 := by rw [hp, List.getD_eq_getElem?_getD, List.getElem?_eq_getElem hi']; rfl
  have ed : ints2 (rest.drop i) = x :: ints2 (rest.drop (i + 1)) := by rw [List.drop_eq_getElem_cons hi', ints2, List.map_cons, ← hp, ← hx]
  have hst : jnR k s0 (ints2 rest) = match jn1 k s x with | some s' => jnR k s' (ints2 (rest.drop (i + 1))) | none => none := by rw [← hj, ed]; rfl
  have hno : jn1 k s x = none → RES = [] := fun e => hjnN (by rw [hst, e])
  refine Cw.skip <| Pw.thenN <| Cw.out <| Cw.seq <| Cw.block <| Cw.seq <| Cw.region <| Lw.val (Ex.idxT st_39 rfl rfl hrest2 i rfl hi') rfl <| Lw.val (Ex.as (Ex.ldT (ag_26 _) rfl hrest2 hi') eg) rfl <| Lw.val (Ex.assign rfl) rfl <| Lw.nil <| Pw.thenN <| Cw.out <| Cw.seq <| Cw.seq <| Cw.region <| Lw.val (Ex.move rfl) rfl <| Lw.val (Ex.lenS st_26 rfl (by assumption)) rfl ?_
  refine Lw.val (Ex.move rfl) rfl <| Lw.val (Ex.lenS st_26 rfl (by assumption)) rfl ?_
  refine Lw.val (Ex.neq rfl rfl) rfl <| Lw.val (Ex.move rfl) rfl ?_
  refine Lw.part 26 rfl ?_ ?_
  ·intro g1
   have g1 : ¬ x.length = s.length := fun e => by rw [e] at g1; simp at g1
   refine Lw.pass (dj := 26) rfl rfl rfl rfl <| Lw.pass (dj := 26) rfl rfl rfl rfl <| Lw.pass (dj := 26) rfl rfl rfl rfl <| Lw.pass (dj := 26) rfl rfl rfl rfl <| Lw.val (Ex.pickT rfl rfl) rfl <| Lw.nil <| Pw.thenN <| Cw.out <| Cw.condT rfl <| Cw.seq <| Cw.region <| Lw.val (Ex.assign rfl) rfl <| Lw.nil <| Pw.thenN <| Cw.out <| Cw.ret <| Pw.thenR <| Pw.blkR <| Pw.thenR <| Pw.thenR <| Pw.blkR <| Pw.thenR <| Pw.ret1 rfl rfl ?_
   exact ⟨by rw [hno (by unfold jn1; rw [if_neg (fun h => g1 h.1)])]; exact Sl.nil _ _, hB⟩
  intro g1
  have g1 : x.length = s.length := by simp at g1; omega
  refine Lw.take (dj := 26) rfl rfl <| Lw.val (Ex.move rfl) rfl <| Lw.take (dj := 26) rfl rfl <| Lw.val (Ex.move rfl) rfl <| Lw.take (dj := 26) rfl rfl <| Lw.val (Ex.lenS st_26 rfl (by assumption)) rfl ?_
  refine Lw.take (dj := 26) rfl rfl <| Lw.val (Ex.geq rfl rfl) rfl <| Lw.val (Ex.pickF rfl rfl) rfl <| Lw.nil <| Pw.thenN <| Cw.out <| Cw.cond rfl ?_ ?_
  ·intro g2
   have g2 : ¬ k < s.length := by have := of_decide_eq_true g2; omega
   refine Cw.seq <| Cw.region <| Lw.val (Ex.assign rfl) rfl <| Lw.nil <| Pw.thenN <| Cw.out <| Cw.ret <| Pw.thenR <| Pw.blkR <| Pw.thenR <| Pw.thenR <| Pw.blkR <| Pw.thenR <| Pw.ret1 rfl rfl ?_
   exact ⟨by rw [hno (by unfold jn1; rw [if_neg (fun h => g2 h.2.1)])]; exact Sl.nil _ _, hB⟩
  intro g2
  have g2 : k < s.length := by have := of_decide_eq_false g2; omega
  have bk := hsb k g2
  have xk := b_x.2 _ (getD_mem (show k < x.length by omega))
  refine Cw.skip <| Pw.thenN <| Cw.out <| Cw.seq <| Cw.region <| Lw.val (Ex.move rfl) rfl <| Lw.val (Ex.lenS st_26 rfl (by assumption)) rfl ?_
  refine Lw.val (Ex.move rfl) rfl <| Lw.nil <| Pw.thenN <| Cw.out <| Cw.block ?_
  refine Cw.loop (S := (Nat × List Int)) (fun y => [(0, v), (1, .int .i64 (k : Int)), (5, u), (7, p.1), (15, cut v 1 1 (rest.length + 1)), (16, .int .i64 (rest.length : Int)), (17, .int .i64 (i : Int)), (32, p.1), (33, .int .i64 (x.length : Int)), (34, .int .i64 (y.1 : Int))]) (fun y w' => y.1 ≤ x.length ∧ Below w.heap.size w w' ∧ w'.ownsRow w.heap.size 3 1 u y.2.length (y.2.map (Value.int .i64)) ∧ y.2 = (if k < y.1 then s.set k (s.getD k default + x.getD k default) else s) ∧ (∀ m, m < y.1 → m ≠ k → s.getD m default = x.getD m default)) (fun y => x.length - y.1) ((0, s)) ⟨rfl, rfl, rfl, rfl, rfl, rfl, rfl, rfl, rfl, rfl, trivial⟩ ?_ ?_
  ·exact ⟨Nat.zero_le _, hB, o_u, by rw [if_neg (by omega)], fun _ h => by omega⟩
  clear o_u s_u s_x hrest2
  rintro ⟨j, s'⟩ w3 ⟨hjx, hB3, o_u, hs', hm⟩
  dsimp only at hjx hB3 o_u hs' hm ⊢
  have s_x := (h.each p hpm).bs hB3
  rw [← hx] at s_x
  have ls' : s'.length = s.length := by rw [hs']; split <;> simp
  refine Cw.seq <| Cw.region <| Lw.val (Ex.lss rfl rfl) rfl <| Lw.nil <| Pw.thenN <| Cw.out <| Cw.seq <| Cw.cond rfl ?_ ?_
  ·intro g3
   have hjx' : j < x.length := by have := of_decide_eq_true g3; omega
   obtain ⟨gb, _, -, egb, -, hgb⟩ : ∃ gb cap, u = .slice (some ⟨gb, 0, none⟩) s'.length cap ∧ u.ownBlock = some gb ∧ True ∧ w.heap.size ≤ gb := by
    rcases o_u.2 with ⟨_, h0⟩ | ⟨g, cap, cur, rfl, hbb, -⟩
    ·omega
    ·exact ⟨g, cap, rfl, rfl, trivial, hbb⟩
   have e_j : s'.getD j default = s.getD j default := by
    rw [hs']
    split
    ·rw [List.getD_eq_getElem?_getD, List.getElem?_set_ne (by omega), ← List.getD_eq_getElem?_getD]
    ·rfl
   have cj : (s'.map (Value.int .i64))[j * 1]? = some (.int .i64 (s.getD j default)) := by
    rw [Nat.mul_one, List.getElem?_map, List.getElem?_eq_getElem (by omega), ← e_j, List.getD_eq_getElem?_getD, List.getElem?_eq_getElem (by omega)]; rfl
   refine Cw.skip <| Pw.thenN <| Cw.out <| Cw.seq <| Cw.block <| Cw.seq <| Cw.region <| Lw.val (Ex.move rfl) rfl <| Lw.val (Ex.idxT st_26 rfl rfl (by assumption) _ rfl (by omega)) rfl ?_
   refine Lw.val (Ex.ldT (ag_3 _) rfl (by assumption) (by omega)) rfl ?_
   refine Lw.val (Ex.assign rfl) rfl <| Lw.val (Ex.assign rfl) rfl <| Lw.nil <| Pw.thenN <| Cw.out <| Cw.block <| Cw.seq <| Cw.region <| Lw.val (Ex.move rfl) rfl <| Lw.val (Ex.move rfl) rfl <| Lw.val (Ex.eql rfl rfl) rfl <| Lw.val (Ex.assign rfl) rfl <| Lw.nil <| Pw.thenN <| Cw.out <| Cw.cond rfl ?_ ?_
   ·intro g4
    have g4 : j = k := by have := of_decide_eq_true g4; omega
    subst g4
    refine Cw.region <| Lw.val (Ex.move rfl) rfl <| Lw.val (Ex.move rfl) rfl <| Lw.val (Ex.idxO st_26 rfl rfl o_u egb j rfl (by omega)) rfl <| Lw.val (Ex.ldO (ag_3 _) rfl o_u egb cj) rfl <| Lw.val (Ex.move rfl) rfl <| Lw.val (Ex.addI rfl rfl (by omega)) rfl <| Lw.val (Ex.idxO st_26 rfl rfl o_u egb j rfl (by omega)) rfl <| Lw.unit (Xu.stO1 (sz_3 _) rfl rfl rfl o_u egb (show j * 1 < _ by rw [List.length_map]; omega)) ?_
    rintro w4 ⟨o_u4, hg, hz⟩
    rw [Nat.mul_one, spl_set (by omega)] at o_u4
    have hB4 := hB3.grown hg (below_size hB3) (by rintro _ e; cases e; exact hgb)
    refine Lw.nil <| Pw.blkN <| Pw.blkN <| Pw.thenN <| Cw.out <| Cw.region <| Lw.val (Ex.addI rfl rfl (by omega)) rfl <| Lw.val (Ex.move rfl) rfl <| Lw.nil ?_
    exact Pw.thenN (Pw.next ((j + 1, s'.set j (s.getD j default + x.getD j default))) ⟨rfl, rfl, rfl, rfl, rfl, rfl, rfl, rfl, rfl, rfl, trivial⟩ (⟨hjx', hB4, by rw [List.length_set]; exact o_u4, by rw [if_pos (by omega), hs', if_neg (by omega)], fun m h1 h2 => hm m (by omega) h2⟩) (by simp only; omega))
   intro g4
   have g4 : j ≠ k := by have := of_decide_eq_false g4; omega
   refine Cw.seq <| Cw.region <| Lw.val (Ex.move rfl) rfl <| Lw.val (Ex.move rfl) rfl <| Lw.val (Ex.idxO st_26 rfl rfl o_u egb j rfl (by omega)) rfl <| Lw.val (Ex.ldO (ag_3 _) rfl o_u egb cj) rfl <| Lw.val (Ex.move rfl) rfl <| Lw.val (Ex.neq rfl rfl) rfl <| Lw.val (Ex.assign rfl) rfl <| Lw.nil <| Pw.thenN <| Cw.out <| Cw.cond rfl ?_ ?_
   ·intro g5
    have g5 : ¬ s.getD j default = x.getD j default := fun e => by rw [e] at g5; simp at g5
    refine Cw.seq <| Cw.region <| Lw.val (Ex.assign rfl) rfl <| Lw.nil <| Pw.thenN <| Cw.out <| Cw.ret <| Pw.blkR <| Pw.blkR <| Pw.thenR <| Pw.thenR <| Pw.blkR <| Pw.blkR <| Pw.thenR <| Pw.thenR <| Pw.blkR <| Pw.thenR <| Pw.ret1 rfl rfl ?_
    exact ⟨by rw [hno (by unfold jn1; rw [if_neg (fun h => g5 (h.2.2 j (by omega) g4))])]; exact Sl.nil _ _, hB3⟩
   intro g5
   have g5 : s.getD j default = x.getD j default := by simpa using g5
   refine Cw.skip <| Pw.blkN <| Pw.blkN <| Pw.thenN <| Cw.out <| Cw.region <| Lw.val (Ex.addI rfl rfl (by omega)) rfl <| Lw.val (Ex.move rfl) rfl <| Lw.nil ?_
   exact Pw.thenN (Pw.next ((j + 1, s')) ⟨rfl, rfl, rfl, rfl, rfl, rfl, rfl, rfl, rfl, rfl, trivial⟩ (⟨hjx', hB3, o_u, by rw [hs']; by_cases e : k < j; rw [if_pos e, if_pos (by omega)]; rw [if_neg e, if_neg (by omega)], fun m h1 h2 => (Nat.lt_succ_iff_lt_or_eq.1 h1).elim (fun h => hm m h h2) (fun e => e ▸ g5)⟩) (by simp only; omega))
  intro g3
  have hjx' : j = x.length := by have := of_decide_eq_false g3; omega
  subst hjx'
  rw [if_pos (by omega)] at hs'
  have e1 : jn1 k s x = some s' := by unfold jn1; rw [if_pos ⟨g1, g2, fun m h1 h2 => hm m (by omega) h2⟩, hs']
  have hbd : ∀ m, m < s'.length → 0 ≤ s'.getD m default ∧ s'.getD m default ≤ 64 * (((i + 1 : Nat) : Int) + 1) := fun m hm' => by
   have b1 := hsb m (by omega)
   rw [hs']
   by_cases e : m = k
   ·subst e
    rw [List.getD_eq_getElem?_getD, List.getElem?_set_self (by omega), Option.getD_some]
    omega
   ·rw [List.getD_eq_getElem?_getD, List.getElem?_set_ne (by omega), ← List.getD_eq_getElem?_getD]
    omega
  refine Cw.exit <| Pw.thenE <| Pw.thenE <| Pw.blkHit <| Pw.blkN <| Pw.thenN <| Cw.out <| Cw.region <| Lw.val (Ex.addI rfl rfl (by omega)) rfl <| Lw.val (Ex.move rfl) rfl <| Lw.nil ?_
  exact Pw.thenN (Pw.next ((i + 1, s')) ⟨rfl, rfl, rfl, rfl, rfl, rfl, trivial⟩ (⟨hi', hB3, o_u, by rw [hst, e1], by simp only; omega, hbd⟩) (by simp only; omega))
 intro g
 have hi' : i = rest.length := by have := of_decide_eq_false g; omega
 subst hi'
 have hfin := hjn s (by rw [← hj, List.drop_length]; rfl)
 refine Cw.exit <| Pw.thenE <| Pw.thenE <| Pw.blkHit <| Pw.thenN <| Cw.out <| Cw.seq <| Cw.seq <| Cw.region <| Lw.val (Ex.move rfl) rfl <| Lw.val (Ex.move rfl) rfl <| Lw.val (Ex.lenS st_26 rfl (by assumption)) rfl ?_
 refine Lw.val (Ex.geq rfl rfl) rfl <| Lw.nil <| Pw.thenN <| Cw.out <| Cw.cond rfl ?_ ?_
 ·intro g2
  have g2 : ¬ k < s.length := by have := of_decide_eq_true g2; omega
  refine Cw.seq <| Cw.region <| Lw.val (Ex.assign rfl) rfl <| Lw.nil <| Pw.thenN <| Cw.out <| Cw.ret <| Pw.thenR <| Pw.ret1 rfl rfl ?_
  exact ⟨by rw [hfin, if_neg g2]; exact Sl.nil _ _, hB⟩
 intro g2
 have g2 : k < s.length := by have := of_decide_eq_false g2; omega
 refine Cw.skip <| Pw.thenN <| Cw.out <| Cw.seq <| Cw.region <| Lw.val (Ex.move rfl) rfl <| Lw.val (Ex.assign rfl) rfl <| Lw.nil <| Pw.thenN <| Cw.out <| Cw.ret <| Pw.ret1 rfl rfl ?_
 exact ⟨by rw [hfin, if_pos g2]; exact s_u, hB⟩
end Go.Proofs.YtmipoeanpnnjoaaGreat
