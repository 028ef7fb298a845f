/- Contracts: the document's answers on tensors. -/
import Derived.Test.YtkhndfaampkbnaaGreatDoorTensorsLaw
import Derived.Test.YtkhndfaampkbnaaGreatDoorRefShape
namespace Go.Proofs.YtkhndfaampkbnaaGreatDoor
open Go Go.Dd Go.RowKit
set_option maxRecDepth 100000

theorem rep_zero (n : Nat) : (List.replicate n [Value.int .i32 0]).flatten = (List.replicate n 0#32).map i32 := by
  induction n with
  | zero => rfl
  | succ n ih => simp [List.replicate_succ, i32]
theorem rtcheck_c (x y : Value) (s : List Int) (l : List (BitVec 32)) (w : World) (hx : SlT (Value.int .i64) w x s) (hy : SlT i32 w y l) :
    Fnc Tryz.prog 36 [.agg #[x, y]] w (fun r w' => r = .bool (tok s l) ∧ Below w.heap.size w w') := by
  refine Fnc.enter (n := 15) Tryz.func36 (by kernel_rfl) rfl rfl rfl ?_
  refine Cw.seq ?_
  refine Cw.region ?_
  refine Lw.valW (Xw.box (cs := [x, y]) rfl rfl) rfl ?_
  rintro _ w1 ⟨rfl, hb, hB1, hs1⟩
  have hx1 := hx.bs hB1
  have hy1 := hy.bs hB1
  refine Lw.val (Ex.assign rfl) rfl ?_
  refine Lw.nil ?_
  refine Pw.thenN (Cw.out ?_)
  refine Cw.seq ?_
  refine Cw.quiet mixed (by kernel_rfl) ?_
  refine Qw.val (fun w1 hq => Ex.fieldAddr (q := 0) Tryz.underlying29 rfl (sz_26 _) rfl) rfl ?_
  refine Qw.val (fun w1 hq => Ex.ldB (ag_26 _) rfl (Blk.bs (by assumption) hq) rfl) rfl ?_
  refine Qw.callF rfl rfl (fun w1 hq => (rcheck_c x s w1 (hx1.bs hq)).q hq) ?_
  refine Qw.val (fun w1 hq => Ex.move rfl) rfl ?_
  refine Qw.part 6 rfl ?_ ?_
  · intro g
    refine Qw.take (dj := 6) rfl rfl ?_
    refine Qw.val (fun w1 hq => Ex.fieldAddr (q := 0) Tryz.underlying29 rfl (sz_27 _) rfl) rfl ?_
    refine Qw.take (dj := 6) rfl rfl ?_
    refine Qw.val (fun w1 hq => Ex.ldB (ag_27 _) rfl (Blk.bs (by assumption) hq) rfl) rfl ?_
    refine Qw.take (dj := 6) rfl rfl ?_
    refine Qw.val (fun w1 hq => Ex.lenS st_27 rfl (Sl.bs (by assumption) hq)) rfl ?_
    refine Qw.take (dj := 6) rfl rfl ?_
    refine Qw.val (fun w1 hq => Ex.fieldAddr (q := 0) Tryz.underlying29 rfl (sz_26 _) rfl) rfl ?_
    refine Qw.take (dj := 6) rfl rfl ?_
    refine Qw.val (fun w1 hq => Ex.ldB (ag_26 _) rfl (Blk.bs (by assumption) hq) rfl) rfl ?_
    refine Qw.take (dj := 6) rfl rfl ?_
    refine Qw.callF rfl rfl (fun w1 hq => (rsize_c x s w1 (hx1.bs hq)).q hq) ?_
    refine Qw.take (dj := 6) rfl rfl ?_
    refine Qw.val (fun w1 hq => Ex.eql rfl rfl) rfl ?_
    refine Qw.val (fun w1 hq => Ex.pickT rfl rfl) rfl ?_
    refine Qw.val (fun w1 hq => Ex.assign rfl) rfl ?_
    refine Qw.nil (fun w2 hq => ?_)
    refine Pw.thenN (Cw.out ?_)
    refine Cw.ret ?_
    refine Pw.ret1 rfl rfl ?_
    exact ⟨congrArg Value.bool (by unfold tok; rw [g]; rfl), bt hB1 hq⟩
  · intro g
    refine Qw.pass (dj := 6) rfl rfl rfl rfl ?_
    refine Qw.pass (dj := 6) rfl rfl rfl rfl ?_
    refine Qw.pass (dj := 6) rfl rfl rfl rfl ?_
    refine Qw.pass (dj := 6) rfl rfl rfl rfl ?_
    refine Qw.pass (dj := 6) rfl rfl rfl rfl ?_
    refine Qw.pass (dj := 6) rfl rfl rfl rfl ?_
    refine Qw.pass (dj := 6) rfl rfl rfl rfl ?_
    refine Qw.val (fun w1 hq => Ex.pickF rfl rfl) rfl ?_
    refine Qw.val (fun w1 hq => Ex.assign rfl) rfl ?_
    refine Qw.nil (fun w2 hq => ?_)
    refine Pw.thenN (Cw.out ?_)
    refine Cw.ret ?_
    refine Pw.ret1 rfl rfl ?_
    exact ⟨congrArg Value.bool (by unfold tok; rw [g]; rfl), bt hB1 hq⟩

theorem rnew_c (u : Value) (s : List Int) (W : World) (hu : SlT (Value.int .i64) W u s) :
    Fnc Tryz.prog 38 [u] W (fun r w' => Below W.heap.size W w' ∧ ((Shapes.ok s = true ∧ ∃ x y, r = .tuple #[.agg #[x, y], .int .i64 0] ∧ Made1 W w' x y s (List.replicate (Shapes.size s).toNat 0#32)) ∨ (Shapes.ok s = false ∧ r = .tuple #[.agg #[.slice none 0 0, .slice none 0 0], .int .i64 1]))) := by
  have hB := Below.refl W.heap.size W
  have hsz := Shapes.size_le s
  refine Fnc.enter (n := 14) Tryz.func38 (by kernel_rfl) rfl rfl rfl ?_
  refine Cw.seq ?_
  refine Cw.region ?_
  refine Lw.newA it_29 rfl ?_
  rintro A_r w eA_r b_r hn -
  replace hB := hB.bs hn
  replace hu := hu.bs hn
  clear hn
  refine Lw.val (Ex.assign rfl) rfl ?_
  refine Lw.nil ?_
  refine Pw.thenN (Cw.out ?_)
  refine Cw.seq ?_
  refine Cw.seq ?_
  refine Cw.region ?_
  refine Lw.val (Ex.move rfl) rfl ?_
  refine Lw.callF rfl rfl (rcheck_c u s _ hu) ?_
  rintro _ w ⟨rfl, hn⟩
  replace hB := hB.bs hn
  replace hu := hu.bs hn
  replace b_r := b_r.bs hn
  clear hn
  refine Lw.val (Ex.not rfl) rfl ?_
  refine Lw.nil ?_
  refine Pw.thenN (Cw.out ?_)
  have z := below_size hB
  refine Cw.cond rfl ?_ ?_
  · intro h
    have hno : Shapes.ok s = false := by simpa using h
    refine Cw.seq ?_
    refine Cw.region ?_
    refine Lw.val (Ex.build (vs := []) (cs := [.slice none 0 0, .slice none 0 0]) rfl (by kernel_rfl)) rfl ?_
    refine Lw.unit (Xu.stA (cs := [.slice none 0 0, .slice none 0 0]) rfl rfl rfl rfl rfl b_r rfl) ?_
    rintro w3 ⟨b_r, hg, -⟩
    have hB := hB.grown hg (below_size hB) (by rintro _ ⟨⟩; omega)
    refine Lw.val (Ex.assign rfl) rfl ?_
    refine Lw.nil ?_
    refine Pw.thenN (Cw.out ?_)
    refine Cw.ret ?_
    refine Pw.thenR ?_
    refine Pw.retCT rfl rfl rfl (by assumption) (Tryz.underlying29) rfl rfl rfl ?_
    exact ⟨hB, .inr ⟨hno, rfl⟩⟩
  intro h
  have hok : Shapes.ok s = true := by simpa using h
  have hgd := (Shapes.ok_iff s).1 hok
  refine Cw.skip ?_
  refine Pw.thenN (Cw.out ?_)
  refine Cw.seq ?_
  refine Cw.region ?_
  refine Lw.val (Ex.move rfl) rfl ?_
  refine Lw.valW (Xw.append3 (base := w.heap.size) (k := 0) (xs := []) st_26 it_3 rfl (by decide) rfl rfl ⟨rfl, .inl ⟨rfl, rfl⟩⟩ hu (one_map (fun _ => rfl) _) (by omega) (by omega) (Nat.le_refl _)) rfl ?_
  rintro x w2 ⟨hx, hg, hcase⟩
  have hn : Below w.heap.size w w2 := ⟨hg.os, hg.tape, hg.output, hg.size, fun k hk => hg.block k hk (by simp [Value.ownBlock])⟩
  rw [Nat.zero_add, List.nil_append] at hx
  have zA := blk_lt b_r
  have hxA : ∀ b, x.ownBlock = some b → A_r < b := fun b e => by
    have := (own_block hx b e).1
    omega
  have hk := KRow.mono (.inl hx) z
  replace hB := hB.bs hn
  replace hu := hu.bs hn
  replace b_r := b_r.bs hn
  refine Lw.val (Ex.move rfl) rfl ?_
  refine Lw.callF rfl rfl (rsize_c u s _ hu) ?_
  rintro _ w ⟨rfl, hn⟩
  replace hB := hB.bs hn
  replace hu := hu.bs hn
  replace b_r := b_r.bs hn
  replace hk := hk.bs hn
  clear hn
  refine Lw.know 11 (v' := .int .i64 (((Shapes.size s).toNat : Nat) : Int)) rfl (congrArg (Value.int .i64) (by omega)) ?_
  refine Lw.valW (Xw.make st_27 it_21 rfl rfl rfl (Nat.le_refl _) (by omega) (by omega)) rfl ?_
  rintro y w4 ⟨ho6, hy, hn4, -⟩
  have hxlt := hk.lt
  have zB := below_size hB
  have hap : Apt y x := by
    intro b h1 h2
    rw [hy] at h1
    cases h1
    exact absurd (hxlt _ h2).2 (Nat.lt_irrefl _)
  rw [rep_zero] at ho6
  have hx6 := (hk.bs hn4).slT
  refine Lw.val (Ex.build (vs := [(0, x), (1, y)]) (cs := [x, y]) rfl (bt_ten _ _ hx6.one (own_sl ho6).one)) rfl ?_
  have zC := hn4.size
  have zD := blk_lt b_r
  replace hB := hB.bs hn4
  replace hu := hu.bs hn4
  replace b_r := b_r.bs hn4
  replace hk := hk.bs hn4
  refine Lw.unit (Xu.stA (cs := [x, y]) rfl rfl rfl rfl (by simp [hx6.one', (own_sl ho6).one']) b_r rfl) ?_
  rintro w7 ⟨hb7, hg7, -⟩
  have hB7 : Below W.heap.size W w7 := hB.grown hg7 (below_size hB) (by rintro _ ⟨⟩; omega)
  refine Lw.val (Ex.assign rfl) rfl ?_
  refine Lw.nil ?_
  refine Pw.thenN (Cw.out ?_)
  refine Cw.ret ?_
  refine Pw.retCT rfl rfl rfl (by assumption) (Tryz.underlying29) rfl rfl rfl ?_
  refine ⟨hB7, .inl ⟨hok, x, y, rfl, ?_, ?_, hap⟩⟩
  · exact hk.by' hg7 (by
      cases hc : x.ownBlock with
      | none => exact .inl rfl
      | some b => exact .inr fun h => by have := hxA b hc; cases h; omega)
  · have := ho6.kept hg7 (.inr (by rw [hy]; simp [Value.ownBlock]; omega))
    rw [List.length_replicate]
    exact own_mono this zB
end Go.Proofs.YtkhndfaampkbnaaGreatDoor
