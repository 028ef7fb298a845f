/- Contract: the tensor of any bytes, as the document has it. -/
import Derived.Test.YtjfghiepdnonjaaGreatDoorGetLaw
import Derived.Test.YtjfghiepdnonjaaGreatDoorBookTen
import Derived.Test.YtjfghiepdnonjaaGreatDoorGetCode
namespace Go.Proofs.YtjfghiepdnonjaaGreatDoor
open Go Go.Dd Go.RowKit
set_option maxRecDepth 100000

theorem gtK_long {b : List (BitVec 8)} (h : b.length < 1 + (b.headD 0#8).toNat) : gtK b = false := by
  cases hk : gtK b with
  | false => rfl
  | true =>
    obtain ⟨h1, h2, -, -⟩ := gtK_ok hk
    have h3 : 0 < Shapes.size (gtS b) := by simpa [Shapes.ok] using h1
    have h4 := gtS_len b
    omega
theorem gtK_many {b : List (BitVec 8)} (h : 4 < (b.headD 0#8).toNat) : gtK b = false := by
  cases hk : gtK b with
  | false => rfl
  | true =>
    obtain ⟨h1, h2, -, -⟩ := gtK_ok hk
    have h3 : 0 < Shapes.size (gtS b) := by simpa [Shapes.ok] using h1
    have h4 := gtS_len b
    have h5 := ((Shapes.ok_iff _).1 h1).1
    omega
theorem rget_none {W w : World} {b : List (BitVec 8)} (h : gtK b = false) : Gives W w (.tuple #[.agg #[.slice none 0 0, .slice none 0 0], .int .i64 4]) (gtE b) (gtS b) (gtL b) :=
  ⟨⟨_, _, [], []⟩, by simp [gtE, h, T4.v], held_nil _ _ _, fun _ => ⟨rfl, rfl⟩, fun h' => by simp [gtE, h] at h'⟩

/-- The number of four bytes, from the last one on. -/
def hornB (l : List (BitVec 8)) : Nat → BitVec 32
  | 0 => 0#32
  | k + 1 => hornB l k * 256#32 + (l.getD (3 - k) default).setWidth 32
theorem horn_gf (l : List (BitVec 8)) : hornB l 4 = gf l := by
  apply BitVec.eq_of_toNat_eq
  unfold gf
  rw [le4_nat]
  have h0 := (l.getD 0 default).isLt; have h1 := (l.getD 1 default).isLt; have h2 := (l.getD 2 default).isLt; have h3 := (l.getD 3 default).isLt
  simp only [hornB, BitVec.toNat_add, BitVec.toNat_mul, BitVec.toNat_setWidth, BitVec.toNat_ofNat, Nat.reducePow, Nat.reduceMod, Nat.reduceSub, Nat.zero_mul, Nat.zero_mod, Nat.zero_add]
  omega
theorem rgetFour_c (v : Value) (l : List (BitVec 8)) (w : World) (hv : SlT b8 w v l) (hl : 4 ≤ l.length) : Fnc Tryz.prog 99 [v] w (fun r w' => r = .tuple #[u32 (gf l), .int .i64 0] ∧ Below w.heap.size w w') := by
  refine Fnc.enter (n := 22) Tryz.func99 (by kernel_rfl) rfl rfl rfl ?_
  refine Cw.seq ?_
  refine Cw.region ?_
  refine Lw.val (Ex.assign (show _ = some (u32 (0#32)) from rfl)) rfl ?_
  refine Lw.val (Ex.assign rfl) rfl ?_
  refine Lw.nil ?_
  refine Pw.thenN (Cw.out ?_)
  refine Cw.seq ?_
  refine Cw.seq ?_
  refine Cw.region ?_
  refine Lw.val (Ex.move rfl) rfl ?_
  refine Lw.val (Ex.lenS st_56 rfl (by assumption)) rfl ?_
  refine Lw.val (Ex.lss rfl rfl) rfl ?_
  refine Lw.nil ?_
  refine Pw.thenN (Cw.out ?_)
  refine Cw.cond rfl ?_ ?_
  · intro g
    have := of_decide_eq_true g
    omega
  intro _
  refine Cw.skip ?_
  refine Pw.thenN (Cw.out ?_)
  refine Cw.seq ?_
  refine Cw.region ?_
  refine Lw.val (Ex.assign (show _ = some (u32 (0#32)) from rfl)) rfl ?_
  refine Lw.nil ?_
  refine Pw.thenN (Cw.out ?_)
  refine Cw.seq ?_
  refine Cw.seq ?_
  refine Cw.region ?_
  refine Lw.val (Ex.assign rfl) rfl ?_
  refine Lw.nil ?_
  refine Pw.thenN (Cw.out ?_)
  refine Cw.block ?_
  refine Cw.loop (S := Nat) (fun i => [(0, v), (4, u32 (hornB l i)), (5, .int .i64 (3 - (i : Int)))]) (fun i w' => i ≤ 4 ∧ w' = w) (fun i => 4 - i) (0) ⟨rfl, rfl, rfl, trivial⟩ ?_ ?_
  · exact ⟨by omega, rfl⟩
  rintro i w1 ⟨hi, rfl⟩
  refine Cw.seq ?_
  refine Cw.seq ?_
  refine Cw.region ?_
  refine Lw.val (Ex.move rfl) rfl ?_
  refine Lw.val (Ex.geq rfl rfl) rfl ?_
  refine Lw.nil ?_
  refine Pw.thenN (Cw.out ?_)
  refine Cw.cond rfl ?_ ?_
  · intro h
    have hi' : i < 4 := by have := of_decide_eq_true h; omega
    refine Cw.skip ?_
    refine Pw.thenN (Cw.out ?_)
    refine Cw.seq ?_
    refine Cw.block ?_
    refine Cw.region ?_
    refine Lw.val (Ex.move rfl) rfl ?_
    refine Lw.val (Ex.mul32 rfl (show _ = some (u32 (256#32)) from rfl)) rfl ?_
    refine Lw.val (Ex.move rfl) rfl ?_
    refine Lw.val (Ex.move rfl) rfl ?_
    refine Lw.val (Ex.idxS st_56 rfl rfl hv.shp (3 - i) (by omega) (by omega)) rfl ?_
    refine Lw.val (Ex.ldT (ag_5 _) rfl (by assumption) (by omega)) rfl ?_
    refine Lw.val (Ex.conv8_32 us_5 un_78 rfl) rfl ?_
    refine Lw.val (Ex.add32 rfl rfl) rfl ?_
    refine Lw.val (Ex.assign rfl) rfl ?_
    refine Lw.nil ?_
    refine Pw.blkN ?_
    refine Pw.thenN (Cw.out ?_)
    refine Cw.region ?_
    refine Lw.val (Ex.move rfl) rfl ?_
    refine Lw.val (Ex.subI rfl rfl (by omega)) rfl ?_
    refine Lw.val (Ex.assign rfl) rfl ?_
    refine Lw.nil ?_
    exact Pw.thenN (Pw.next (i + 1) ⟨rfl, rfl, (congrArg (fun z => some (Value.int .i64 z)) (by omega)), trivial⟩ (⟨hi', rfl⟩) (by omega))
  intro h
  have hi' : i = 4 := by have := of_decide_eq_false h; omega
  subst hi'
  refine Cw.exit ?_
  refine Pw.thenE ?_
  refine Pw.thenE ?_
  refine Pw.blkHit ?_
  refine Pw.thenN (Cw.out ?_)
  refine Cw.seq ?_
  refine Cw.region ?_
  refine Lw.val (Ex.move rfl) rfl ?_
  refine Lw.val (Ex.assign rfl) rfl ?_
  refine Lw.val (Ex.assign rfl) rfl ?_
  refine Lw.nil ?_
  refine Pw.thenN (Cw.out ?_)
  refine Cw.ret ?_
  refine Pw.ret2 rfl rfl rfl ?_
  exact ⟨by rw [horn_gf], Below.refl _ _⟩

theorem headD_get (b : List (BitVec 8)) : b.getD 0 default = b.headD 0#8 := by cases b <;> rfl
theorem gtS_step {b : List (BitVec 8)} {i : Nat} (hi : i < (b.headD 0#8).toNat) (hl : 1 + (b.headD 0#8).toNat ≤ b.length) : (gtS b).take (i + 1) = (gtS b).take i ++ [((b.getD (1 + i) default).toNat : Int)] := by
  have hg : i < (gtS b).length := by have := gtS_len b; omega
  rw [List.take_succ_eq_append_getElem hg]
  congr 1
  cases b with
  | nil => simp at hl
  | cons x t =>
    simp only [List.headD_cons, List.length_cons] at hi hl
    have : i < t.length := by omega
    simp [gtS, List.getD_eq_getElem?_getD, Nat.add_comm 1 i, this]
theorem rget_c (v : Value) (b : List (BitVec 8)) (W : World) (h_b : SlT b8 W v b) : Fnc Tryz.prog 24 [v] W (fun r w' => Below W.heap.size W w' ∧ Gives W w' r (gtE b) (gtS b) (gtL b)) := by
  have hB := Below.refl W.heap.size W
  have hle := h_b.le
  obtain ⟨N, hN⟩ : ∃ N, N = (b.headD 0#8).toNat := ⟨_, rfl⟩
  have N8 : N < 256 := by rw [hN]; exact (b.headD 0#8).isLt
  have eN : Value.int .i64 ((b.getD 0 default).toNat : Int) = .int .i64 (N : Int) := by rw [headD_get, hN]
  have hvb : ∀ k, v.ownBlock = some k → b ≠ [] → k < W.heap.size := fun k e hne => Sl.blk h_b (by simpa using hne) k e
  refine Fnc.enter (n := 92) Tryz.func24 (by kernel_rfl) rfl rfl rfl ?_
  refine Cw.seq ?_
  refine Cw.region ?_
  refine Lw.newA it_25 rfl ?_
  rintro A_r w eA_r b_r hn -
  replace hB := hB.bs hn
  replace h_b := h_b.bs hn
  clear hn
  refine Lw.val (Ex.assign rfl) rfl ?_
  refine Lw.nil ?_
  refine Pw.thenN (Cw.out ?_)
  refine Cw.seq ?_
  refine Cw.seq ?_
  refine Cw.region ?_
  refine Lw.val (Ex.move rfl) rfl ?_
  refine Lw.val (Ex.lenS st_56 rfl (by assumption)) rfl ?_
  refine Lw.val (Ex.lss rfl rfl) rfl ?_
  refine Lw.val (Ex.move rfl) rfl ?_
  have z_r := below_size hB
  have y_r := blk_lt b_r
  refine Lw.part 13 rfl ?_ ?_
  · intro g
    have g1 := of_decide_eq_true g
    have hk : gtK b = false := by
      have : b = [] := List.eq_nil_of_length_eq_zero (by omega)
      subst this; rfl
    refine Lw.pass (dj := 13) rfl rfl rfl rfl ?_
    refine Lw.pass (dj := 13) rfl rfl rfl rfl ?_
    refine Lw.pass (dj := 13) rfl rfl rfl rfl ?_
    refine Lw.pass (dj := 13) rfl rfl rfl rfl ?_
    refine Lw.pass (dj := 13) rfl rfl rfl rfl ?_
    refine Lw.val (Ex.pickT rfl rfl) rfl ?_
    refine Lw.val (Ex.move rfl) rfl ?_
    refine Lw.pass (dj := 20) rfl rfl rfl rfl ?_
    refine Lw.pass (dj := 20) rfl rfl rfl rfl ?_
    refine Lw.pass (dj := 20) rfl rfl rfl rfl ?_
    refine Lw.pass (dj := 20) rfl rfl rfl rfl ?_
    refine Lw.pass (dj := 20) rfl rfl rfl rfl ?_
    refine Lw.pass (dj := 20) rfl rfl rfl rfl ?_
    refine Lw.pass (dj := 20) rfl rfl rfl rfl ?_
    refine Lw.pass (dj := 20) rfl rfl rfl rfl ?_
    refine Lw.val (Ex.pickT rfl rfl) rfl ?_
    refine Lw.nil ?_
    refine Pw.thenN (Cw.out ?_)
    refine Cw.condT rfl ?_
    refine Cw.seq ?_
    refine Cw.region ?_
    refine Lw.val (Ex.build (vs := []) (cs := [.slice none 0 0, .slice none 0 0]) rfl (by kernel_rfl)) rfl ?_
    refine Lw.unit (Xu.stA (cs := [.slice none 0 0, .slice none 0 0]) rfl rfl rfl rfl rfl b_r rfl) ?_
    rintro w3 ⟨b_r, hg, -⟩
    have hB := hB.grown hg (below_size hB) (by rintro _ ⟨⟩; omega)
    refine Lw.val (Ex.assign rfl) rfl ?_
    refine Lw.nil ?_
    refine Pw.thenN (Cw.out ?_)
    refine Cw.ret ?_
    refine Pw.thenR ?_
    refine Pw.retCT rfl rfl rfl (by assumption) (Tryz.underlying25) rfl rfl rfl ?_
    exact ⟨hB, rget_none hk⟩
  intro g
  have g1 := of_decide_eq_false g
  refine Lw.take (dj := 13) rfl rfl ?_
  refine Lw.val (Ex.move rfl) rfl ?_
  refine Lw.take (dj := 13) rfl rfl ?_
  refine Lw.val (Ex.idxT st_56 rfl rfl (by assumption) 0 rfl (by omega)) rfl ?_
  refine Lw.take (dj := 13) rfl rfl ?_
  refine Lw.val (Ex.ldT (ag_5 _) rfl (by assumption) (by omega)) rfl ?_
  refine Lw.take (dj := 13) rfl rfl ?_
  refine Lw.val (Ex.as (Ex.conv8_I us_5 un_3 rfl) eN) rfl ?_
  refine Lw.take (dj := 13) rfl rfl ?_
  refine Lw.val (Ex.gtr rfl rfl) rfl ?_
  refine Lw.val (Ex.pickF rfl rfl) rfl ?_
  refine Lw.val (Ex.move rfl) rfl ?_
  refine Lw.part 20 rfl ?_ ?_
  · intro g
    have g2 := of_decide_eq_true g
    have hk : gtK b = false := gtK_many (by omega)
    refine Lw.pass (dj := 20) rfl rfl rfl rfl ?_
    refine Lw.pass (dj := 20) rfl rfl rfl rfl ?_
    refine Lw.pass (dj := 20) rfl rfl rfl rfl ?_
    refine Lw.pass (dj := 20) rfl rfl rfl rfl ?_
    refine Lw.pass (dj := 20) rfl rfl rfl rfl ?_
    refine Lw.pass (dj := 20) rfl rfl rfl rfl ?_
    refine Lw.pass (dj := 20) rfl rfl rfl rfl ?_
    refine Lw.pass (dj := 20) rfl rfl rfl rfl ?_
    refine Lw.val (Ex.pickT rfl rfl) rfl ?_
    refine Lw.nil ?_
    refine Pw.thenN (Cw.out ?_)
    refine Cw.condT rfl ?_
    refine Cw.seq ?_
    refine Cw.region ?_
    refine Lw.val (Ex.build (vs := []) (cs := [.slice none 0 0, .slice none 0 0]) rfl (by kernel_rfl)) rfl ?_
    refine Lw.unit (Xu.stA (cs := [.slice none 0 0, .slice none 0 0]) rfl rfl rfl rfl rfl b_r rfl) ?_
    rintro w3 ⟨b_r, hg, -⟩
    have hB := hB.grown hg (below_size hB) (by rintro _ ⟨⟩; omega)
    refine Lw.val (Ex.assign rfl) rfl ?_
    refine Lw.nil ?_
    refine Pw.thenN (Cw.out ?_)
    refine Cw.ret ?_
    refine Pw.thenR ?_
    refine Pw.retCT rfl rfl rfl (by assumption) (Tryz.underlying25) rfl rfl rfl ?_
    exact ⟨hB, rget_none hk⟩
  intro g
  have g2 := of_decide_eq_false g
  refine Lw.take (dj := 20) rfl rfl ?_
  refine Lw.val (Ex.move rfl) rfl ?_
  refine Lw.take (dj := 20) rfl rfl ?_
  refine Lw.val (Ex.lenS st_56 rfl (by assumption)) rfl ?_
  refine Lw.take (dj := 20) rfl rfl ?_
  refine Lw.val (Ex.move rfl) rfl ?_
  refine Lw.take (dj := 20) rfl rfl ?_
  refine Lw.val (Ex.idxT st_56 rfl rfl (by assumption) 0 rfl (by omega)) rfl ?_
  refine Lw.take (dj := 20) rfl rfl ?_
  refine Lw.val (Ex.ldT (ag_5 _) rfl (by assumption) (by omega)) rfl ?_
  refine Lw.take (dj := 20) rfl rfl ?_
  refine Lw.val (Ex.as (Ex.conv8_I us_5 un_3 rfl) eN) rfl ?_
  refine Lw.take (dj := 20) rfl rfl ?_
  refine Lw.val (Ex.addI rfl rfl (by omega)) rfl ?_
  refine Lw.take (dj := 20) rfl rfl ?_
  refine Lw.val (Ex.lss rfl rfl) rfl ?_
  refine Lw.val (Ex.pickF rfl rfl) rfl ?_
  refine Lw.nil ?_
  refine Pw.thenN (Cw.out ?_)
  refine Cw.cond rfl ?_ ?_
  · intro g
    have g3 := of_decide_eq_true g
    have hk : gtK b = false := gtK_long (by omega)
    refine Cw.seq ?_
    refine Cw.region ?_
    refine Lw.val (Ex.build (vs := []) (cs := [.slice none 0 0, .slice none 0 0]) rfl (by kernel_rfl)) rfl ?_
    refine Lw.unit (Xu.stA (cs := [.slice none 0 0, .slice none 0 0]) rfl rfl rfl rfl rfl b_r rfl) ?_
    rintro w3 ⟨b_r, hg, -⟩
    have hB := hB.grown hg (below_size hB) (by rintro _ ⟨⟩; omega)
    refine Lw.val (Ex.assign rfl) rfl ?_
    refine Lw.nil ?_
    refine Pw.thenN (Cw.out ?_)
    refine Cw.ret ?_
    refine Pw.thenR ?_
    refine Pw.retCT rfl rfl rfl (by assumption) (Tryz.underlying25) rfl rfl rfl ?_
    exact ⟨hB, rget_none hk⟩
  intro g
  have g3 := of_decide_eq_false g
  have gl := gtS_len b
  refine Cw.skip ?_
  refine Pw.thenN (Cw.out ?_)
  refine Cw.seq ?_
  refine Cw.region ?_
  refine Lw.newA it_25 rfl ?_
  rintro A_t w eA_t b_t hn -
  replace hB := hB.bs hn
  replace h_b := h_b.bs hn
  replace b_r := b_r.bs hn
  clear hn
  refine Lw.nil ?_
  refine Pw.thenN (Cw.out ?_)
  refine Cw.seq ?_
  refine Cw.seq ?_
  refine Cw.region ?_
  refine Lw.val (Ex.assign rfl) rfl ?_
  refine Lw.nil ?_
  refine Pw.thenN (Cw.out ?_)
  refine Cw.block ?_
  have y_t := blk_lt b_t
  have a_t : A_r < A_t ∧ W.heap.size ≤ A_r ∧ A_t < w.heap.size := by omega
  obtain ⟨B1, hB1⟩ : ∃ B1, B1 = w.heap.size := ⟨_, rfl⟩
  refine Cw.loop (S := (Nat × Value)) (fun z => [(0, v), (2, .pointer (some ⟨A_r, 0, none⟩)), (3, .int .i64 0), (4, .pointer (some ⟨A_t, 0, none⟩)), (5, .int .i64 (z.1 : Int))]) (fun z w' => z.1 ≤ N ∧ Blk w' A_t 25 [z.2, .slice none 0 0] ∧ w'.ownsRow B1 3 1 z.2 ((gtS b).take z.1).length (((gtS b).take z.1).map (Value.int .i64)) ∧ Below A_t w w' ∧ B1 ≤ w'.heap.size) (fun z => N - z.1) ((0, .slice none 0 0)) ⟨rfl, rfl, rfl, rfl, rfl, trivial⟩ ?_ ?_
  · exact ⟨Nat.zero_le _, b_t, ⟨rfl, .inl ⟨rfl, rfl⟩⟩, Below.refl _ _, by omega⟩
  clear b_t
  rintro ⟨i, u⟩ w1 ⟨hi, b_t, ho, hn, hz⟩
  dsimp only at hi b_t ho hn hz ⊢
  have h_b1 := stayB h_b hn (fun k e hne => by have := hvb k e hne; omega)
  refine Cw.seq ?_
  refine Cw.seq ?_
  refine Cw.region ?_
  refine Lw.val (Ex.move rfl) rfl ?_
  refine Lw.val (Ex.move rfl) rfl ?_
  refine Lw.val (Ex.idxT st_56 rfl rfl (by assumption) 0 rfl (by omega)) rfl ?_
  refine Lw.val (Ex.ldT (ag_5 _) rfl (by assumption) (by omega)) rfl ?_
  refine Lw.val (Ex.as (Ex.conv8_I us_5 un_3 rfl) eN) rfl ?_
  refine Lw.val (Ex.lss rfl rfl) rfl ?_
  refine Lw.nil ?_
  refine Pw.thenN (Cw.out ?_)
  refine Cw.cond rfl ?_ ?_
  · intro h
    have hi' : i < N := by have := of_decide_eq_true h; omega
    have e1 := gtS_step (b := b) (i := i) (by omega) (by omega)
    have e2 : ((gtS b).take i).length + 1 = ((gtS b).take (i + 1)).length := by rw [e1]; simp
    have e3 : ((gtS b).take i).length ≤ 256 := by rw [List.length_take]; omega
    refine Cw.skip ?_
    refine Pw.thenN (Cw.out ?_)
    refine Cw.seq ?_
    refine Cw.block ?_
    refine Cw.any mixed (fun w2 hd _ => ?_)
    have hC : Blk w2 A_t 25 [u, .slice none 0 0] ∧ SlT b8 w2 v b := ⟨b_t.bs hd, h_b1.bs hd⟩
    have ho := own_bs ho hd
    have zd := hd.size
    refine Aw.seg (St := Value) (g := 1) [0, 1, 2, 3, 4, 5, 6, 7, 8, 9, 10] 11 (fun s => [(0, v), (2, .pointer (some ⟨A_r, 0, none⟩)), (3, .int .i64 0), (4, .pointer (some ⟨A_t, 0, none⟩)), (5, .int .i64 (i : Int)), (48, s), (49, .pointer (some ⟨A_t, 0, none⟩))]) (fun s w' => Below A_t w w' ∧ B1 ≤ w'.heap.size ∧ w'.ownsRow B1 3 1 s ((gtS b).take (i + 1)).length (((gtS b).take (i + 1)).map (Value.int .i64)) ∧ Blk w' A_t 25 [u, .slice none 0 0]) (by kernel_rfl) rfl ?_ ?_
    · refine Aw.cls (fun w' => Blk w' A_t 25 [u, .slice none 0 0] ∧ SlT b8 w' v b) (fun hC => ?_) (hC)
      refine AwC.take (i := 0) (NoP.thn (NoP.blk (NoP.thn (NoP.thn (NoP.blk (NoP.thn NoP.ret)))))) rfl (by kernel_rfl) (by kernel_rfl) (by kernel_rfl) (fun w1 hc => Ex.fieldAddr (q := 0) Tryz.underlying25 rfl (sz_22 _) rfl) rfl ?_
      refine AwC.take (i := 1) (NoP.thn (NoP.blk (NoP.thn (NoP.thn (NoP.blk (NoP.thn NoP.ret)))))) rfl (by kernel_rfl) (by kernel_rfl) (by kernel_rfl) (fun w1 hc => Ex.ldB (ag_22 _) rfl hc.1 rfl) rfl ?_
      refine AwC.take (i := 2) (NoP.thn (NoP.blk (NoP.thn (NoP.thn (NoP.blk (NoP.thn NoP.ret)))))) rfl (by kernel_rfl) (by kernel_rfl) (by kernel_rfl) (fun w1 hc => Ex.move rfl) rfl ?_
      refine AwC.take (i := 3) (NoP.thn (NoP.blk (NoP.thn (NoP.thn (NoP.blk (NoP.thn NoP.ret)))))) rfl (by kernel_rfl) (by kernel_rfl) (by kernel_rfl) (fun w1 hc => Ex.move rfl) rfl ?_
      refine AwC.take (i := 4) (NoP.thn (NoP.blk (NoP.thn (NoP.thn (NoP.blk (NoP.thn NoP.ret)))))) rfl (by kernel_rfl) (by kernel_rfl) (by kernel_rfl) (fun w1 hc => Ex.addI rfl rfl (by omega)) rfl ?_
      refine AwC.take (i := 5) (NoP.thn (NoP.blk (NoP.thn (NoP.thn (NoP.blk (NoP.thn NoP.ret)))))) rfl (by kernel_rfl) (by kernel_rfl) (by kernel_rfl) (fun w1 hc => Ex.idxS st_56 rfl rfl hc.2.shp (1 + i) (by omega) (by omega)) rfl ?_
      refine AwC.take (i := 6) (NoP.thn (NoP.blk (NoP.thn (NoP.thn (NoP.blk (NoP.thn NoP.ret)))))) rfl (by kernel_rfl) (by kernel_rfl) (by kernel_rfl) (fun w1 hc => Ex.ldT (ag_5 _) rfl hc.2 (by omega)) rfl ?_
      refine AwC.take (i := 7) (NoP.thn (NoP.blk (NoP.thn (NoP.thn (NoP.blk (NoP.thn NoP.ret)))))) rfl (by kernel_rfl) (by kernel_rfl) (by kernel_rfl) (fun w1 hc => Ex.conv8_I us_5 un_3 rfl) rfl ?_
      refine AwC.only (by assumption) (i := 8) (by kernel_rfl) rfl ?_
      refine Lw.valW (Xw.lit (vs := [((b.getD (1 + i) default).toNat : Int)].map (Value.int .i64)) st_22 it_3 rfl rfl rfl rfl rfl) rfl ?_
      rintro x w3 ⟨hx, -, hn3, -⟩
      have ho := own_bs ho hn3
      have hC : Blk w3 A_t 25 [u, .slice none 0 0] ∧ SlT b8 w3 v b := ⟨hC.1.bs hn3, hC.2.bs hn3⟩
      have z3 := hn3.size
      refine AwC.back ?_
      refine AwC.only (by assumption) (i := 9) (by kernel_rfl) rfl ?_
      refine Lw.valW (Xw.append (base := B1) st_22 it_3 rfl (by decide) rfl rfl ho (own_sl hx) (one_map (fun _ => rfl) _) (by omega) (by omega) (by omega)) rfl ?_
      rintro s w4 ⟨ho4, hb4, hg4⟩
      rw [← List.map_append, ← e1, e2] at ho4
      have b_t4 := hC.1.by hg4 (fun e => by have := (own_block ho _ e.symm).1; omega)
      have hC : Blk w4 A_t 25 [u, .slice none 0 0] ∧ SlT b8 w4 v b := ⟨b_t4, stayB hC.2 hb4 (fun k e hne => by have := hvb k e hne; omega)⟩
      refine AwC.back ?_
      refine AwC.take (i := 10) (NoP.thn (NoP.blk (NoP.thn (NoP.thn (NoP.blk (NoP.thn NoP.ret)))))) rfl (by kernel_rfl) (by kernel_rfl) (by kernel_rfl) (fun w1 hc => Ex.fieldAddr (q := 0) Tryz.underlying25 rfl (sz_22 _) rfl) rfl ?_
      refine AwC.done (by assumption) (by kernel_rfl) ?_
      exact Pw.thenN (Pw.seg (s) ⟨rfl, rfl, rfl, rfl, rfl, rfl, rfl, trivial⟩ (⟨((hn.trans (hd.mono (by omega))).trans (hn3.mono (by omega))).trans (hb4.mono (by omega)), by have := hb4.size; omega, ho4, b_t4⟩))
    rintro s w5 ⟨hn, hz, ho, b_t⟩
    refine Aw.only (i := 11) (by kernel_rfl) rfl ?_
    refine Lw.unit (Xu.stB (u := s) (sz_22 _) rfl rfl (own_sl ho).one' b_t Nat.zero_lt_two) ?_
    rintro w6 ⟨b_t, hg6, hz6⟩
    have hn := hn.grown hg6 (by omega) (by rintro _ ⟨⟩; omega)
    have ho := own_heap ho (fun k e => hg6.block k (own_block ho k e).2 (by intro e2; have := (own_block ho k e).1; cases e2; omega))
    refine Aw.back ?_
    refine Aw.done (by kernel_rfl) ?_
    refine Pw.blkN ?_
    refine Pw.thenN (Cw.out ?_)
    refine Cw.region ?_
    refine Lw.val (Ex.move rfl) rfl ?_
    refine Lw.val (Ex.addI rfl rfl (by omega)) rfl ?_
    refine Lw.val (Ex.assign rfl) rfl ?_
    refine Lw.nil ?_
    exact Pw.thenN (Pw.next ((i + 1, s)) ⟨rfl, rfl, rfl, rfl, rfl, trivial⟩ (⟨hi', b_t, ho, hn, by omega⟩) (by simp only; omega))
  intro h
  have hi' : i = N := by have := of_decide_eq_false h; omega
  have eS : (gtS b).take i = gtS b := List.take_of_length_le (by omega)
  rw [eS] at ho
  have zb := below_size hB
  have zn := below_size hn
  have zt : A_t ≤ w1.heap.size := by omega
  have hB := hB.trans (hn.mono (by omega))
  have b_r := b_r.bl hn (by omega)
  refine Cw.exit ?_
  refine Pw.thenE ?_
  refine Pw.thenE ?_
  refine Pw.blkHit ?_
  refine Pw.thenN (Cw.out ?_)
  refine Cw.seq ?_
  refine Cw.region ?_
  refine Lw.val (Ex.move rfl) rfl ?_
  refine Lw.val (Ex.move rfl) rfl ?_
  refine Lw.val (Ex.idxT st_56 rfl rfl (by assumption) 0 rfl (by omega)) rfl ?_
  refine Lw.val (Ex.ldT (ag_5 _) rfl (by assumption) (by omega)) rfl ?_
  refine Lw.val (Ex.as (Ex.conv8_I us_5 un_3 rfl) eN) rfl ?_
  refine Lw.val (Ex.as (Ex.addI rfl rfl (by omega)) (congrArg (Value.int .i64) (show (1 : Int) + (N : Int) = ((1 + N : Nat) : Int) by omega))) rfl ?_
  refine Lw.val (Ex.cutL st_56 rfl rfl (by assumption) (by omega)) rfl ?_
  refine Lw.val (Ex.assign rfl) rfl ?_
  refine Lw.nil ?_
  refine Pw.thenN (Cw.out ?_)
  refine Cw.seq ?_
  refine Cw.seq ?_
  have lS : (gtS b).length = N := by omega
  have s_6 := SlT.drop h_b1 (show 1 + N ≤ b.length by omega)
  have s_5 := own_slT ho
  have hx : KRow w1 W.heap.size 3 1 u (gtS b).length ((gtS b).map (Value.int .i64)) := .inl (own_mono ho (by omega))
  have hxB : ∀ k, u.ownBlock = some k → B1 ≤ k ∧ k < w1.heap.size := fun k e => own_block ho k e
  have zw1 := below_size hB
  obtain ⟨R, hR⟩ : ∃ R, R = b.drop (1 + N) := ⟨_, rfl⟩
  have lR : R.length = b.length - (1 + N) := by rw [hR, List.length_drop]
  have hRb : b = [] → R = [] := fun e => by rw [hR, e]; exact List.drop_nil
  have eL : gtL b = nums R := by rw [hR, ← lS]; rfl
  rw [← hR] at s_6
  obtain ⟨c6, hc6⟩ : ∃ c6, c6 = cut v 1 (1 + N) b.length := ⟨_, rfl⟩
  have c6b : ∀ k, c6.ownBlock = some k → R ≠ [] → k < W.heap.size := fun k e hne => hvb k (cut_own (by rw [← hc6]; exact e)) (fun e2 => hne (hRb e2))
  rw [← hc6] at s_6
  refine Cw.know 6 (v' := c6) rfl (hc6.symm) ?_
  refine Cw.region ?_
  refine Lw.val (Ex.fieldAddr (q := 0) Tryz.underlying25 rfl (sz_22 _) rfl) rfl ?_
  refine Lw.val (Ex.ldB (ag_22 _) rfl (by assumption) rfl) rfl ?_
  have h_b := h_b1
  have yt := blk_lt b_t
  have yr := blk_lt b_r
  have hBt : Below w1.heap.size w1 w1 := Below.refl _ _
  clear hn ho hi h h_b1
  refine Lw.callF rfl rfl (rcheck_c u (gtS b) _ s_5) ?_
  rintro _ w ⟨rfl, hn⟩
  replace hB := hB.bs hn
  replace hBt := hBt.bs hn
  replace b_t := b_t.bs hn
  replace b_r := b_r.bs hn
  replace s_6 := s_6.bs hn
  replace s_5 := s_5.bs hn
  replace hx := hx.bs hn
  clear hn
  refine Lw.val (Ex.not rfl) rfl ?_
  refine Lw.val (Ex.move rfl) rfl ?_
  have sz := Shapes.size_le (gtS b)
  have z2 := below_size hB
  refine Lw.part 61 rfl ?_ ?_
  · intro g
    have hk : gtK b = false := by
      have : Shapes.ok (gtS b) = false := by simpa using g
      simp [gtK, this]
    refine Lw.pass (dj := 61) rfl rfl rfl rfl ?_
    refine Lw.pass (dj := 61) rfl rfl rfl rfl ?_
    refine Lw.pass (dj := 61) rfl rfl rfl rfl ?_
    refine Lw.pass (dj := 61) rfl rfl rfl rfl ?_
    refine Lw.pass (dj := 61) rfl rfl rfl rfl ?_
    refine Lw.pass (dj := 61) rfl rfl rfl rfl ?_
    refine Lw.pass (dj := 61) rfl rfl rfl rfl ?_
    refine Lw.val (Ex.pickT rfl rfl) rfl ?_
    refine Lw.nil ?_
    refine Pw.thenN (Cw.out ?_)
    refine Cw.condT rfl ?_
    refine Cw.seq ?_
    refine Cw.region ?_
    refine Lw.val (Ex.build (vs := []) (cs := [.slice none 0 0, .slice none 0 0]) rfl (by kernel_rfl)) rfl ?_
    refine Lw.unit (Xu.stA (cs := [.slice none 0 0, .slice none 0 0]) rfl rfl rfl rfl rfl b_r rfl) ?_
    rintro w3 ⟨b_r, hg, -⟩
    have hB := hB.grown hg (below_size hB) (by rintro _ ⟨⟩; omega)
    refine Lw.val (Ex.assign rfl) rfl ?_
    refine Lw.nil ?_
    refine Pw.thenN (Cw.out ?_)
    refine Cw.ret ?_
    refine Pw.thenR ?_
    refine Pw.retCT rfl rfl rfl (by assumption) (Tryz.underlying25) rfl rfl rfl ?_
    exact ⟨hB, rget_none hk⟩
  intro g
  have hok : Shapes.ok (gtS b) = true := by simpa using g
  refine Lw.take (dj := 61) rfl rfl ?_
  refine Lw.val (Ex.move rfl) rfl ?_
  refine Lw.take (dj := 61) rfl rfl ?_
  refine Lw.val (Ex.lenS st_56 rfl (by assumption)) rfl ?_
  refine Lw.take (dj := 61) rfl rfl ?_
  refine Lw.val (Ex.fieldAddr (q := 0) Tryz.underlying25 rfl (sz_22 _) rfl) rfl ?_
  refine Lw.take (dj := 61) rfl rfl ?_
  refine Lw.val (Ex.ldB (ag_22 _) rfl (by assumption) rfl) rfl ?_
  refine Lw.take (dj := 61) rfl rfl ?_
  refine Lw.callF rfl rfl (rsize_c u (gtS b) _ s_5) ?_
  rintro _ w ⟨rfl, hn⟩
  replace hB := hB.bs hn
  replace hBt := hBt.bs hn
  replace b_t := b_t.bs hn
  replace b_r := b_r.bs hn
  replace s_6 := s_6.bs hn
  replace s_5 := s_5.bs hn
  replace hx := hx.bs hn
  clear hn
  refine Lw.take (dj := 61) rfl rfl ?_
  refine Lw.val (Ex.mulI rfl rfl (by omega)) rfl ?_
  refine Lw.take (dj := 61) rfl rfl ?_
  refine Lw.val (Ex.neq rfl rfl) rfl ?_
  refine Lw.val (Ex.pickF rfl rfl) rfl ?_
  refine Lw.nil ?_
  refine Pw.thenN (Cw.out ?_)
  have z2 := below_size hB
  refine Cw.cond rfl ?_ ?_
  · intro g
    have hk : gtK b = false := by
      have : ¬ ((R.length : Int) = 4 * Shapes.size (gtS b)) := by simpa using g
      simp only [gtK, hok, Bool.true_and, decide_eq_false_iff_not]
      omega
    refine Cw.seq ?_
    refine Cw.region ?_
    refine Lw.val (Ex.build (vs := []) (cs := [.slice none 0 0, .slice none 0 0]) rfl (by kernel_rfl)) rfl ?_
    refine Lw.unit (Xu.stA (cs := [.slice none 0 0, .slice none 0 0]) rfl rfl rfl rfl rfl b_r rfl) ?_
    rintro w3 ⟨b_r, hg, -⟩
    have hB := hB.grown hg (below_size hB) (by rintro _ ⟨⟩; omega)
    refine Lw.val (Ex.assign rfl) rfl ?_
    refine Lw.nil ?_
    refine Pw.thenN (Cw.out ?_)
    refine Cw.ret ?_
    refine Pw.thenR ?_
    refine Pw.retCT rfl rfl rfl (by assumption) (Tryz.underlying25) rfl rfl rfl ?_
    exact ⟨hB, rget_none hk⟩
  intro g
  have gK : gtK b = true := by
    have : ((R.length : Int)) = 4 * Shapes.size (gtS b) := by simpa using g
    simp only [gtK, hok, Bool.true_and, decide_eq_true_eq]
    omega
  obtain ⟨-, gk2, gk3, -⟩ := gtK_ok gK
  obtain ⟨n, hn0⟩ : ∃ n, n = (Shapes.size (gtS b)).toNat := ⟨_, rfl⟩
  have lR4 : R.length = 4 * n := by omega
  have n4 : n ≤ 4096 := by omega
  obtain ⟨B2, hB2⟩ : ∃ B2, B2 = w.heap.size := ⟨_, rfl⟩
  have zz : B1 ≤ B2 ∧ A_t < B2 ∧ A_r < B2 ∧ W.heap.size ≤ B2 := by have := blk_lt b_t; have := blk_lt b_r; have := below_size hBt; omega
  have hxB : ∀ k, u.ownBlock = some k → B1 ≤ k ∧ k < B2 := fun k e => ⟨(hxB k e).1, by have := hx.lt k e; omega⟩
  clear s_5 hBt
  refine Cw.skip ?_
  refine Pw.thenN (Cw.out ?_)
  refine Cw.seq ?_
  refine Cw.seq ?_
  refine Cw.region ?_
  refine Lw.val (Ex.assign rfl) rfl ?_
  refine Lw.nil ?_
  refine Pw.thenN (Cw.out ?_)
  refine Cw.block ?_
  refine Cw.loop (S := (Nat × Value × List (BitVec 32))) (fun z => [(0, v), (2, .pointer (some ⟨A_r, 0, none⟩)), (3, .int .i64 0), (4, .pointer (some ⟨A_t, 0, none⟩)), (6, c6), (7, .int .i64 ((4 * z.1 : Nat) : Int))]) (fun z w' => z.1 ≤ n ∧ z.2.2.length = z.1 ∧ z.2.2 ++ nums (R.drop (4 * z.1)) = nums R ∧ Blk w' A_t 25 [u, z.2.1] ∧ w'.ownsRow B2 21 1 z.2.1 z.2.2.length (z.2.2.map i32) ∧ KRow w' W.heap.size 3 1 u (gtS b).length ((gtS b).map (Value.int .i64)) ∧ Blk w' A_r 25 [.slice none 0 0, .slice none 0 0] ∧ SlT b8 w' c6 R ∧ Below W.heap.size W w' ∧ B2 ≤ w'.heap.size) (fun z => n - z.1) ((0, .slice none 0 0, [])) ⟨rfl, rfl, rfl, rfl, rfl, rfl, trivial⟩ ?_ ?_
  · exact ⟨Nat.zero_le _, rfl, rfl, b_t, ⟨rfl, .inl ⟨rfl, rfl⟩⟩, hx, b_r, s_6, hB, by omega⟩
  clear b_t hx b_r s_6 hB z2 zw1 h_b yt yr
  rintro ⟨j, y, pre⟩ w1 ⟨hj, lp, hp, b_t, ho, hx, b_r, s_6, hB, zB⟩
  dsimp only at hj lp hp b_t ho hx b_r s_6 hB zB ⊢
  refine Cw.seq ?_
  refine Cw.seq ?_
  refine Cw.region ?_
  refine Lw.val (Ex.move rfl) rfl ?_
  refine Lw.val (Ex.move rfl) rfl ?_
  refine Lw.val (Ex.lenS st_56 rfl (by assumption)) rfl ?_
  refine Lw.val (Ex.lss rfl rfl) rfl ?_
  refine Lw.nil ?_
  refine Pw.thenN (Cw.out ?_)
  refine Cw.cond rfl ?_ ?_
  · intro h
    have hj' : j < n := by have := of_decide_eq_true h; omega
    have h4 : 4 ≤ (R.drop (4 * j)).length := by rw [List.length_drop]; omega
    have s_7 := SlT.drop s_6 (show 4 * j ≤ R.length by omega)
    have e1 : pre ++ [gf (R.drop (4 * j))] ++ nums (R.drop (4 * (j + 1))) = nums R := by
      rw [← hp, gf_nums h4, List.drop_drop, List.append_assoc]; rfl
    have e2 : pre.length + 1 = (pre ++ [gf (R.drop (4 * j))]).length := by simp
    refine Cw.skip ?_
    refine Pw.thenN (Cw.out ?_)
    refine Cw.seq ?_
    refine Cw.block ?_
    refine Cw.seq ?_
    refine Cw.region ?_
    refine Lw.val (Ex.move rfl) rfl ?_
    refine Lw.val (Ex.move rfl) rfl ?_
    refine Lw.val (Ex.cutL st_56 rfl rfl (by assumption) (by omega)) rfl ?_
    refine Lw.callF rfl rfl (rgetFour_c _ _ w1 s_7 h4) ?_
    rintro _ w2 ⟨rfl, hn⟩
    have zn := hn.size
    have ho := own_bs ho hn
    replace b_t := b_t.bs hn
    replace b_r := b_r.bs hn
    replace s_6 := s_6.bs hn
    replace hx := hx.bs hn
    replace hB := hB.bs hn
    clear hn
    refine Lw.val (Ex.move rfl) rfl ?_
    refine Lw.val (Ex.extract (i := 0) rfl rfl) rfl ?_
    refine Lw.val (Ex.extract (i := 1) rfl rfl) rfl ?_
    refine Lw.val (Ex.assign rfl) rfl ?_
    refine Lw.val (Ex.assign rfl) rfl ?_
    refine Lw.nil ?_
    refine Pw.thenN (Cw.out ?_)
    refine Cw.region ?_
    refine Lw.val (Ex.fieldAddr (q := 0) Tryz.underlying25 rfl (sz_23 _) rfl) rfl ?_
    refine Lw.val (Ex.ldB (ag_23 _) rfl (by assumption) rfl) rfl ?_
    refine Lw.val (Ex.move rfl) rfl ?_
    refine Lw.val (Ex.conv32_i32 us_78 un_21 rfl) rfl ?_
    refine Lw.valW (Xw.lit (vs := [gf (R.drop (4 * j))].map i32) st_23 it_21 rfl rfl rfl rfl rfl) rfl ?_
    rintro x w3 ⟨hx3, -, hn3, -⟩
    have ho := own_bs ho hn3
    have z3 := hn3.size
    replace b_t := b_t.bs hn3
    replace b_r := b_r.bs hn3
    replace s_6 := s_6.bs hn3
    replace hx := hx.bs hn3
    replace hB := hB.bs hn3
    refine Lw.valW (Xw.append (base := B2) st_23 it_21 rfl (by decide) rfl rfl ho (own_sl hx3) (one_map (fun _ => rfl) _) (by omega) (by omega) (by omega)) rfl ?_
    rintro y' w4 ⟨ho4, hb4, hg4⟩
    rw [← List.map_append, e2] at ho4
    have b_t := b_t.bl hb4 (by omega)
    have b_r := b_r.bl hb4 (by omega)
    have s_6 := stayB s_6 hb4 (fun k e hne => by have := c6b k e hne; omega)
    have hx := hx.heap (fun k e => hb4.block k (hxB k e).2)
    have hB := hB.trans (hb4.mono (by omega))
    have z4 := hb4.size
    refine Lw.val (Ex.fieldAddr (q := 0) Tryz.underlying25 rfl (sz_23 _) rfl) rfl ?_
    refine Lw.unit (Xu.stB (u := y') (sz_23 _) rfl rfl (own_sl ho4).one' b_t Nat.one_lt_two) ?_
    rintro w6 ⟨b_t, hg6, hz6⟩
    have hB := hB.grown hg6 (below_size hB) (by rintro _ ⟨⟩; omega)
    have ho := own_heap ho4 (fun k e => hg6.block k (own_block ho4 k e).2 (by intro e2; have := (own_block ho4 k e).1; cases e2; omega))
    have hx := hx.heap (fun k e => hg6.block k (hx.lt k e).2 (by intro e2; have := (hxB k e).1; cases e2; omega))
    have b_r := b_r.by hg6 (by intro e; cases e; omega)
    have s_6 := stayA s_6 hg6 (fun k e hne => by have := c6b k e hne; omega)
    refine Lw.nil ?_
    refine Pw.blkN ?_
    refine Pw.thenN (Cw.out ?_)
    refine Cw.region ?_
    refine Lw.val (Ex.move rfl) rfl ?_
    refine Lw.val (Ex.addI rfl rfl (by omega)) rfl ?_
    refine Lw.val (Ex.assign rfl) rfl ?_
    refine Lw.nil ?_
    exact Pw.thenN (Pw.next ((j + 1, y', pre ++ [gf (R.drop (4 * j))])) ⟨rfl, rfl, rfl, rfl, rfl, (congrArg (fun z => some (Value.int .i64 z)) (by simp only; omega)), trivial⟩ (⟨hj', by simp [lp], e1, b_t, ho, hx, b_r, s_6, hB, by omega⟩) (by simp only; omega))
  intro h
  have hj' : j = n := by have := of_decide_eq_false h; omega
  have eR : pre = gtL b := by
    rw [eL, ← hp, List.drop_of_length_le (by omega)]
    simp [nums]
  rw [eR] at ho
  have yB := own_block ho
  refine Cw.exit ?_
  refine Pw.thenE ?_
  refine Pw.thenE ?_
  refine Pw.blkHit ?_
  refine Pw.thenN (Cw.out ?_)
  refine Cw.seq ?_
  refine Cw.region ?_
  refine Lw.val (Ex.ldA (ag_25 _) (sz_25 _) rfl rfl (by assumption)) rfl ?_
  refine Lw.unit (Xu.stA (cs := [u, y]) rfl rfl rfl rfl (by simp [hx.slT.one', (own_slT ho).one']) b_r rfl) ?_
  rintro w2 ⟨b_r, hg, hz⟩
  have hB := hB.grown hg (below_size hB) (by rintro _ ⟨⟩; omega)
  have ho := own_heap ho (fun k e => hg.block k (own_block ho k e).2 (by intro e2; have := (own_block ho k e).1; cases e2; omega))
  have hx := hx.heap (fun k e => hg.block k (hx.lt k e).2 (by intro e2; have := (hxB k e).1; cases e2; omega))
  refine Lw.val (Ex.assign rfl) rfl ?_
  refine Lw.nil ?_
  refine Pw.thenN (Cw.out ?_)
  refine Cw.ret ?_
  refine Pw.retCT rfl rfl rfl (by assumption) (Tryz.underlying25) rfl rfl rfl ?_
  exact ⟨hB, ⟨u, y, gtS b, gtL b⟩, by simp [gtE, gK, T4.v], ⟨hx, .inl (own_mono ho (by omega)), hx.lt, fun k e => ⟨by have := (yB k e).1; omega, (own_block ho k e).2⟩, fun k e1 e2 => by have := (yB k e1).1; have := hxB k e2; omega⟩, fun h => by simp [gtE, gK] at h, fun _ => ⟨rfl, rfl⟩⟩
end Go.Proofs.YtjfghiepdnonjaaGreatDoor
