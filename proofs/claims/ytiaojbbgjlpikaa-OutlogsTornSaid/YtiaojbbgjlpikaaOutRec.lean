/- Contract: a record of a log, as it is read. -/
import Derived.Test.YtiaojbbgjlpikaaOutCode
namespace Go.Proofs.Ytiaojbbgjlpikaa
open Go Go.Dd Go.RowKit
set_option maxRecDepth 100000

abbrev recT : TypeId := 39
/-- The bytes of so many sectors' parts, from one on. -/
def catS (l : List By) (at' : Nat) : Nat → By
  | 0 => []
  | j + 1 => catS l at' j ++ secB l (at' + j)
theorem secB_len {l : List By} {n : Nat} (h : ∀ b ∈ l, b.length = 64) (he : secE l n = 0) : (secB l n).length = 60 := by
  have hn : n < l.length := by
    unfold secE at he
    split at he
    · assumption
    · cases he
  unfold secB
  rw [List.getD_eq_getElem?_getD, List.getElem?_eq_getElem hn, Option.getD_some, List.length_take, h _ (List.getElem_mem hn)]
  rfl
theorem catS_len {l : List By} {a : Nat} (h : ∀ b ∈ l, b.length = 64) : ∀ j, (∀ i, i < j → secE l (a + i) = 0) → (catS l a j).length = 60 * j
  | 0, _ => rfl
  | j + 1, he => by
    rw [catS, List.length_append, catS_len h j (fun i hi => he i (by omega)), secB_len h (he j (by omega))]; omega
/-- How many bytes a record's tensor has; how many it takes. -/
def recM (l : List By) (a : Nat) : Nat := (gf ((secB l a).drop 4)).toNat
def recF (B : By) (need : Nat) : Bool := gtK ((B.drop 8).take (need - 8)) && nzB (B.drop need)
def noRec : Value := .agg [u32 0#32, .slice none 0 0, .slice none 0 0].toArray
/-- What reading a record at a sector comes to. -/
inductive RecR (W w : World) (l : List By) (a : Nat) : Value → Prop
  | bad (j : Nat) (h1 : ∀ i, i < j → secE l (a + i) = 0) (h2 : j = 0 ∨ (recM l a ≤ 65536 ∧ 60 * j < 8 + recM l a)) (h3 : secE l (a + j) ≠ 0) : RecR W w l a (.tuple #[noRec, .int .i64 0, .int .i64 (secE l (a + j))])
  | many (h1 : secE l a = 0) (h2 : 65536 < recM l a) : RecR W w l a (.tuple #[noRec, .int .i64 0, .int .i64 4])
  | none (j : Nat) (h1 : ∀ i, i < j → secE l (a + i) = 0) (h2 : recM l a ≤ 65536) (h3 : 8 + recM l a ≤ 60 * j) (h4 : 60 * (j - 1) < 8 + recM l a) (h5 : recF (catS l a j) (8 + recM l a) = false) : RecR W w l a (.tuple #[noRec, .int .i64 0, .int .i64 4])
  | one (j : Nat) (x y : Value) (h1 : ∀ i, i < j → secE l (a + i) = 0) (h2 : recM l a ≤ 65536) (h3 : 8 + recM l a ≤ 60 * j) (h4 : 60 * (j - 1) < 8 + recM l a) (h5 : recF (catS l a j) (8 + recM l a) = true)
      (h6 : Made1 W w x y (gtS (((catS l a j).drop 8).take (recM l a))) (gtL (((catS l a j).drop 8).take (recM l a)))) : RecR W w l a (.tuple #[.agg [u32 (gf (catS l a j)), x, y].toArray, .int .i64 ((a + j : Nat) : Int), .int .i64 0])
theorem bt_rec (n : BitVec 32) (x y : Value) : Try.prog.built recT [(0, u32 n), (1, .agg [x, y].toArray)] = some [u32 n, x, y].toArray := by
  have h1 : Try.prog.info? 39 = some Try.t39 := by kernel_rfl
  have h2 : Try.prog.info? 32 = some Try.t32 := by kernel_rfl
  have h3 : Try.prog.info? 36 = some Try.t36 := by kernel_rfl
  simp [Program.built, h1, Try.underlying39, h2, h3, Instr.fill, Value.cells]
  rfl
theorem made_low {W W1 w : World} {x y : Value} {s : List Int} {l : List (BitVec 32)} (h : Made1 W1 w x y s l) (hb : W.heap.size ≤ W1.heap.size) : Made1 W w x y s l := ⟨h.row.mono hb, own_mono h.own hb, h.apart⟩
theorem record_c (A : Nat) (S : Nat → Prop) (D : Dsk) (a : Nat) (W : World) (h : DiskAt W S A D) (ha : a ≤ 100000) :
    Fnc Try.prog 28 [.pointer (some ⟨A, 0, none⟩), .int .i64 (a : Int)] W (fun r w' => Below W.heap.size W w' ∧ RecR W w' D.seen a r) := by
  have h64 : ∀ b ∈ D.seen, b.length = 64 := by obtain ⟨_, _, _, h⟩ := h; exact h.ok.f2
  obtain ⟨l, hl⟩ : ∃ l, l = D.seen := ⟨_, rfl⟩
  rw [← hl] at h64 ⊢
  obtain ⟨m, hm⟩ : ∃ m, m = recM l a := ⟨_, rfl⟩
  have hB := Below.refl W.heap.size W
  refine Fnc.enter (n := 67) Try.func28 (by kernel_rfl) rfl rfl rfl ?_
  refine Cw.seq ?_
  refine Cw.region ?_
  refine Lw.newA it_39 rfl ?_
  rintro A_r w eA_r b_r hn -
  replace hB := hB.bs hn
  clear hn
  refine Lw.val (Ex.assign rfl) rfl ?_
  refine Lw.val (Ex.assign rfl) rfl ?_
  refine Lw.nil ?_
  refine Pw.thenN (Cw.out ?_)
  refine Cw.seq ?_
  refine Cw.region ?_
  refine Lw.val (Ex.assign rfl) rfl ?_
  refine Lw.nil ?_
  refine Pw.thenN (Cw.out ?_)
  refine Cw.seq ?_
  refine Cw.region ?_
  refine Lw.val (Ex.assign rfl) rfl ?_
  refine Lw.nil ?_
  refine Pw.thenN (Cw.out ?_)
  refine Cw.seq ?_
  refine Cw.seq ?_
  refine Cw.region ?_
  refine Lw.val (Ex.move rfl) rfl ?_
  refine Lw.val (Ex.assign rfl) rfl ?_
  refine Lw.nil ?_
  refine Pw.thenN (Cw.out ?_)
  refine Cw.block ?_
  have z_r := below_size hB
  have y_r := blk_lt b_r
  obtain ⟨B1, hB1⟩ : ∃ B1, B1 = w.heap.size := ⟨_, rfl⟩
  have a_r : W.heap.size ≤ A_r ∧ A_r < B1 := by omega
  refine Cw.loop (S := (Nat × Value)) (fun z => [(0, .pointer (some ⟨A, 0, none⟩)), (1, .int .i64 (a : Int)), (4, .pointer (some ⟨A_r, 0, none⟩)), (5, .int .i64 ((a + z.1 : Nat) : Int)), (7, z.2), (8, .int .i64 ((if z.1 = 0 then 8 else 8 + m : Nat) : Int))]) (fun z w' => (∀ i, i < z.1 → secE l (a + i) = 0) ∧ (z.1 = 0 ∨ m ≤ 65536) ∧ (z.1 ≤ 1 ∨ 60 * (z.1 - 1) < 8 + m) ∧ Blk w' A_r recT [u32 0#32, .slice none 0 0, .slice none 0 0] ∧ w'.ownsRow B1 5 1 z.2 (catS l a z.1).length ((catS l a z.1).map b8) ∧ Below W.heap.size W w' ∧ B1 ≤ w'.heap.size) (fun z => 2000 - z.1) ((0, .slice none 0 0)) ⟨rfl, rfl, rfl, rfl, rfl, rfl, trivial⟩ ?_ ?_
  · exact ⟨fun i hi => by omega, .inl rfl, .inl (by omega), b_r, ⟨rfl, .inl ⟨rfl, rfl⟩⟩, hB, by omega⟩
  clear b_r hB y_r z_r
  rintro ⟨j, bv⟩ w1 ⟨hok, hm1, hm2, b_r, ho, hB, hz⟩
  dsimp only at hok hm1 hm2 b_r ho hB hz ⊢
  have lc := catS_len h64 j hok
  have j2 : j < 1200 := by rcases hm2 with h | h <;> rcases hm1 with h' | h' <;> omega
  have s_b := own_slT ho
  refine Cw.seq ?_
  refine Cw.seq ?_
  refine Cw.region ?_
  refine Lw.val (Ex.move rfl) rfl ?_
  refine Lw.val (Ex.lenS st_53 rfl (by assumption)) rfl ?_
  refine Lw.val (Ex.move rfl) rfl ?_
  refine Lw.val (Ex.lss rfl rfl) rfl ?_
  refine Lw.nil ?_
  refine Pw.thenN (Cw.out ?_)
  refine Cw.cond rfl ?_ ?_
  · intro g
    have g1 : 60 * j < (if j = 0 then 8 else 8 + m) := by have := of_decide_eq_true g; rw [lc] at this; omega
    have h1 := h.bs hB
    refine Cw.skip ?_
    refine Pw.thenN (Cw.out ?_)
    refine Cw.seq ?_
    refine Cw.block ?_
    refine Cw.seq ?_
    refine Cw.region ?_
    refine Lw.val (Ex.move rfl) rfl ?_
    refine Lw.val (Ex.move rfl) rfl ?_
    refine Lw.callF rfl rfl (sector_c A S D (a + j) w1 h1) ?_
    rintro _ w2 ⟨hn, x, rfl, hx⟩
    rw [← hl] at hx ⊢
    have zn := hn.size
    have b_r := b_r.bs hn
    have ho := own_bs ho hn
    have hB2 := hB.trans (hn.mono (below_size hB))
    refine Lw.val (Ex.move rfl) rfl ?_
    refine Lw.val (Ex.extract (i := 0) rfl rfl) rfl ?_
    refine Lw.val (Ex.extract (i := 1) rfl rfl) rfl ?_
    refine Lw.val (Ex.assign rfl) rfl ?_
    refine Lw.val (Ex.assign rfl) rfl ?_
    refine Lw.nil ?_
    refine Pw.thenN (Cw.out ?_)
    refine Cw.seq ?_
    refine Cw.seq ?_
    refine Cw.region ?_
    refine Lw.val (Ex.move rfl) rfl ?_
    refine Lw.val (Ex.neq rfl rfl) rfl ?_
    refine Lw.nil ?_
    refine Pw.thenN (Cw.out ?_)
    refine Cw.cond rfl ?_ ?_
    · intro g2
      have g3 : secE l (a + j) ≠ 0 := by simpa using g2
      refine Cw.seq ?_
      refine Cw.region ?_
      refine Lw.val (Ex.ldA (ag_39 _) (sz_39 _) rfl rfl (by assumption)) rfl ?_
      refine Lw.val (Ex.move rfl) rfl ?_
      refine Lw.unit (Xu.stA (cs := [u32 0#32, .slice none 0 0, .slice none 0 0]) rfl rfl rfl rfl rfl b_r rfl) ?_
      rintro w3 ⟨b_r, hg, -⟩
      have hB3 := hB2.grown hg (below_size hB2) (by rintro _ ⟨⟩; omega)
      refine Lw.val (Ex.assign rfl) rfl ?_
      refine Lw.val (Ex.assign rfl) rfl ?_
      refine Lw.nil ?_
      refine Pw.thenN (Cw.out ?_)
      refine Cw.ret ?_
      refine Pw.thenR ?_
      refine Pw.blkR ?_
      refine Pw.thenR ?_
      refine Pw.thenR ?_
      refine Pw.blkR ?_
      refine Pw.thenR ?_
      refine Pw.retCTT rfl rfl rfl rfl (by assumption) (Try.underlying39) rfl rfl rfl ?_
      exact ⟨hB3, RecR.bad j hok (by by_cases h0 : j = 0; exact .inl h0; rw [if_neg h0] at g1; exact .inr ⟨by rcases hm1 with h | h; exact absurd h h0; omega, by omega⟩) g3⟩
    intro g2
    have g3 : secE l (a + j) = 0 := by simpa using g2
    obtain ⟨sx, hxb⟩ := hx g3
    have lx := secB_len h64 g3
    have hok' : ∀ i, i < j + 1 → secE l (a + i) = 0 := fun i hi => by
      by_cases h0 : i = j
      · rw [h0]; exact g3
      · exact hok i (by omega)
    have lc' := catS_len h64 (j + 1) hok'
    have e1 : (catS l a j).length + (secB l (a + j)).length = (catS l a (j + 1)).length := by rw [catS, List.length_append]
    refine Cw.skip ?_
    refine Pw.thenN (Cw.out ?_)
    refine Cw.seq ?_
    refine Cw.region ?_
    refine Lw.val (Ex.move rfl) rfl ?_
    refine Lw.val (Ex.move rfl) rfl ?_
    refine Lw.valW (Xw.append (base := B1) st_53 it_5 rfl (by decide) rfl rfl ho sx (b8_ones _) (by omega) (by omega) (by omega)) rfl ?_
    rintro bv' w3 ⟨ho3, hb3, hg3⟩
    rw [← List.map_append, e1, ← catS] at ho3
    have b_r3 := b_r.bl hb3 (by omega)
    have hB3 := hB2.trans (hb3.mono (by omega))
    have z3 := hb3.size
    have s_b3 := own_slT ho3
    clear s_b
    refine Lw.val (Ex.assign rfl) rfl ?_
    refine Lw.nil ?_
    refine Pw.thenN (Cw.out ?_)
    refine Cw.seq ?_
    refine Cw.region ?_
    refine Lw.val (Ex.move rfl) rfl ?_
    refine Lw.val (Ex.move rfl) rfl ?_
    refine Lw.val (Ex.eql rfl rfl) rfl ?_
    refine Lw.nil ?_
    refine Pw.thenN (Cw.out ?_)
    refine Cw.cond rfl ?_ ?_
    · intro g4
      have j0 : j = 0 := by have := of_decide_eq_true g4; omega
      subst j0
      have ec : catS l a 1 = secB l a := by simp [catS]
      have s4 : SlT b8 w3 (cut bv' 1 4 (catS l a (0 + 1)).length) ((secB l a).drop 4) := by
        have := SlT.drop s_b3 (show 4 ≤ (catS l a (0 + 1)).length by omega)
        rwa [show (catS l a (0 + 1)).drop 4 = (secB l a).drop 4 by rw [show (0 + 1) = 1 from rfl, ec]] at this
      have l4 : 4 ≤ ((secB l a).drop 4).length := by rw [List.length_drop]; simp only [Nat.add_zero] at lx; omega
      have em : ((gf ((secB l a).drop 4)).toNat : Int) = (m : Int) := by rw [hm]; rfl
      refine Cw.seq ?_
      refine Cw.seq ?_
      refine Cw.region ?_
      refine Lw.val (Ex.move rfl) rfl ?_
      refine Lw.val (Ex.cutL (i := 4) st_53 rfl rfl s_b3 (by rw [lc']; decide)) rfl ?_
      refine Lw.callF rfl rfl (ofour_c _ _ w3 s4 l4) ?_
      rintro _ w4 ⟨rfl, hn4⟩
      have b_r4 := b_r3.bs hn4
      have ho4 := own_bs ho3 hn4
      have hB4 := hB3.trans (hn4.mono (below_size hB3))
      have s_b4 := own_slT ho4
      have s44 := s4.bs hn4
      have z4 := hn4.size
      clear s_b3
      refine Lw.val (Ex.gtr rfl rfl) rfl ?_
      refine Lw.nil ?_
      refine Pw.thenN (Cw.out ?_)
      refine Cw.cond rfl ?_ ?_
      · intro g5
        have g6 : 65536 < m := by have := of_decide_eq_true g5; omega
        refine Cw.seq ?_
        refine Cw.region ?_
        refine Lw.val (Ex.ldA (ag_39 _) (sz_39 _) rfl rfl (by assumption)) rfl ?_
        refine Lw.unit (Xu.stA (cs := [u32 0#32, .slice none 0 0, .slice none 0 0]) rfl rfl rfl rfl rfl b_r4 rfl) ?_
        rintro w5 ⟨b_r, hg, -⟩
        have hB5 := hB4.grown hg (below_size hB4) (by rintro _ ⟨⟩; omega)
        refine Lw.val (Ex.assign rfl) rfl ?_
        refine Lw.val (Ex.assign rfl) rfl ?_
        refine Lw.nil ?_
        refine Pw.thenN (Cw.out ?_)
        refine Cw.ret ?_
        refine Pw.thenR ?_
        refine Pw.blkR ?_
        refine Pw.thenR ?_
        refine Pw.thenR ?_
        refine Pw.blkR ?_
        refine Pw.thenR ?_
        refine Pw.retCTT rfl rfl rfl rfl (by assumption) (Try.underlying39) rfl rfl rfl ?_
        exact ⟨hB5, RecR.many (by simpa using g3) (by omega)⟩
      intro g5
      have g6 : m ≤ 65536 := by have := of_decide_eq_false g5; omega
      refine Cw.skip ?_
      refine Pw.thenN (Cw.out ?_)
      refine Cw.region ?_
      refine Lw.val (Ex.move rfl) rfl ?_
      refine Lw.val (Ex.cutL (i := 4) st_53 rfl rfl s_b4 (by rw [lc']; decide)) rfl ?_
      refine Lw.callF rfl rfl (ofour_c _ _ w4 s44 l4) ?_
      rintro _ w5 ⟨rfl, hn5⟩
      refine Lw.val (Ex.conv32_I us_32 un_3 rfl) rfl ?_
      refine Lw.val (Ex.addI rfl rfl (by omega)) rfl ?_
      refine Lw.val (Ex.assign rfl) rfl ?_
      refine Lw.nil ?_
      refine Pw.blkN ?_
      refine Pw.thenN (Cw.out ?_)
      refine Cw.region ?_
      refine Lw.val (Ex.move rfl) rfl ?_
      refine Lw.val (Ex.addI rfl rfl (by omega)) rfl ?_
      refine Lw.val (Ex.assign rfl) rfl ?_
      refine Lw.nil ?_
      exact Pw.thenN (Pw.next ((1, bv')) ⟨rfl, rfl, rfl, (congrArg (fun z => some (Value.int .i64 z)) (by simp only; omega)), rfl, (congrArg (fun z => some (Value.int .i64 z)) (by simp only [Nat.one_ne_zero, if_false]; omega)), trivial⟩ (⟨fun i hi => hok' i (by simp only at hi; omega), .inr g6, .inl (Nat.le_refl _), b_r4.bs hn5, own_bs ho4 hn5, hB4.trans (hn5.mono (below_size hB4)), by have := hn5.size; omega⟩) (by simp only; omega))
    intro g4
    have j0 : j ≠ 0 := by have := of_decide_eq_false g4; omega
    rw [if_neg j0] at g1
    have g6 : m ≤ 65536 := by rcases hm1 with h | h; exact absurd h j0; exact h
    refine Cw.skip ?_
    refine Pw.blkN ?_
    refine Pw.thenN (Cw.out ?_)
    refine Cw.region ?_
    refine Lw.val (Ex.move rfl) rfl ?_
    refine Lw.val (Ex.addI rfl rfl (by omega)) rfl ?_
    refine Lw.val (Ex.assign rfl) rfl ?_
    refine Lw.nil ?_
    exact Pw.thenN (Pw.next ((j + 1, bv')) ⟨rfl, rfl, rfl, (congrArg (fun z => some (Value.int .i64 z)) (by simp only; omega)), rfl, (by rw [if_neg j0, if_neg (show ¬ j + 1 = 0 by omega)]; rfl), trivial⟩ (⟨hok', .inr g6, .inr (by simp only; omega), b_r3, ho3, hB3, by omega⟩) (by simp only; omega))
  intro g
  have g1 : (if j = 0 then 8 else 8 + m) ≤ 60 * j := by have := of_decide_eq_false g; rw [lc] at this; omega
  have j0 : j ≠ 0 := by intro h; rw [if_pos h] at g1; omega
  rw [if_neg j0] at g1 ⊢
  have g6 : m ≤ 65536 := by rcases hm1 with h | h; exact absurd h j0; exact h
  have g7 : 60 * (j - 1) < 8 + m := by omega
  obtain ⟨C, hC⟩ : ∃ C, C = catS l a j := ⟨_, rfl⟩
  rw [← hC] at lc s_b ho
  obtain ⟨T, hT⟩ : ∃ T, T = (C.drop 8).take m := ⟨_, rfl⟩
  have lT : T.length = m := by rw [hT, List.length_take, List.length_drop]; omega
  have s_T : SlT b8 w1 (cut bv 1 8 (8 + m)) T := by
    have := Sl.cut s_b (i := 8) (j := 8 + m) (by omega) (by omega)
    rw [Nat.mul_one, Nat.mul_one, show 8 + m - 8 = m by omega] at this
    unfold SlT
    rw [lT, hT, List.map_take, List.map_drop]
    exact this
  refine Cw.exit ?_
  refine Pw.thenE ?_
  refine Pw.thenE ?_
  refine Pw.blkHit ?_
  refine Pw.thenN (Cw.out ?_)
  refine Cw.seq ?_
  refine Cw.region ?_
  refine Lw.val (Ex.move rfl) rfl ?_
  refine Lw.val (Ex.move rfl) rfl ?_
  refine Lw.val (Ex.cutLH (i := 8) (j := 8 + m) st_53 rfl rfl rfl s_b (by omega) (by omega)) rfl ?_
  refine Lw.callF rfl rfl (get_c _ T w1 s_T) ?_
  rintro _ w2 ⟨hn, x, y, rfl, hno, hyes⟩
  have zn := hn.size
  have hB2 := hB.trans (hn.mono (below_size hB))
  have b_r2 := b_r.bs hn
  have s_b2 := s_b.bs hn
  have o2 : x.oneCell' = true ∧ y.oneCell' = true := by
    cases hk : gtK T with
    | true => exact ⟨(hyes hk).row.slT.one', (own_slT (hyes hk).own).one'⟩
    | false => obtain ⟨rfl, rfl⟩ := hno hk; exact ⟨rfl, rfl⟩
  have z2 := below_size hB2
  refine Lw.val (Ex.move rfl) rfl ?_
  refine Lw.val (Ex.extract (i := 0) rfl rfl) rfl ?_
  refine Lw.val (Ex.extract (i := 1) rfl rfl) rfl ?_
  refine Lw.boxed (cs := [x, y]) it_36 rfl rfl rfl rfl (fun _ => rfl) ((by simp [o2.1, o2.2])) ?_
  rintro A_t w3 eA_t b_t hn3 zhn3
  have hB3 := hB2.trans (hn3.mono z2)
  have b_r3 := b_r2.bs hn3
  have s_b3 := s_b2.bs hn3
  have z3 := hn3.size
  have eF : recF C (8 + m) = (gtK T && nzB (C.drop (8 + m))) := by rw [hT]; unfold recF; rw [show 8 + m - 8 = m by omega]
  have eE : gtE T = if gtK T then 0 else 4 := rfl
  refine Lw.val (Ex.assign rfl) rfl ?_
  refine Lw.nil ?_
  refine Pw.thenN (Cw.out ?_)
  refine Cw.seq ?_
  refine Cw.seq ?_
  refine Cw.region ?_
  refine Lw.val (Ex.move rfl) rfl ?_
  refine Lw.val (Ex.neq rfl rfl) rfl ?_
  refine Lw.val (Ex.move rfl) rfl ?_
  refine Lw.part 54 rfl ?_ ?_
  · intro g8
    have hk : gtK T = false := by
      cases hk : gtK T with
      | false => rfl
      | true => rw [eE, hk] at g8; simp at g8
    have e9 : (gtK T && nzB (C.drop (8 + m))) = false := by rw [hk]; rfl
    have hno4 : recF (catS l a j) (8 + recM l a) = false := by rw [← hC, ← hm, eF, e9]
    refine Lw.pass (dj := 54) rfl rfl rfl rfl ?_
    refine Lw.pass (dj := 54) rfl rfl rfl rfl ?_
    refine Lw.pass (dj := 54) rfl rfl rfl rfl ?_
    refine Lw.pass (dj := 54) rfl rfl rfl rfl ?_
    refine Lw.pass (dj := 54) rfl rfl rfl rfl ?_
    refine Lw.val (Ex.pickT rfl rfl) rfl ?_
    refine Lw.nil ?_
    refine Pw.thenN (Cw.out ?_)
    refine Cw.condT rfl ?_
    refine Cw.seq ?_
    refine Cw.region ?_
    refine Lw.val (Ex.ldA (ag_39 _) (sz_39 _) rfl rfl (by assumption)) rfl ?_
    refine Lw.unit (Xu.stA (cs := [u32 0#32, .slice none 0 0, .slice none 0 0]) rfl rfl rfl rfl rfl b_r3 rfl) ?_
    rintro w6 ⟨b_r6, hg, -⟩
    have hB6 := Below.grown hB3 hg (below_size hB3) (by rintro _ ⟨⟩; omega)
    refine Lw.val (Ex.assign rfl) rfl ?_
    refine Lw.val (Ex.assign rfl) rfl ?_
    refine Lw.nil ?_
    refine Pw.thenN (Cw.out ?_)
    refine Cw.ret ?_
    refine Pw.thenR ?_
    refine Pw.retCTT rfl rfl rfl rfl (by assumption) (Try.underlying39) rfl rfl rfl ?_
    exact ⟨hB6, RecR.none j hok (by omega) (by omega) (by omega) hno4⟩
  intro g8
  have hk : gtK T = true := by
    cases hk : gtK T with
    | true => rfl
    | false => rw [eE, hk] at g8; simp at g8
  refine Lw.take (dj := 54) rfl rfl ?_
  refine Lw.val (Ex.move rfl) rfl ?_
  refine Lw.take (dj := 54) rfl rfl ?_
  refine Lw.val (Ex.move rfl) rfl ?_
  refine Lw.take (dj := 54) rfl rfl ?_
  refine Lw.val (Ex.cutL (i := 8 + m) st_53 rfl rfl s_b3 (by omega)) rfl ?_
  refine Lw.take (dj := 54) rfl rfl ?_
  refine Lw.callF rfl rfl (nought_c _ (C.drop (8 + m)) w3 (SlT.drop s_b3 (by omega))) ?_
  rintro _ w4 ⟨rfl, hn4⟩
  have hB4 := hB3.trans (hn4.mono (below_size hB3))
  have b_r4 := b_r3.bs hn4
  have b_t4 := b_t.bs hn4
  have s_b4 := s_b3.bs hn4
  have z4 := hn4.size
  refine Lw.take (dj := 54) rfl rfl ?_
  refine Lw.val (Ex.not rfl) rfl ?_
  refine Lw.val (Ex.pickF rfl rfl) rfl ?_
  refine Lw.nil ?_
  refine Pw.thenN (Cw.out ?_)
  refine Cw.cond rfl ?_ ?_
  · intro g9
    have e9 : (gtK T && nzB (C.drop (8 + m))) = false := by rw [hk]; simpa using g9
    have hno4 : recF (catS l a j) (8 + recM l a) = false := by rw [← hC, ← hm, eF, e9]
    refine Cw.seq ?_
    refine Cw.region ?_
    refine Lw.val (Ex.ldA (ag_39 _) (sz_39 _) rfl rfl (by assumption)) rfl ?_
    refine Lw.unit (Xu.stA (cs := [u32 0#32, .slice none 0 0, .slice none 0 0]) rfl rfl rfl rfl rfl b_r4 rfl) ?_
    rintro w6 ⟨b_r6, hg, -⟩
    have hB6 := Below.grown hB4 hg (below_size hB4) (by rintro _ ⟨⟩; omega)
    refine Lw.val (Ex.assign rfl) rfl ?_
    refine Lw.val (Ex.assign rfl) rfl ?_
    refine Lw.nil ?_
    refine Pw.thenN (Cw.out ?_)
    refine Cw.ret ?_
    refine Pw.thenR ?_
    refine Pw.retCTT rfl rfl rfl rfl (by assumption) (Try.underlying39) rfl rfl rfl ?_
    exact ⟨hB6, RecR.none j hok (by omega) (by omega) (by omega) hno4⟩
  intro g9
  have e9 : (gtK T && nzB (C.drop (8 + m))) = true := by rw [hk]; simpa using g9
  have hM := ((hyes hk).bs hn3).bs hn4
  refine Cw.skip ?_
  refine Pw.thenN (Cw.out ?_)
  refine Cw.seq ?_
  refine Cw.any mixed (fun w5 hd _ => ?_)
  have b_t5 := b_t4.bs hd
  have b_r5 := b_r4.bs hd
  have s_b5 := s_b4.bs hd
  have hB5 := hB4.trans (hd.mono (below_size hB4))
  have hM5 := hM.bs hd
  have eR : recF (catS l a j) (8 + recM l a) = true := by rw [← hC, ← hm, eF]; exact e9
  have zd := hd.size
  clear b_t4 b_t hd
  refine Aw.take (i := 0) (NoP.thn NoP.ret) rfl (by kernel_rfl) (by kernel_rfl) (by kernel_rfl) (fun _ => Ex.move rfl) rfl ?_
  refine Aw.take (i := 4) (NoP.thn NoP.ret) rfl (by kernel_rfl) (by kernel_rfl) (by kernel_rfl) (fun _ => Ex.move rfl) rfl ?_
  refine Aw.two (i := 1) (j := 2) (by kernel_rfl) rfl rfl ?_ ?_
  · refine Lw.callF rfl rfl (ofour_c bv C w5 s_b5 (by omega)) ?_
    rintro _ w6 ⟨rfl, hn6⟩
    have b_t6 := b_t5.bs hn6
    have b_r6 := b_r5.bs hn6
    have hB6 := hB5.trans (hn6.mono (below_size hB5))
    have hM6 := hM5.bs hn6
    have z6 := hn6.size
    refine Aw.back ?_
    refine Aw.only (i := 2) (by kernel_rfl) rfl ?_
    refine Lw.val (Ex.ldA (ag_36 _) (sz_36 _) rfl rfl (by assumption)) rfl ?_
    refine Aw.back ?_
    refine Aw.only (i := 3) (by kernel_rfl) rfl ?_
    refine Lw.val (Ex.build (vs := [(0, u32 (gf C)), (1, .agg [x, y].toArray)]) (cs := [u32 (gf C), x, y]) rfl (bt_rec _ _ _)) rfl ?_
    refine Aw.back ?_
    refine Aw.only (i := 5) (by kernel_rfl) rfl ?_
    refine Lw.unit (Xu.stA (cs := [u32 (gf C), x, y]) rfl rfl rfl rfl (by rw [List.all_cons, List.all_cons, List.all_cons, o2.1, o2.2]; rfl) b_r6 rfl) ?_
    rintro w7 ⟨b_r7, hg, -⟩
    have hB7 := Below.grown hB6 hg (below_size hB6) (by rintro _ ⟨⟩; omega)
    have hM7 : Made1 W w7 x y (gtS T) (gtL T) := made_low (W1 := w1) ⟨hM6.row.heap (fun k e => hg.block k (hM6.row.lt k e).2 (by intro e2; have := (hM6.row.lt k e).1; cases e2; omega)), own_heap hM6.own (fun k e => hg.block k (own_block hM6.own k e).2 (by intro e2; have := (own_block hM6.own k e).1; cases e2; omega)), hM6.apart⟩ (below_size hB)
    refine Aw.back ?_
    refine Aw.take (i := 6) (NoP.thn NoP.ret) rfl (by kernel_rfl) (by kernel_rfl) (by kernel_rfl) (fun _ => Ex.assign rfl) rfl ?_
    refine Aw.take (i := 7) (NoP.thn NoP.ret) rfl (by kernel_rfl) (by kernel_rfl) (by kernel_rfl) (fun _ => Ex.assign rfl) rfl ?_
    refine Aw.done (by kernel_rfl) ?_
    refine Pw.thenN (Cw.out ?_)
    refine Cw.ret ?_
    refine Pw.retCTT rfl rfl rfl rfl (by assumption) (Try.underlying39) rfl rfl rfl ?_
    refine ⟨hB7, ?_⟩
    rw [hC]
    exact RecR.one j x y hok (by omega) (by omega) (by omega) eR (by rw [← hC, ← hm, ← hT]; exact hM7)
  · refine Lw.val (Ex.ldA (ag_36 _) (sz_36 _) rfl rfl (by assumption)) rfl ?_
    refine Aw.back ?_
    refine Aw.only (i := 1) (by kernel_rfl) rfl ?_
    refine Lw.callF rfl rfl (ofour_c bv C w5 s_b5 (by omega)) ?_
    rintro _ w6 ⟨rfl, hn6⟩
    have b_t6 := b_t5.bs hn6
    have b_r6 := b_r5.bs hn6
    have hB6 := hB5.trans (hn6.mono (below_size hB5))
    have hM6 := hM5.bs hn6
    have z6 := hn6.size
    refine Aw.back ?_
    refine Aw.only (i := 3) (by kernel_rfl) rfl ?_
    refine Lw.val (Ex.build (vs := [(0, u32 (gf C)), (1, .agg [x, y].toArray)]) (cs := [u32 (gf C), x, y]) rfl (bt_rec _ _ _)) rfl ?_
    refine Aw.back ?_
    refine Aw.only (i := 5) (by kernel_rfl) rfl ?_
    refine Lw.unit (Xu.stA (cs := [u32 (gf C), x, y]) rfl rfl rfl rfl (by rw [List.all_cons, List.all_cons, List.all_cons, o2.1, o2.2]; rfl) b_r6 rfl) ?_
    rintro w7 ⟨b_r7, hg, -⟩
    have hB7 := Below.grown hB6 hg (below_size hB6) (by rintro _ ⟨⟩; omega)
    have hM7 : Made1 W w7 x y (gtS T) (gtL T) := made_low (W1 := w1) ⟨hM6.row.heap (fun k e => hg.block k (hM6.row.lt k e).2 (by intro e2; have := (hM6.row.lt k e).1; cases e2; omega)), own_heap hM6.own (fun k e => hg.block k (own_block hM6.own k e).2 (by intro e2; have := (own_block hM6.own k e).1; cases e2; omega)), hM6.apart⟩ (below_size hB)
    refine Aw.back ?_
    refine Aw.take (i := 6) (NoP.thn NoP.ret) rfl (by kernel_rfl) (by kernel_rfl) (by kernel_rfl) (fun _ => Ex.assign rfl) rfl ?_
    refine Aw.take (i := 7) (NoP.thn NoP.ret) rfl (by kernel_rfl) (by kernel_rfl) (by kernel_rfl) (fun _ => Ex.assign rfl) rfl ?_
    refine Aw.done (by kernel_rfl) ?_
    refine Pw.thenN (Cw.out ?_)
    refine Cw.ret ?_
    refine Pw.retCTT rfl rfl rfl rfl (by assumption) (Try.underlying39) rfl rfl rfl ?_
    refine ⟨hB7, ?_⟩
    rw [hC]
    exact RecR.one j x y hok (by omega) (by omega) (by omega) eR (by rw [← hC, ← hm, ← hT]; exact hM7)
end Go.Proofs.Ytiaojbbgjlpikaa
