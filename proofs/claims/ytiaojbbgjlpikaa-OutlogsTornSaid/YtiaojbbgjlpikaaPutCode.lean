/- Contracts: a tensor's bytes, and the document's answer. -/
import Derived.Test.YtiaojbbgjlpikaaNumsCode
import Derived.Test.YtiaojbbgjlpikaaTensorsLaw
namespace Go.Proofs.Ytiaojbbgjlpikaa
open Go Go.Dd Go.RowKit
set_option maxRecDepth 100000

/-- A shape's bytes, ahead of its numbers'. -/
def headB (s : List Int) : List (BitVec 8) := BitVec.ofInt 8 (s.length : Int) :: s.map (BitVec.ofInt 8)
def putB (s : List Int) (l : List (BitVec 32)) : List (BitVec 8) := headB s ++ fours l
def putE (s : List Int) (l : List (BitVec 32)) : Int := if tok s l then 0 else 1
def putR (s : List Int) (l : List (BitVec 32)) : List (BitVec 8) := if tok s l then putB s l else []
theorem headB_take {s : List Int} {i : Nat} (h : i < s.length) : headB (s.take (i + 1)) = BitVec.ofInt 8 ((s.take (i + 1)).length : Int) :: (s.take i).map (BitVec.ofInt 8) ++ [BitVec.ofInt 8 (s.getD i default)] := by
  unfold headB
  rw [List.take_succ_eq_append_getElem h, List.map_append]
  simp [h]
/-- The head, number by number. -/
def headN (s : List Int) (i : Nat) : List (BitVec 8) := BitVec.ofInt 8 (s.length : Int) :: (s.take i).map (BitVec.ofInt 8)
theorem headN_step {s : List Int} {i : Nat} (h : i < s.length) : headN s (i + 1) = headN s i ++ [BitVec.ofInt 8 (s.getD i default)] := by
  unfold headN
  rw [List.take_succ_eq_append_getElem h, List.map_append]
  simp [h]
theorem headN_all (s : List Int) : headN s s.length = headB s := by unfold headN headB; rw [List.take_length]
theorem headN_len {s : List Int} {i : Nat} (h : i ≤ s.length) : (headN s i).length = i + 1 := by simp [headN]; omega

theorem clipU8_c (u : Value) (a : List (BitVec 8)) (w : World) (hu : SlT b8 w u a) : Fnc Try.prog 42 [u] w (fun r w' => r = clip u ∧ Below w.heap.size w w') := by
  refine Fnc.enter (n := 9) Try.func42 (by kernel_rfl) rfl rfl rfl ?_
  refine Cw.seq ?_
  refine Cw.region ?_
  refine Lw.val (Ex.assign rfl) rfl ?_
  refine Lw.nil ?_
  refine Pw.thenN (Cw.out ?_)
  refine Cw.seq ?_
  refine Cw.region ?_
  refine Lw.val (Ex.move rfl) rfl ?_
  refine Lw.val (Ex.move rfl) rfl ?_
  refine Lw.val (Ex.lenS st_53 rfl (by assumption)) rfl ?_
  refine Lw.val (Ex.move rfl) rfl ?_
  refine Lw.val (Ex.lenS st_53 rfl (by assumption)) rfl ?_
  refine Lw.val (Ex.clip st_53 rfl rfl rfl hu.shp) rfl ?_
  refine Lw.val (Ex.assign rfl) rfl ?_
  refine Lw.nil ?_
  refine Pw.thenN (Cw.out ?_)
  refine Cw.ret ?_
  refine Pw.ret1 rfl rfl ?_
  exact ⟨rfl, Below.refl _ _⟩

theorem byte0 (n : BitVec 32) : (n % 256#32).setWidth 8 = n.setWidth 8 := by
  apply BitVec.eq_of_toNat_eq
  simp only [BitVec.toNat_setWidth, BitVec.toNat_umod, BitVec.toNat_ofNat, Nat.reducePow, Nat.reduceMod]
  omega
theorem byte1 (n : BitVec 32) : (n / 256#32 % 256#32).setWidth 8 = (n >>> 8).setWidth 8 := by
  apply BitVec.eq_of_toNat_eq
  simp only [BitVec.toNat_setWidth, BitVec.toNat_umod, BitVec.toNat_udiv, BitVec.toNat_ofNat, Nat.reducePow, Nat.reduceMod, BitVec.toNat_ushiftRight, Nat.shiftRight_eq_div_pow]
  omega
theorem byte2 (n : BitVec 32) : (n / 65536#32 % 256#32).setWidth 8 = (n >>> 16).setWidth 8 := by
  apply BitVec.eq_of_toNat_eq
  simp only [BitVec.toNat_setWidth, BitVec.toNat_umod, BitVec.toNat_udiv, BitVec.toNat_ofNat, Nat.reducePow, Nat.reduceMod, BitVec.toNat_ushiftRight, Nat.shiftRight_eq_div_pow]
  omega
theorem byte3 (n : BitVec 32) : (n / 16777216#32).setWidth 8 = (n >>> 24).setWidth 8 := by
  apply BitVec.eq_of_toNat_eq
  simp only [BitVec.toNat_setWidth, BitVec.toNat_udiv, BitVec.toNat_ofNat, BitVec.toNat_ushiftRight, Nat.shiftRight_eq_div_pow]
theorem tput_c (a : T4) (W : World) (h_a : a.at W) : Fnc Try.prog 31 [a.v] W (fun r w' => Below W.heap.size W w' ∧ ∃ x, r = .tuple #[x, .int .i64 (putE a.s a.l)] ∧ KRow w' W.heap.size 5 1 x (putR a.s a.l).length ((putR a.s a.l).map b8)) := by
  have hB := Below.refl W.heap.size W
  refine Fnc.enter (n := 36) Try.func31 (by kernel_rfl) rfl rfl rfl ?_
  refine Cw.seq ?_
  refine Cw.region ?_
  refine Lw.boxV (cs := [a.x, a.y]) rfl rfl rfl ?_
  rintro A_a w eA_a b_a hn -
  replace hB := hB.bs hn
  replace h_a := h_a.bs hn
  clear hn
  refine Lw.val (Ex.assign rfl) rfl ?_
  refine Lw.val (Ex.assign rfl) rfl ?_
  refine Lw.nil ?_
  refine Pw.thenN (Cw.out ?_)
  refine Cw.seq ?_
  refine Cw.seq ?_
  refine Cw.region ?_
  refine Lw.val (Ex.ldA (ag_36 _) (sz_36 _) rfl rfl (by assumption)) rfl ?_
  refine Lw.callF rfl rfl (tcheck_c a.x a.y a.s a.l _ h_a.1 h_a.2) ?_
  rintro _ w ⟨rfl, hn⟩
  replace hB := hB.bs hn
  replace h_a := h_a.bs hn
  replace b_a := b_a.bs hn
  clear hn
  refine Lw.val (Ex.not rfl) rfl ?_
  refine Lw.nil ?_
  refine Pw.thenN (Cw.out ?_)
  refine Cw.cond rfl ?_ ?_
  · intro g
    have ht : tok a.s a.l = false := by simpa using g
    refine Cw.seq ?_
    refine Cw.region ?_
    refine Lw.val (Ex.assign rfl) rfl ?_
    refine Lw.val (Ex.assign rfl) rfl ?_
    refine Lw.nil ?_
    refine Pw.thenN (Cw.out ?_)
    refine Cw.ret ?_
    refine Pw.thenR ?_
    refine Pw.ret2 rfl rfl rfl ?_
    exact ⟨hB, .slice none 0 0, by simp [putE, ht], by simp only [putR, ht]; exact .inl (World.ownsRow_nil _ _ _ _)⟩
  intro g
  have ht : tok a.s a.l = true := by simpa using g
  have hok := (tok_ok ht).1
  have hl := (tok_ok ht).2
  have hs := ((Shapes.ok_iff a.s).1 hok).1
  have hsz := Shapes.size_le a.s
  have h1 := h_a.1
  refine Cw.skip ?_
  refine Pw.thenN (Cw.out ?_)
  refine Cw.seq ?_
  refine Cw.region ?_
  refine Lw.val (Ex.fieldAddr (q := 0) Try.underlying36 rfl (sz_33 _) rfl) rfl ?_
  refine Lw.val (Ex.ldB (ag_33 _) rfl (by assumption) rfl) rfl ?_
  refine Lw.val (Ex.lenS st_33 rfl (by assumption)) rfl ?_
  refine Lw.val (Ex.conv8 us_3 un_5 rfl) rfl ?_
  refine Lw.valW (Xw.lit (vs := (headN a.s 0).map b8) st_53 it_5 rfl rfl rfl rfl rfl) rfl ?_
  rintro y w1 ⟨ho, -, hn, -⟩
  have h1 := h_a.1.bs hn
  have b1 := b_a.bs hn
  refine Lw.val (Ex.assign rfl) rfl ?_
  refine Lw.nil ?_
  refine Pw.thenN (Cw.out ?_)
  refine Cw.seq ?_
  refine Cw.seq ?_
  refine Cw.region ?_
  refine Lw.val (Ex.fieldAddr (q := 0) Try.underlying36 rfl (sz_33 _) rfl) rfl ?_
  refine Lw.val (Ex.ldB (ag_33 _) rfl (by assumption) rfl) rfl ?_
  refine Lw.val (Ex.lenS st_33 rfl (by assumption)) rfl ?_
  refine Lw.val (Ex.move rfl) rfl ?_
  refine Lw.nil ?_
  refine Pw.thenN (Cw.out ?_)
  refine Cw.block ?_
  refine Cw.loop (S := (Nat × Value)) (fun z => [(1, .pointer (some ⟨A_a, 0, none⟩)), (4, z.2), (16, a.x), (17, .int .i64 (a.s.length : Int)), (18, .int .i64 (z.1 : Int))]) (fun z w' => z.1 ≤ a.s.length ∧ w'.ownsRow w.heap.size 5 1 z.2 (headN a.s z.1).length ((headN a.s z.1).map b8) ∧ Below w.heap.size w w') (fun z => a.s.length - z.1) ((0, y)) ⟨rfl, rfl, rfl, rfl, rfl, trivial⟩ ?_ ?_
  · exact ⟨Nat.zero_le _, ho, hn⟩
  clear ho hn h1 b1
  rintro ⟨i, y⟩ w1 ⟨hi, ho, hn⟩
  dsimp only at hi ho ⊢
  have h1 := h_a.1.bs hn
  refine Cw.seq ?_
  refine Cw.region ?_
  refine Lw.val (Ex.lss rfl rfl) rfl ?_
  refine Lw.nil ?_
  refine Pw.thenN (Cw.out ?_)
  refine Cw.seq ?_
  refine Cw.cond rfl ?_ ?_
  · intro h
    have hi' : i < a.s.length := by simp at h; omega
    have e2 : (headN a.s i).length + 1 = (headN a.s (i + 1)).length := by rw [headN_len hi, headN_len hi']
    have e3 : (headN a.s (i + 1)).length = i + 1 + 1 := headN_len hi'
    refine Cw.skip ?_
    refine Pw.thenN (Cw.out ?_)
    refine Cw.seq ?_
    refine Cw.block ?_
    refine Cw.seq ?_
    refine Cw.region ?_
    refine Lw.val (Ex.idxT st_33 rfl rfl (by assumption) _ rfl (by omega)) rfl ?_
    refine Lw.val (Ex.ldT (ag_3 _) rfl (by assumption) (by omega)) rfl ?_
    refine Lw.val (Ex.assign rfl) rfl ?_
    refine Lw.nil ?_
    refine Pw.thenN (Cw.out ?_)
    refine Cw.region ?_
    refine Lw.val (Ex.move rfl) rfl ?_
    refine Lw.val (Ex.move rfl) rfl ?_
    refine Lw.val (Ex.conv8 us_3 un_5 rfl) rfl ?_
    refine Lw.valW (Xw.lit (vs := [BitVec.ofInt 8 (a.s.getD i default)].map b8) st_53 it_5 rfl rfl rfl rfl rfl) rfl ?_
    rintro u w2 ⟨hu, -, hn1, -⟩
    have ho := own_bs ho hn1
    have hn2 := bt hn hn1
    refine Lw.valW (Xw.append (base := w.heap.size) st_53 it_5 rfl (by decide) rfl rfl ho (own_sl hu) (one_map (fun _ => rfl) _) (by omega) (by omega) hn2.size) rfl ?_
    rintro y' w3 ⟨ho3, hb3, -⟩
    rw [← List.map_append, ← headN_step hi', e2] at ho3
    refine Lw.val (Ex.assign rfl) rfl ?_
    refine Lw.nil ?_
    refine Pw.blkN ?_
    refine Pw.thenN (Cw.out ?_)
    refine Cw.region ?_
    refine Lw.val (Ex.addI rfl rfl (by omega)) rfl ?_
    refine Lw.val (Ex.move rfl) rfl ?_
    refine Lw.nil ?_
    exact Pw.thenN (Pw.next ((i + 1, y')) ⟨rfl, rfl, rfl, rfl, rfl, trivial⟩ (⟨hi', ho3, hn2.trans hb3⟩) (by simp only; omega))
  intro h
  have hi' : i = a.s.length := by simp at h; omega
  subst hi'
  rw [headN_all] at ho
  have z0 := below_size hB
  replace hB := hB.bs hn
  replace h_a := h_a.bs hn
  replace b_a := b_a.bs hn
  have s_h := own_slT ho
  clear ho hn h1
  refine Cw.exit ?_
  refine Pw.thenE ?_
  refine Pw.thenE ?_
  refine Pw.blkHit ?_
  refine Pw.thenN (Cw.out ?_)
  refine Cw.seq ?_
  refine Cw.region ?_
  refine Lw.val (Ex.move rfl) rfl ?_
  refine Lw.val (Ex.fieldAddr (q := 0) Try.underlying36 rfl (sz_34 _) rfl) rfl ?_
  refine Lw.val (Ex.ldB (ag_34 _) rfl (by assumption) rfl) rfl ?_
  refine Lw.callF rfl rfl (putList_c (.slice none 0 0) a.y [] a.l w1 (Sl.nil w1 1) h_a.2 (by simp; omega)) ?_
  rintro u w ⟨hu, hn⟩
  have s_u := own_slT hu
  rw [List.nil_append, fours_cons] at s_u
  replace hB := hB.bs hn
  replace h_a := h_a.bs hn
  replace b_a := b_a.bs hn
  replace s_h := s_h.bs hn
  clear hn hu
  have hu4 : 4 ≤ (Crc.four (BitVec.ofInt 32 (a.l.length : Int)) ++ fours a.l).length := by simp [Crc.four]
  have s_c := SlT.drop s_u hu4
  have e4 : (Crc.four (BitVec.ofInt 32 (a.l.length : Int)) ++ fours a.l).drop 4 = fours a.l := rfl
  rw [e4] at s_c
  obtain ⟨c0, hc0⟩ : ∃ c0, c0 = cut u 1 4 (Crc.four (BitVec.ofInt 32 (a.l.length : Int)) ++ fours a.l).length := ⟨_, rfl⟩
  rw [← hc0] at s_c
  refine Lw.val (Ex.as (Ex.cutL st_53 rfl rfl s_u hu4) hc0.symm) rfl ?_
  refine Lw.valW (Xw.lit (vs := [y, c0]) st_131 it_53 rfl rfl rfl (by simp [s_h.one', s_c.one']) rfl) rfl ?_
  rintro v w ⟨hv, -, hn, -⟩
  replace hB := hB.bs hn
  replace h_a := h_a.bs hn
  replace b_a := b_a.bs hn
  replace s_h := s_h.bs hn
  replace s_u := s_u.bs hn
  replace s_c := s_c.bs hn
  clear hn
  have lf := fours_len a.l
  have e5 : (([(y, headB a.s), (c0, fours a.l)] : List (Value × List (BitVec 8))).map (·.2)).flatten = putB a.s a.l := by simp [putB]
  have e6 : (putB a.s a.l).length ≤ 16777216 := by simp [putB, headB]; omega
  refine Lw.callF rfl rfl (concatU8_c v [(y, headB a.s), (c0, fours a.l)] w (own_sl hv) (by intro p hp; simp at hp; rcases hp with rfl | rfl; exact s_h; exact s_c) (by rw [e5]; exact e6)) ?_
  rintro c w ⟨hc, hn⟩
  rw [e5] at hc
  have zB := below_size hB
  replace hB := hB.bs hn
  replace h_a := h_a.bs hn
  replace b_a := b_a.bs hn
  replace s_h := s_h.bs hn
  replace s_u := s_u.bs hn
  replace s_c := s_c.bs hn
  clear hn
  refine Lw.callF rfl rfl (clipU8_c c (putB a.s a.l) w (own_slT hc)) ?_
  rintro _ w ⟨rfl, hn⟩
  have hk := ((KRow.clip hc).bs hn).mono zB
  replace hB := hB.bs hn
  replace h_a := h_a.bs hn
  replace b_a := b_a.bs hn
  replace s_h := s_h.bs hn
  replace s_u := s_u.bs hn
  replace s_c := s_c.bs hn
  refine Lw.val (Ex.assign rfl) rfl ?_
  refine Lw.val (Ex.assign rfl) rfl ?_
  refine Lw.nil ?_
  refine Pw.thenN (Cw.out ?_)
  refine Cw.ret ?_
  refine Pw.ret2 rfl rfl rfl ?_
  have eR : putR a.s a.l = putB a.s a.l := by simp [putR, ht]
  exact ⟨hB, Dd.clip c, by simp [putE, ht], by rw [eR]; exact hk⟩
end Go.Proofs.Ytiaojbbgjlpikaa
