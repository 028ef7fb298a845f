/- Contracts: a tensor's bytes, as the document has them. -/
import Derived.Test.YtjfghiepdnonjaaGreatDoorPutCode
import Derived.Test.YtjfghiepdnonjaaGreatDoorRefCode
namespace Go.Proofs.YtjfghiepdnonjaaGreatDoor
open Go Go.Dd Go.RowKit
set_option maxRecDepth 100000
theorem rtput_c (a : T4) (W : World) (h_a : a.at W) : Fnc Tryz.prog 22 [a.v] W (fun r w' => Below W.heap.size W w' ∧ ∃ x, r = .tuple #[x, .int .i64 (putE a.s a.l)] ∧ KRow w' W.heap.size 5 1 x (putR a.s a.l).length ((putR a.s a.l).map b8)) := by
  have hB := Below.refl W.heap.size W
  refine Fnc.enter (n := 63) Tryz.func22 (by kernel_rfl) rfl rfl rfl ?_
  refine Cw.seq ?_
  refine Cw.region ?_
  refine Lw.boxV (cs := [a.x, a.y]) rfl rfl rfl ?_
  rintro A_a w eA_a b_a hn -
  replace hB := hB.bs hn
  replace h_a := h_a.bs hn
  clear hn
  refine Lw.val (Ex.assign rfl) rfl ?_
  refine Lw.val (Ex.assign rfl) rfl ?_
  refine Lw.nil ?_
  refine Pw.thenN (Cw.out ?_)
  refine Cw.seq ?_
  refine Cw.seq ?_
  refine Cw.region ?_
  refine Lw.val (Ex.ldA (ag_25 _) (sz_25 _) rfl rfl (by assumption)) rfl ?_
  refine Lw.callF rfl rfl (rtcheck_c a.x a.y a.s a.l _ h_a.1 h_a.2) ?_
  rintro _ w ⟨rfl, hn⟩
  replace hB := hB.bs hn
  replace h_a := h_a.bs hn
  replace b_a := b_a.bs hn
  clear hn
  refine Lw.val (Ex.not rfl) rfl ?_
  refine Lw.nil ?_
  refine Pw.thenN (Cw.out ?_)
  refine Cw.cond rfl ?_ ?_
  · intro g
    have ht : tok a.s a.l = false := by simpa using g
    refine Cw.seq ?_
    refine Cw.region ?_
    refine Lw.val (Ex.assign rfl) rfl ?_
    refine Lw.val (Ex.assign rfl) rfl ?_
    refine Lw.nil ?_
    refine Pw.thenN (Cw.out ?_)
    refine Cw.ret ?_
    refine Pw.thenR ?_
    refine Pw.ret2 rfl rfl rfl ?_
    exact ⟨hB, .slice none 0 0, by simp [putE, ht], by simp only [putR, ht]; exact .inl (World.ownsRow_nil _ _ _ _)⟩
  intro g
  have ht : tok a.s a.l = true := by simpa using g
  have hok := (tok_ok ht).1
  have hl := (tok_ok ht).2
  have hs := ((Shapes.ok_iff a.s).1 hok).1
  have hsz := Shapes.size_le a.s
  have h1 := h_a.1
  refine Cw.skip ?_
  refine Pw.thenN (Cw.out ?_)
  refine Cw.seq ?_
  refine Cw.region ?_
  refine Lw.val (Ex.fieldAddr (q := 0) Tryz.underlying25 rfl (sz_22 _) rfl) rfl ?_
  refine Lw.val (Ex.ldB (ag_22 _) rfl (by assumption) rfl) rfl ?_
  refine Lw.val (Ex.lenS st_22 rfl (by assumption)) rfl ?_
  refine Lw.val (Ex.conv8 us_3 un_5 rfl) rfl ?_
  refine Lw.valW (Xw.lit (vs := (headN a.s 0).map b8) st_56 it_5 rfl rfl rfl rfl rfl) rfl ?_
  rintro y w1 ⟨ho, -, hn, -⟩
  have h1 := h_a.1.bs hn
  have b1 := b_a.bs hn
  refine Lw.val (Ex.assign rfl) rfl ?_
  refine Lw.nil ?_
  refine Pw.thenN (Cw.out ?_)
  refine Cw.seq ?_
  refine Cw.seq ?_
  refine Cw.region ?_
  refine Lw.val (Ex.assign rfl) rfl ?_
  refine Lw.nil ?_
  refine Pw.thenN (Cw.out ?_)
  refine Cw.block ?_
  refine Cw.loop (S := (Nat × Value)) (fun z => [(1, .pointer (some ⟨A_a, 0, none⟩)), (4, z.2), (5, .int .i64 (z.1 : Int))]) (fun z w' => z.1 ≤ a.s.length ∧ w'.ownsRow w.heap.size 5 1 z.2 (headN a.s z.1).length ((headN a.s z.1).map b8) ∧ Below w.heap.size w w') (fun z => a.s.length - z.1) ((0, y)) ⟨rfl, rfl, rfl, trivial⟩ ?_ ?_
  · exact ⟨Nat.zero_le _, ho, hn⟩
  clear ho hn h1 b1
  rintro ⟨i, y⟩ w1 ⟨hi, ho, hn⟩
  dsimp only at hi ho ⊢
  have h1 := h_a.1.bs hn
  have b1 := b_a.bs hn
  refine Cw.seq ?_
  refine Cw.seq ?_
  refine Cw.region ?_
  refine Lw.val (Ex.move rfl) rfl ?_
  refine Lw.val (Ex.fieldAddr (q := 0) Tryz.underlying25 rfl (sz_22 _) rfl) rfl ?_
  refine Lw.val (Ex.ldB (ag_22 _) rfl (by assumption) rfl) rfl ?_
  refine Lw.val (Ex.lenS st_22 rfl (by assumption)) rfl ?_
  refine Lw.val (Ex.lss rfl rfl) rfl ?_
  refine Lw.nil ?_
  refine Pw.thenN (Cw.out ?_)
  refine Cw.cond rfl ?_ ?_
  · intro h
    have hi' : i < a.s.length := by simp at h; omega
    have e2 : (headN a.s i).length + 1 = (headN a.s (i + 1)).length := by rw [headN_len hi, headN_len hi']
    have e3 : (headN a.s (i + 1)).length = i + 1 + 1 := headN_len hi'
    refine Cw.skip ?_
    refine Pw.thenN (Cw.out ?_)
    refine Cw.seq ?_
    refine Cw.block ?_
    refine Cw.region ?_
    refine Lw.val (Ex.move rfl) rfl ?_
    refine Lw.val (Ex.fieldAddr (q := 0) Tryz.underlying25 rfl (sz_22 _) rfl) rfl ?_
    refine Lw.val (Ex.ldB (ag_22 _) rfl (by assumption) rfl) rfl ?_
    refine Lw.val (Ex.move rfl) rfl ?_
    refine Lw.val (Ex.idxT st_22 rfl rfl (by assumption) _ rfl (by omega)) rfl ?_
    refine Lw.val (Ex.ldT (ag_3 _) rfl (by assumption) (by omega)) rfl ?_
    refine Lw.val (Ex.conv8 us_3 un_5 rfl) rfl ?_
    refine Lw.valW (Xw.lit (vs := [BitVec.ofInt 8 (a.s.getD i default)].map b8) st_56 it_5 rfl rfl rfl rfl rfl) rfl ?_
    rintro u w2 ⟨hu, -, hn1, -⟩
    have ho := own_bs ho hn1
    have hn2 := bt hn hn1
    refine Lw.valW (Xw.append (base := w.heap.size) st_56 it_5 rfl (by decide) rfl rfl ho (own_sl hu) (one_map (fun _ => rfl) _) (by omega) (by omega) hn2.size) rfl ?_
    rintro y' w3 ⟨ho3, hb3, -⟩
    rw [← List.map_append, ← headN_step hi', e2] at ho3
    refine Lw.val (Ex.assign rfl) rfl ?_
    refine Lw.nil ?_
    refine Pw.blkN ?_
    refine Pw.thenN (Cw.out ?_)
    refine Cw.region ?_
    refine Lw.val (Ex.move rfl) rfl ?_
    refine Lw.val (Ex.addI rfl rfl (by omega)) rfl ?_
    refine Lw.val (Ex.assign rfl) rfl ?_
    refine Lw.nil ?_
    exact Pw.thenN (Pw.next ((i + 1, y')) ⟨rfl, rfl, rfl, trivial⟩ (⟨hi', ho3, hn2.trans hb3⟩) (by simp only; omega))
  intro h
  have hi' : i = a.s.length := by simp at h; omega
  subst hi'
  rw [headN_all] at ho
  have h2 := h_a.2.bs hn
  have lh : (headB a.s).length = a.s.length + 1 := by simp [headB]
  refine Cw.exit ?_
  refine Pw.thenE ?_
  refine Pw.thenE ?_
  refine Pw.blkHit ?_
  refine Pw.thenN (Cw.out ?_)
  refine Cw.seq ?_
  refine Cw.seq ?_
  refine Cw.region ?_
  refine Lw.val (Ex.assign rfl) rfl ?_
  refine Lw.nil ?_
  refine Pw.thenN (Cw.out ?_)
  refine Cw.block ?_
  refine Cw.loop (S := (Nat × Value)) (fun z => [(1, .pointer (some ⟨A_a, 0, none⟩)), (4, z.2), (6, .int .i64 (z.1 : Int))]) (fun z w' => z.1 ≤ a.l.length ∧ w'.ownsRow w.heap.size 5 1 z.2 (headB a.s ++ fours (a.l.take z.1)).length ((headB a.s ++ fours (a.l.take z.1)).map b8) ∧ Below w.heap.size w w') (fun z => a.l.length - z.1) ((0, y)) ⟨rfl, rfl, rfl, trivial⟩ ?_ ?_
  · exact ⟨Nat.zero_le _, by simpa [fours] using ho, hn⟩
  clear ho hn h1 b1 h2
  rintro ⟨i, y⟩ w1 ⟨hi, ho, hn⟩
  dsimp only at hi ho ⊢
  have h2 := h_a.2.bs hn
  have b1 := b_a.bs hn
  refine Cw.seq ?_
  refine Cw.seq ?_
  refine Cw.region ?_
  refine Lw.val (Ex.move rfl) rfl ?_
  refine Lw.val (Ex.fieldAddr (q := 0) Tryz.underlying25 rfl (sz_23 _) rfl) rfl ?_
  refine Lw.val (Ex.ldB (ag_23 _) rfl (by assumption) rfl) rfl ?_
  refine Lw.val (Ex.lenS st_23 rfl (by assumption)) rfl ?_
  refine Lw.val (Ex.lss rfl rfl) rfl ?_
  refine Lw.nil ?_
  refine Pw.thenN (Cw.out ?_)
  refine Cw.cond rfl ?_ ?_
  · intro h
    have hi' : i < a.l.length := by simp at h; omega
    have e1 : (headB a.s ++ fours (a.l.take i)) ++ Crc.four (a.l.getD i default) = headB a.s ++ fours (a.l.take (i + 1)) := by
      rw [List.take_succ_eq_append_getElem hi', fours_append, List.append_assoc]
      simp [fours, hi']
    have e2 : (headB a.s ++ fours (a.l.take i)).length + 4 = (headB a.s ++ fours (a.l.take (i + 1))).length := by
      have := congrArg List.length e1
      simp [Crc.four] at this ⊢
      omega
    have e3 : (headB a.s ++ fours (a.l.take (i + 1))).length ≤ 16777216 := by rw [List.length_append, fours_len, List.length_take]; omega
    have q0 : (256#32 : BitVec 32) ≠ 0 := by decide
    have q1 : (65536#32 : BitVec 32) ≠ 0 := by decide
    have q2 : (16777216#32 : BitVec 32) ≠ 0 := by decide
    refine Cw.skip ?_
    refine Pw.thenN (Cw.out ?_)
    refine Cw.seq ?_
    refine Cw.block ?_
    refine Cw.seq ?_
    refine Cw.region ?_
    refine Lw.val (Ex.fieldAddr (q := 0) Tryz.underlying25 rfl (sz_23 _) rfl) rfl ?_
    refine Lw.val (Ex.ldB (ag_23 _) rfl (by assumption) rfl) rfl ?_
    refine Lw.val (Ex.move rfl) rfl ?_
    refine Lw.val (Ex.idxT st_23 rfl rfl (by assumption) _ rfl (by omega)) rfl ?_
    refine Lw.val (Ex.ldT (ag_21 _) rfl (by assumption) (by omega)) rfl ?_
    refine Lw.val (Ex.convi32_32 us_21 un_78 rfl) rfl ?_
    refine Lw.val (Ex.assign rfl) rfl ?_
    refine Lw.nil ?_
    refine Pw.thenN (Cw.out ?_)
    refine Cw.region ?_
    refine Lw.val (Ex.move rfl) rfl ?_
    refine Lw.val (Ex.move rfl) rfl ?_
    refine Lw.val (Ex.rem32 rfl (show _ = some (u32 256#32) from rfl) q0) rfl ?_
    refine Lw.val (Ex.as (Ex.conv32_8 us_78 un_5 rfl) (congrArg b8 (byte0 _))) rfl ?_
    refine Lw.val (Ex.move rfl) rfl ?_
    refine Lw.val (Ex.quo32 rfl (show _ = some (u32 256#32) from rfl) q0) rfl ?_
    refine Lw.val (Ex.rem32 rfl (show _ = some (u32 256#32) from rfl) q0) rfl ?_
    refine Lw.val (Ex.as (Ex.conv32_8 us_78 un_5 rfl) (congrArg b8 (byte1 _))) rfl ?_
    refine Lw.val (Ex.move rfl) rfl ?_
    refine Lw.val (Ex.quo32 rfl (show _ = some (u32 65536#32) from rfl) q1) rfl ?_
    refine Lw.val (Ex.rem32 rfl (show _ = some (u32 256#32) from rfl) q0) rfl ?_
    refine Lw.val (Ex.as (Ex.conv32_8 us_78 un_5 rfl) (congrArg b8 (byte2 _))) rfl ?_
    refine Lw.val (Ex.move rfl) rfl ?_
    refine Lw.val (Ex.quo32 rfl (show _ = some (u32 16777216#32) from rfl) q2) rfl ?_
    refine Lw.val (Ex.as (Ex.conv32_8 us_78 un_5 rfl) (congrArg b8 (byte3 _))) rfl ?_
    refine Lw.valW (Xw.lit (vs := (Crc.four (a.l.getD i default)).map b8) st_56 it_5 rfl rfl rfl rfl rfl) rfl ?_
    rintro u w2 ⟨hu, -, hn1, -⟩
    have ho := own_bs ho hn1
    have hn2 := bt hn hn1
    refine Lw.valW (Xw.append (base := w.heap.size) st_56 it_5 rfl (by decide) rfl rfl ho (own_sl hu) (one_map (fun _ => rfl) _) (by omega) (by omega) hn2.size) rfl ?_
    rintro y' w3 ⟨ho3, hb3, -⟩
    rw [← List.map_append, e1, e2] at ho3
    refine Lw.val (Ex.assign rfl) rfl ?_
    refine Lw.nil ?_
    refine Pw.blkN ?_
    refine Pw.thenN (Cw.out ?_)
    refine Cw.region ?_
    refine Lw.val (Ex.move rfl) rfl ?_
    refine Lw.val (Ex.addI rfl rfl (by omega)) rfl ?_
    refine Lw.val (Ex.assign rfl) rfl ?_
    refine Lw.nil ?_
    exact Pw.thenN (Pw.next ((i + 1, y')) ⟨rfl, rfl, rfl, trivial⟩ (⟨hi', ho3, hn2.trans hb3⟩) (by simp only; omega))
  intro h
  have hi' : i = a.l.length := by simp at h; omega
  subst hi'
  rw [List.take_length] at ho
  have zB := below_size hB
  replace hB := hB.bs hn
  replace h_a := h_a.bs hn
  replace b_a := b_a.bs hn
  refine Cw.exit ?_
  refine Pw.thenE ?_
  refine Pw.thenE ?_
  refine Pw.blkHit ?_
  refine Pw.thenN (Cw.out ?_)
  refine Cw.seq ?_
  refine Cw.region ?_
  refine Lw.val (Ex.move rfl) rfl ?_
  refine Lw.val (Ex.assign rfl) rfl ?_
  refine Lw.val (Ex.assign rfl) rfl ?_
  refine Lw.nil ?_
  refine Pw.thenN (Cw.out ?_)
  refine Cw.ret ?_
  refine Pw.ret2 rfl rfl rfl ?_
  have eR : putR a.s a.l = putB a.s a.l := by simp [putR, ht]
  exact ⟨hB, y, by simp [putE, ht], by rw [eR]; exact .inl (own_mono ho zB)⟩
end Go.Proofs.YtjfghiepdnonjaaGreatDoor
