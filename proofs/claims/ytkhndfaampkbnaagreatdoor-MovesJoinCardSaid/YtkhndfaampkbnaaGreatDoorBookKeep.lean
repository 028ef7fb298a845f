/- Contracts: what a book keeps: lists of tensors, of nodes. Printed by a program of ours. -/
import Derived.Test.YtkhndfaampkbnaaGreatDoorBookMany
import Derived.Test.YtkhndfaampkbnaaGreatDoorSeg
namespace Go.Proofs.YtkhndfaampkbnaaGreatDoor
open Go Go.Dd Go.RowKit
set_option maxRecDepth 100000

theorem head_oneM {v : Value} (h : v.oneCell' = true) (n : Int) : [v, .slice none 0 0, .int .i64 n].all (fun x => x.oneCell') = true := by
  rw [List.all_cons, h]; rfl


theorem bt_heldMInt (v : Value) (n : Int) (hv : v.cells = [v].toArray) : Tryz.prog.built 102 [(0, v), (2, .int .i64 n)] = some [v, .slice none 0 0, .int .i64 n].toArray := by
  have h1 : Tryz.prog.info? 102 = some Tryz.t102 := by kernel_rfl
  have h2 : Tryz.prog.info? 26 = some Tryz.t26 := by kernel_rfl
  have h3 : Tryz.prog.info? 3 = some Tryz.t3 := by kernel_rfl
  simp [Program.built, h1, Tryz.underlying102, h2, h3, Instr.fill, hv]
  rfl
theorem keepInt_m (A : Nat) (book : List Value) (n : Int) (u : Value) (hs : List Hd) (lo : Nat) (w : World) (v : Value) (k : Nat) (xs : List Value) (hA : Blk w A bookT book) (h0 : book[0]? = some (.int .i64 n)) (hu : book[2]? = some u) (ho : w.ownsRow lo 102 3 u hs.length (hcells hs))
    (hlo : lo ≤ w.heap.size) (hAu : u.ownBlock ≠ some A) (hn : 0 ≤ n ∧ n ≤ 4000000) (hh : hs.length ≤ 4000000) (hv : Sl w 1 v k xs) :
    Fnc Tryz.prog 110 [.pointer (some ⟨A, 0, none⟩), v] w (fun r w' => r = .tuple #[] ∧ ∃ u', Blk w' A bookT ((book.set 0 (.int .i64 (n + 1))).set 2 u') ∧ w'.ownsRow lo 102 3 u' (hs.length + 1) (hcells (hs ++ [(⟨v, k, xs, n + 1, .slice none 0 0⟩ : Hd)])) ∧ Chg (fun b => b = A ∨ u.ownBlock = some b) w w' ∧ ∀ b, u'.ownBlock = some b → u.ownBlock = some b ∨ w.heap.size ≤ b) := by
  have hl0 : 0 < book.length := (List.getElem?_eq_some_iff.1 h0).1
  have hlC : 2 < book.length := (List.getElem?_eq_some_iff.1 hu).1
  refine Fnc.enter (n := 26) Tryz.func110 (by kernel_rfl) rfl rfl rfl ?_
  refine Cw.seq ?_
  refine Cw.region ?_
  refine Lw.val (Ex.move rfl) rfl ?_
  refine Lw.val (Ex.nilCheck rfl) rfl ?_
  refine Lw.val (Ex.fieldAddr (q := 0) Tryz.underlying51 rfl (sz_3 _) rfl) rfl ?_
  refine Lw.val (Ex.ldB (ag_3 _) rfl hA h0) rfl ?_
  refine Lw.val (Ex.addI rfl rfl (by omega)) rfl ?_
  refine Lw.val (Ex.nilCheck rfl) rfl ?_
  refine Lw.val (Ex.fieldAddr (q := 0) Tryz.underlying51 rfl (sz_3 _) rfl) rfl ?_
  refine Lw.unit (Xu.stB (u := .int .i64 (n + 1)) (sz_3 _) rfl rfl rfl hA hl0) ?_
  rintro w1 ⟨b1, hg1, hz1⟩
  have o1 := own_heap ho (fun b e => hg1.block b (own_block ho b e).2 (fun e2 => hAu (by rw [e, e2])))
  have c1 : Chg (fun b => b = A ∨ u.ownBlock = some b) w w1 := (Chg.refl _ _).grown hg1 (fun b e => .inl (.inl (Option.some.inj e).symm))
  have q0 : (book.set 0 (.int .i64 (n + 1)))[0]? = some (.int .i64 (n + 1)) := by simp [hl0]
  have qC : (book.set 0 (.int .i64 (n + 1)))[2]? = some u := by rw [List.getElem?_set_ne (by decide)]; exact hu
  have hzA := blk_lt hA
  refine Lw.nil ?_
  refine Pw.thenN (Cw.out ?_)
  refine Cw.any mixed (fun w2 hd _ => ?_)
  have o2 := own_bs o1 hd
  have b2 := b1.bs hd
  refine Aw.seg (St := Value) (g := 1) [0, 1, 2, 3, 4, 5, 6, 7, 8, 9, 10, 11, 12, 13, 14] 15 (fun s => [(23, s), (25, .pointer (some ⟨A, 2, none⟩))]) (fun s w' => Chg (fun b => b = A ∨ u.ownBlock = some b) w w' ∧ w'.ownsRow lo 102 3 s (hs.length + 1) (hcells (hs ++ [(⟨v, k, xs, n + 1, .slice none 0 0⟩ : Hd)])) ∧ Blk w' A bookT (book.set 0 (.int .i64 (n + 1))) ∧ ∀ b, s.ownBlock = some b → u.ownBlock = some b ∨ w.heap.size ≤ b) (by kernel_rfl) rfl ?_ ?_
  · refine Aw.cls (fun w' => Blk w' A bookT (book.set 0 (.int .i64 (n + 1)))) (fun hC => ?_) (b2)
    refine AwC.take (i := 0) (NoP.thn NoP.ret) rfl (by kernel_rfl) (by kernel_rfl) (by kernel_rfl) (fun w1 hc => Ex.move rfl) rfl ?_
    refine AwC.take (i := 1) (NoP.thn NoP.ret) rfl (by kernel_rfl) (by kernel_rfl) (by kernel_rfl) (fun w1 hc => Ex.move rfl) rfl ?_
    refine AwC.take (i := 2) (NoP.thn NoP.ret) rfl (by kernel_rfl) (by kernel_rfl) (by kernel_rfl) (fun w1 hc => Ex.nilCheck rfl) rfl ?_
    refine AwC.take (i := 3) (NoP.thn NoP.ret) rfl (by kernel_rfl) (by kernel_rfl) (by kernel_rfl) (fun w1 hc => Ex.fieldAddr (q := 0) Tryz.underlying51 rfl (sz_36 _) rfl) rfl ?_
    refine AwC.take (i := 4) (NoP.thn NoP.ret) rfl (by kernel_rfl) (by kernel_rfl) (by kernel_rfl) (fun w1 hc => Ex.ldB (ag_36 _) rfl hc qC) rfl ?_
    refine AwC.take (i := 5) (NoP.thn NoP.ret) rfl (by kernel_rfl) (by kernel_rfl) (by kernel_rfl) (fun w1 hc => Ex.move rfl) rfl ?_
    refine AwC.take (i := 6) (NoP.thn NoP.ret) rfl (by kernel_rfl) (by kernel_rfl) (by kernel_rfl) (fun w1 hc => Ex.move rfl) rfl ?_
    refine AwC.take (i := 7) (NoP.thn NoP.ret) rfl (by kernel_rfl) (by kernel_rfl) (by kernel_rfl) (fun w1 hc => Ex.nilCheck rfl) rfl ?_
    refine AwC.take (i := 8) (NoP.thn NoP.ret) rfl (by kernel_rfl) (by kernel_rfl) (by kernel_rfl) (fun w1 hc => Ex.fieldAddr (q := 0) Tryz.underlying51 rfl (sz_3 _) rfl) rfl ?_
    refine AwC.take (i := 9) (NoP.thn NoP.ret) rfl (by kernel_rfl) (by kernel_rfl) (by kernel_rfl) (fun w1 hc => Ex.ldB (ag_3 _) rfl hc q0) rfl ?_
    refine AwC.take (i := 10) (NoP.thn NoP.ret) rfl (by kernel_rfl) (by kernel_rfl) (by kernel_rfl) (fun w1 hc => Ex.build (vs := [(0, v), (2, .int .i64 (n + 1))]) (cs := [v, .slice none 0 0, .int .i64 (n + 1)]) rfl (bt_heldMInt _ _ hv.one)) rfl ?_
    refine AwC.only (by assumption) (i := 11) (by kernel_rfl) rfl ?_
    refine Lw.valW (Xw.litA (vs := [(0, .agg #[v, .slice none 0 0, .int .i64 (n + 1)])]) (cs := [v, .slice none 0 0, .int .i64 (n + 1)]) st_36 it_102 rfl (by decide) (by decide) (by decide) (by kernel_rfl) rfl) rfl ?_
    rintro nv w3 ⟨o3, -, hn3, -⟩
    have o2 := own_bs o2 hn3
    have b2 := b2.bs hn3
    have z3 := (bt hd hn3).size
    have hlo3 : lo ≤ w3.heap.size := by omega
    refine AwC.back ?_
    refine AwC.only (by assumption) (i := 12) (by kernel_rfl) rfl ?_
    refine Lw.valW (Xw.append3 (base := lo) st_36 it_102 rfl (by decide) rfl rfl o2 (own_sl o3) (head_oneM hv.one' _) (by omega) (by omega) hlo3) rfl ?_
    rintro u' w4 ⟨o4, hg4, hcase⟩
    have c4 : Chg (fun b => b = A ∨ u.ownBlock = some b) w w4 := (c1.below (bt hd hn3)).grown hg4 (fun b e => .inl (.inr e))
    have b4 := b2.by hg4 (fun e => hAu e.symm)
    have hub : ∀ b, u'.ownBlock = some b → u.ownBlock = some b ∨ w.heap.size ≤ b := fun b e => by
      rcases hcase with h | ⟨h, _⟩
      · rw [h] at e; exact .inl e
      · exact .inr (by have := h b e; omega)
    refine AwC.back ?_
    refine AwC.take (i := 13) (NoP.thn NoP.ret) rfl (by kernel_rfl) (by kernel_rfl) (by kernel_rfl) (fun w1 hc => Ex.nilCheck rfl) rfl ?_
    refine AwC.take (i := 14) (NoP.thn NoP.ret) rfl (by kernel_rfl) (by kernel_rfl) (by kernel_rfl) (fun w1 hc => Ex.fieldAddr (q := 0) Tryz.underlying51 rfl (sz_36 _) rfl) rfl ?_
    refine AwC.done (by assumption) (by kernel_rfl) ?_
    exact Pw.thenN (Pw.seg (u') ⟨rfl, rfl, trivial⟩ (⟨c4, by rw [hcells_app]; exact o4, b4, hub⟩))
  rintro u' w5 ⟨c5, o5, b5, hub⟩
  have z5 := c5.size
  refine Aw.only (i := 15) (by kernel_rfl) rfl ?_
  refine Lw.unit (Xu.stB (u := u') (sz_36 _) rfl rfl (own_sl o5).one' b5 (by rw [List.length_set]; exact hlC)) ?_
  rintro w6 ⟨b6, hg6, -⟩
  have o6 := own_heap o5 (fun b e => hg6.block b (own_block o5 b e).2 (fun e2 => by
    cases e2
    rcases hub _ e with h | h
    · exact hAu h
    · omega))
  refine Aw.back ?_
  refine Aw.done (by kernel_rfl) ?_
  refine Pw.end0 rfl ?_
  exact ⟨rfl, u', b6, o6, c5.grown hg6 (fun b e => .inl (.inl (Option.some.inj e).symm)), hub⟩

theorem bt_heldMNumber (v : Value) (n : Int) (hv : v.cells = [v].toArray) : Tryz.prog.built 104 [(0, v), (2, .int .i64 n)] = some [v, .slice none 0 0, .int .i64 n].toArray := by
  have h1 : Tryz.prog.info? 104 = some Tryz.t104 := by kernel_rfl
  have h2 : Tryz.prog.info? 27 = some Tryz.t27 := by kernel_rfl
  have h3 : Tryz.prog.info? 3 = some Tryz.t3 := by kernel_rfl
  simp [Program.built, h1, Tryz.underlying104, h2, h3, Instr.fill, hv]
  rfl
theorem keepNumber_m (A : Nat) (book : List Value) (n : Int) (u : Value) (hs : List Hd) (lo : Nat) (w : World) (v : Value) (k : Nat) (xs : List Value) (hA : Blk w A bookT book) (h0 : book[0]? = some (.int .i64 n)) (hu : book[3]? = some u) (ho : w.ownsRow lo 104 3 u hs.length (hcells hs))
    (hlo : lo ≤ w.heap.size) (hAu : u.ownBlock ≠ some A) (hn : 0 ≤ n ∧ n ≤ 4000000) (hh : hs.length ≤ 4000000) (hv : Sl w 1 v k xs) :
    Fnc Tryz.prog 115 [.pointer (some ⟨A, 0, none⟩), v] w (fun r w' => r = .tuple #[] ∧ ∃ u', Blk w' A bookT ((book.set 0 (.int .i64 (n + 1))).set 3 u') ∧ w'.ownsRow lo 104 3 u' (hs.length + 1) (hcells (hs ++ [(⟨v, k, xs, n + 1, .slice none 0 0⟩ : Hd)])) ∧ Chg (fun b => b = A ∨ u.ownBlock = some b) w w' ∧ ∀ b, u'.ownBlock = some b → u.ownBlock = some b ∨ w.heap.size ≤ b) := by
  have hl0 : 0 < book.length := (List.getElem?_eq_some_iff.1 h0).1
  have hlC : 3 < book.length := (List.getElem?_eq_some_iff.1 hu).1
  refine Fnc.enter (n := 26) Tryz.func115 (by kernel_rfl) rfl rfl rfl ?_
  refine Cw.seq ?_
  refine Cw.region ?_
  refine Lw.val (Ex.move rfl) rfl ?_
  refine Lw.val (Ex.nilCheck rfl) rfl ?_
  refine Lw.val (Ex.fieldAddr (q := 0) Tryz.underlying51 rfl (sz_3 _) rfl) rfl ?_
  refine Lw.val (Ex.ldB (ag_3 _) rfl hA h0) rfl ?_
  refine Lw.val (Ex.addI rfl rfl (by omega)) rfl ?_
  refine Lw.val (Ex.nilCheck rfl) rfl ?_
  refine Lw.val (Ex.fieldAddr (q := 0) Tryz.underlying51 rfl (sz_3 _) rfl) rfl ?_
  refine Lw.unit (Xu.stB (u := .int .i64 (n + 1)) (sz_3 _) rfl rfl rfl hA hl0) ?_
  rintro w1 ⟨b1, hg1, hz1⟩
  have o1 := own_heap ho (fun b e => hg1.block b (own_block ho b e).2 (fun e2 => hAu (by rw [e, e2])))
  have c1 : Chg (fun b => b = A ∨ u.ownBlock = some b) w w1 := (Chg.refl _ _).grown hg1 (fun b e => .inl (.inl (Option.some.inj e).symm))
  have q0 : (book.set 0 (.int .i64 (n + 1)))[0]? = some (.int .i64 (n + 1)) := by simp [hl0]
  have qC : (book.set 0 (.int .i64 (n + 1)))[3]? = some u := by rw [List.getElem?_set_ne (by decide)]; exact hu
  have hzA := blk_lt hA
  refine Lw.nil ?_
  refine Pw.thenN (Cw.out ?_)
  refine Cw.any mixed (fun w2 hd _ => ?_)
  have o2 := own_bs o1 hd
  have b2 := b1.bs hd
  refine Aw.seg (St := Value) (g := 1) [0, 1, 2, 3, 4, 5, 6, 7, 8, 9, 10, 11, 12, 13, 14] 15 (fun s => [(23, s), (25, .pointer (some ⟨A, 3, none⟩))]) (fun s w' => Chg (fun b => b = A ∨ u.ownBlock = some b) w w' ∧ w'.ownsRow lo 104 3 s (hs.length + 1) (hcells (hs ++ [(⟨v, k, xs, n + 1, .slice none 0 0⟩ : Hd)])) ∧ Blk w' A bookT (book.set 0 (.int .i64 (n + 1))) ∧ ∀ b, s.ownBlock = some b → u.ownBlock = some b ∨ w.heap.size ≤ b) (by kernel_rfl) rfl ?_ ?_
  · refine Aw.cls (fun w' => Blk w' A bookT (book.set 0 (.int .i64 (n + 1)))) (fun hC => ?_) (b2)
    refine AwC.take (i := 0) (NoP.thn NoP.ret) rfl (by kernel_rfl) (by kernel_rfl) (by kernel_rfl) (fun w1 hc => Ex.move rfl) rfl ?_
    refine AwC.take (i := 1) (NoP.thn NoP.ret) rfl (by kernel_rfl) (by kernel_rfl) (by kernel_rfl) (fun w1 hc => Ex.move rfl) rfl ?_
    refine AwC.take (i := 2) (NoP.thn NoP.ret) rfl (by kernel_rfl) (by kernel_rfl) (by kernel_rfl) (fun w1 hc => Ex.nilCheck rfl) rfl ?_
    refine AwC.take (i := 3) (NoP.thn NoP.ret) rfl (by kernel_rfl) (by kernel_rfl) (by kernel_rfl) (fun w1 hc => Ex.fieldAddr (q := 0) Tryz.underlying51 rfl (sz_37 _) rfl) rfl ?_
    refine AwC.take (i := 4) (NoP.thn NoP.ret) rfl (by kernel_rfl) (by kernel_rfl) (by kernel_rfl) (fun w1 hc => Ex.ldB (ag_37 _) rfl hc qC) rfl ?_
    refine AwC.take (i := 5) (NoP.thn NoP.ret) rfl (by kernel_rfl) (by kernel_rfl) (by kernel_rfl) (fun w1 hc => Ex.move rfl) rfl ?_
    refine AwC.take (i := 6) (NoP.thn NoP.ret) rfl (by kernel_rfl) (by kernel_rfl) (by kernel_rfl) (fun w1 hc => Ex.move rfl) rfl ?_
    refine AwC.take (i := 7) (NoP.thn NoP.ret) rfl (by kernel_rfl) (by kernel_rfl) (by kernel_rfl) (fun w1 hc => Ex.nilCheck rfl) rfl ?_
    refine AwC.take (i := 8) (NoP.thn NoP.ret) rfl (by kernel_rfl) (by kernel_rfl) (by kernel_rfl) (fun w1 hc => Ex.fieldAddr (q := 0) Tryz.underlying51 rfl (sz_3 _) rfl) rfl ?_
    refine AwC.take (i := 9) (NoP.thn NoP.ret) rfl (by kernel_rfl) (by kernel_rfl) (by kernel_rfl) (fun w1 hc => Ex.ldB (ag_3 _) rfl hc q0) rfl ?_
    refine AwC.take (i := 10) (NoP.thn NoP.ret) rfl (by kernel_rfl) (by kernel_rfl) (by kernel_rfl) (fun w1 hc => Ex.build (vs := [(0, v), (2, .int .i64 (n + 1))]) (cs := [v, .slice none 0 0, .int .i64 (n + 1)]) rfl (bt_heldMNumber _ _ hv.one)) rfl ?_
    refine AwC.only (by assumption) (i := 11) (by kernel_rfl) rfl ?_
    refine Lw.valW (Xw.litA (vs := [(0, .agg #[v, .slice none 0 0, .int .i64 (n + 1)])]) (cs := [v, .slice none 0 0, .int .i64 (n + 1)]) st_37 it_104 rfl (by decide) (by decide) (by decide) (by kernel_rfl) rfl) rfl ?_
    rintro nv w3 ⟨o3, -, hn3, -⟩
    have o2 := own_bs o2 hn3
    have b2 := b2.bs hn3
    have z3 := (bt hd hn3).size
    have hlo3 : lo ≤ w3.heap.size := by omega
    refine AwC.back ?_
    refine AwC.only (by assumption) (i := 12) (by kernel_rfl) rfl ?_
    refine Lw.valW (Xw.append3 (base := lo) st_37 it_104 rfl (by decide) rfl rfl o2 (own_sl o3) (head_oneM hv.one' _) (by omega) (by omega) hlo3) rfl ?_
    rintro u' w4 ⟨o4, hg4, hcase⟩
    have c4 : Chg (fun b => b = A ∨ u.ownBlock = some b) w w4 := (c1.below (bt hd hn3)).grown hg4 (fun b e => .inl (.inr e))
    have b4 := b2.by hg4 (fun e => hAu e.symm)
    have hub : ∀ b, u'.ownBlock = some b → u.ownBlock = some b ∨ w.heap.size ≤ b := fun b e => by
      rcases hcase with h | ⟨h, _⟩
      · rw [h] at e; exact .inl e
      · exact .inr (by have := h b e; omega)
    refine AwC.back ?_
    refine AwC.take (i := 13) (NoP.thn NoP.ret) rfl (by kernel_rfl) (by kernel_rfl) (by kernel_rfl) (fun w1 hc => Ex.nilCheck rfl) rfl ?_
    refine AwC.take (i := 14) (NoP.thn NoP.ret) rfl (by kernel_rfl) (by kernel_rfl) (by kernel_rfl) (fun w1 hc => Ex.fieldAddr (q := 0) Tryz.underlying51 rfl (sz_37 _) rfl) rfl ?_
    refine AwC.done (by assumption) (by kernel_rfl) ?_
    exact Pw.thenN (Pw.seg (u') ⟨rfl, rfl, trivial⟩ (⟨c4, by rw [hcells_app]; exact o4, b4, hub⟩))
  rintro u' w5 ⟨c5, o5, b5, hub⟩
  have z5 := c5.size
  refine Aw.only (i := 15) (by kernel_rfl) rfl ?_
  refine Lw.unit (Xu.stB (u := u') (sz_37 _) rfl rfl (own_sl o5).one' b5 (by rw [List.length_set]; exact hlC)) ?_
  rintro w6 ⟨b6, hg6, -⟩
  have o6 := own_heap o5 (fun b e => hg6.block b (own_block o5 b e).2 (fun e2 => by
    cases e2
    rcases hub _ e with h | h
    · exact hAu h
    · omega))
  refine Aw.back ?_
  refine Aw.done (by kernel_rfl) ?_
  refine Pw.end0 rfl ?_
  exact ⟨rfl, u', b6, o6, c5.grown hg6 (fun b e => .inl (.inl (Option.some.inj e).symm)), hub⟩

theorem bt_heldMTensor (v : Value) (n : Int) (hv : v.cells = [v].toArray) : Tryz.prog.built 96 [(0, v), (2, .int .i64 n)] = some [v, .slice none 0 0, .int .i64 n].toArray := by
  have h1 : Tryz.prog.info? 96 = some Tryz.t96 := by kernel_rfl
  have h2 : Tryz.prog.info? 22 = some Tryz.t22 := by kernel_rfl
  have h3 : Tryz.prog.info? 3 = some Tryz.t3 := by kernel_rfl
  simp [Program.built, h1, Tryz.underlying96, h2, h3, Instr.fill, hv]
  rfl
theorem keepTensor_m (A : Nat) (book : List Value) (n : Int) (u : Value) (hs : List Hd) (lo : Nat) (w : World) (v : Value) (k : Nat) (xs : List Value) (hA : Blk w A bookT book) (h0 : book[0]? = some (.int .i64 n)) (hu : book[6]? = some u) (ho : w.ownsRow lo 96 3 u hs.length (hcells hs))
    (hlo : lo ≤ w.heap.size) (hAu : u.ownBlock ≠ some A) (hn : 0 ≤ n ∧ n ≤ 4000000) (hh : hs.length ≤ 4000000) (hv : Sl w 2 v k xs) :
    Fnc Tryz.prog 43 [.pointer (some ⟨A, 0, none⟩), v] w (fun r w' => r = .tuple #[] ∧ ∃ u', Blk w' A bookT ((book.set 0 (.int .i64 (n + 1))).set 6 u') ∧ w'.ownsRow lo 96 3 u' (hs.length + 1) (hcells (hs ++ [(⟨v, k, xs, n + 1, .slice none 0 0⟩ : Hd)])) ∧ Chg (fun b => b = A ∨ u.ownBlock = some b) w w' ∧ ∀ b, u'.ownBlock = some b → u.ownBlock = some b ∨ w.heap.size ≤ b) := by
  have hl0 : 0 < book.length := (List.getElem?_eq_some_iff.1 h0).1
  have hlC : 6 < book.length := (List.getElem?_eq_some_iff.1 hu).1
  refine Fnc.enter (n := 26) Tryz.func43 (by kernel_rfl) rfl rfl rfl ?_
  refine Cw.seq ?_
  refine Cw.region ?_
  refine Lw.val (Ex.move rfl) rfl ?_
  refine Lw.val (Ex.nilCheck rfl) rfl ?_
  refine Lw.val (Ex.fieldAddr (q := 0) Tryz.underlying51 rfl (sz_3 _) rfl) rfl ?_
  refine Lw.val (Ex.ldB (ag_3 _) rfl hA h0) rfl ?_
  refine Lw.val (Ex.addI rfl rfl (by omega)) rfl ?_
  refine Lw.val (Ex.nilCheck rfl) rfl ?_
  refine Lw.val (Ex.fieldAddr (q := 0) Tryz.underlying51 rfl (sz_3 _) rfl) rfl ?_
  refine Lw.unit (Xu.stB (u := .int .i64 (n + 1)) (sz_3 _) rfl rfl rfl hA hl0) ?_
  rintro w1 ⟨b1, hg1, hz1⟩
  have o1 := own_heap ho (fun b e => hg1.block b (own_block ho b e).2 (fun e2 => hAu (by rw [e, e2])))
  have c1 : Chg (fun b => b = A ∨ u.ownBlock = some b) w w1 := (Chg.refl _ _).grown hg1 (fun b e => .inl (.inl (Option.some.inj e).symm))
  have q0 : (book.set 0 (.int .i64 (n + 1)))[0]? = some (.int .i64 (n + 1)) := by simp [hl0]
  have qC : (book.set 0 (.int .i64 (n + 1)))[6]? = some u := by rw [List.getElem?_set_ne (by decide)]; exact hu
  have hzA := blk_lt hA
  refine Lw.nil ?_
  refine Pw.thenN (Cw.out ?_)
  refine Cw.any mixed (fun w2 hd _ => ?_)
  have o2 := own_bs o1 hd
  have b2 := b1.bs hd
  refine Aw.seg (St := Value) (g := 1) [0, 1, 2, 3, 4, 5, 6, 7, 8, 9, 10, 11, 12, 13, 14] 15 (fun s => [(23, s), (25, .pointer (some ⟨A, 6, none⟩))]) (fun s w' => Chg (fun b => b = A ∨ u.ownBlock = some b) w w' ∧ w'.ownsRow lo 96 3 s (hs.length + 1) (hcells (hs ++ [(⟨v, k, xs, n + 1, .slice none 0 0⟩ : Hd)])) ∧ Blk w' A bookT (book.set 0 (.int .i64 (n + 1))) ∧ ∀ b, s.ownBlock = some b → u.ownBlock = some b ∨ w.heap.size ≤ b) (by kernel_rfl) rfl ?_ ?_
  · refine Aw.cls (fun w' => Blk w' A bookT (book.set 0 (.int .i64 (n + 1)))) (fun hC => ?_) (b2)
    refine AwC.take (i := 0) (NoP.thn NoP.ret) rfl (by kernel_rfl) (by kernel_rfl) (by kernel_rfl) (fun w1 hc => Ex.move rfl) rfl ?_
    refine AwC.take (i := 1) (NoP.thn NoP.ret) rfl (by kernel_rfl) (by kernel_rfl) (by kernel_rfl) (fun w1 hc => Ex.move rfl) rfl ?_
    refine AwC.take (i := 2) (NoP.thn NoP.ret) rfl (by kernel_rfl) (by kernel_rfl) (by kernel_rfl) (fun w1 hc => Ex.nilCheck rfl) rfl ?_
    refine AwC.take (i := 3) (NoP.thn NoP.ret) rfl (by kernel_rfl) (by kernel_rfl) (by kernel_rfl) (fun w1 hc => Ex.fieldAddr (q := 0) Tryz.underlying51 rfl (sz_40 _) rfl) rfl ?_
    refine AwC.take (i := 4) (NoP.thn NoP.ret) rfl (by kernel_rfl) (by kernel_rfl) (by kernel_rfl) (fun w1 hc => Ex.ldB (ag_40 _) rfl hc qC) rfl ?_
    refine AwC.take (i := 5) (NoP.thn NoP.ret) rfl (by kernel_rfl) (by kernel_rfl) (by kernel_rfl) (fun w1 hc => Ex.move rfl) rfl ?_
    refine AwC.take (i := 6) (NoP.thn NoP.ret) rfl (by kernel_rfl) (by kernel_rfl) (by kernel_rfl) (fun w1 hc => Ex.move rfl) rfl ?_
    refine AwC.take (i := 7) (NoP.thn NoP.ret) rfl (by kernel_rfl) (by kernel_rfl) (by kernel_rfl) (fun w1 hc => Ex.nilCheck rfl) rfl ?_
    refine AwC.take (i := 8) (NoP.thn NoP.ret) rfl (by kernel_rfl) (by kernel_rfl) (by kernel_rfl) (fun w1 hc => Ex.fieldAddr (q := 0) Tryz.underlying51 rfl (sz_3 _) rfl) rfl ?_
    refine AwC.take (i := 9) (NoP.thn NoP.ret) rfl (by kernel_rfl) (by kernel_rfl) (by kernel_rfl) (fun w1 hc => Ex.ldB (ag_3 _) rfl hc q0) rfl ?_
    refine AwC.take (i := 10) (NoP.thn NoP.ret) rfl (by kernel_rfl) (by kernel_rfl) (by kernel_rfl) (fun w1 hc => Ex.build (vs := [(0, v), (2, .int .i64 (n + 1))]) (cs := [v, .slice none 0 0, .int .i64 (n + 1)]) rfl (bt_heldMTensor _ _ hv.one)) rfl ?_
    refine AwC.only (by assumption) (i := 11) (by kernel_rfl) rfl ?_
    refine Lw.valW (Xw.litA (vs := [(0, .agg #[v, .slice none 0 0, .int .i64 (n + 1)])]) (cs := [v, .slice none 0 0, .int .i64 (n + 1)]) st_40 it_96 rfl (by decide) (by decide) (by decide) (by kernel_rfl) rfl) rfl ?_
    rintro nv w3 ⟨o3, -, hn3, -⟩
    have o2 := own_bs o2 hn3
    have b2 := b2.bs hn3
    have z3 := (bt hd hn3).size
    have hlo3 : lo ≤ w3.heap.size := by omega
    refine AwC.back ?_
    refine AwC.only (by assumption) (i := 12) (by kernel_rfl) rfl ?_
    refine Lw.valW (Xw.append3 (base := lo) st_40 it_96 rfl (by decide) rfl rfl o2 (own_sl o3) (head_oneM hv.one' _) (by omega) (by omega) hlo3) rfl ?_
    rintro u' w4 ⟨o4, hg4, hcase⟩
    have c4 : Chg (fun b => b = A ∨ u.ownBlock = some b) w w4 := (c1.below (bt hd hn3)).grown hg4 (fun b e => .inl (.inr e))
    have b4 := b2.by hg4 (fun e => hAu e.symm)
    have hub : ∀ b, u'.ownBlock = some b → u.ownBlock = some b ∨ w.heap.size ≤ b := fun b e => by
      rcases hcase with h | ⟨h, _⟩
      · rw [h] at e; exact .inl e
      · exact .inr (by have := h b e; omega)
    refine AwC.back ?_
    refine AwC.take (i := 13) (NoP.thn NoP.ret) rfl (by kernel_rfl) (by kernel_rfl) (by kernel_rfl) (fun w1 hc => Ex.nilCheck rfl) rfl ?_
    refine AwC.take (i := 14) (NoP.thn NoP.ret) rfl (by kernel_rfl) (by kernel_rfl) (by kernel_rfl) (fun w1 hc => Ex.fieldAddr (q := 0) Tryz.underlying51 rfl (sz_40 _) rfl) rfl ?_
    refine AwC.done (by assumption) (by kernel_rfl) ?_
    exact Pw.thenN (Pw.seg (u') ⟨rfl, rfl, trivial⟩ (⟨c4, by rw [hcells_app]; exact o4, b4, hub⟩))
  rintro u' w5 ⟨c5, o5, b5, hub⟩
  have z5 := c5.size
  refine Aw.only (i := 15) (by kernel_rfl) rfl ?_
  refine Lw.unit (Xu.stB (u := u') (sz_40 _) rfl rfl (own_sl o5).one' b5 (by rw [List.length_set]; exact hlC)) ?_
  rintro w6 ⟨b6, hg6, -⟩
  have o6 := own_heap o5 (fun b e => hg6.block b (own_block o5 b e).2 (fun e2 => by
    cases e2
    rcases hub _ e with h | h
    · exact hAu h
    · omega))
  refine Aw.back ?_
  refine Aw.done (by kernel_rfl) ?_
  refine Pw.end0 rfl ?_
  exact ⟨rfl, u', b6, o6, c5.grown hg6 (fun b e => .inl (.inl (Option.some.inj e).symm)), hub⟩


end Go.Proofs.YtkhndfaampkbnaaGreatDoor
