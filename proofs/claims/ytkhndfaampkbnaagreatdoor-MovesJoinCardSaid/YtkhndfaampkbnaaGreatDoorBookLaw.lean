/- Contracts: what a book keeps, and whether all that it keeps is apart. Printed by a program of ours. -/
import Derived.Test.YtkhndfaampkbnaaGreatDoorBookCode
import Derived.Test.YtkhndfaampkbnaaGreatDoorSeg
namespace Go.Proofs.YtkhndfaampkbnaaGreatDoor
open Go Go.Dd Go.RowKit
set_option maxRecDepth 100000

theorem head_one {v : Value} (h : v.oneCell' = true) (n : Int) : [v, .slice none 0 0, .int .i64 n].all (fun x => x.oneCell') = true :=
  List.all_eq_true.2 fun x hx => by
    rcases List.mem_cons.1 hx with rfl | hx
    · exact h
    rcases List.mem_cons.1 hx with rfl | hx
    · rfl
    rcases List.mem_cons.1 hx with rfl | hx
    · rfl
    · cases hx
/-- A new list in a book. -/
abbrev newHd (v : Value) (k : Nat) (xs : List Value) (n : Int) : Hd := ⟨v, k, xs, n, .slice none 0 0⟩


theorem bt_heldInt (v : Value) (n : Int) (hv : v.cells = [v].toArray) : Tryz.prog.built 102 [(0, v), (2, .int .i64 n)] = some [v, .slice none 0 0, .int .i64 n].toArray := by
  have h1 : Tryz.prog.info? 102 = some Tryz.t102 := rfl
  have h2 : Tryz.prog.info? 26 = some Tryz.t26 := rfl
  have h3 : Tryz.prog.info? 3 = some Tryz.t3 := rfl
  simp [Program.built, h1, Tryz.underlying102, h2, h3, Instr.fill, hv]
  rfl
theorem keepInt_c (A : Nat) (book : List Value) (n : Int) (u : Value) (hs : List Hd) (lo : Nat) (w : World) (v : Value) (k : Nat) (xs : List Value) (hA : Blk w A bookT book) (h0 : book[0]? = some (.int .i64 n)) (hu : book[2]? = some u) (ho : w.ownsRow lo 102 3 u hs.length (hcells hs))
    (hlo : lo ≤ w.heap.size) (hAu : u.ownBlock ≠ some A) (hn : 0 ≤ n ∧ n ≤ 1000) (hh : hs.length ≤ 1000) (hv : Sl w 1 v k xs) :
    Fnc Tryz.prog 110 [.pointer (some ⟨A, 0, none⟩), v] w (fun r w' => r = .tuple #[] ∧ ∃ u', Blk w' A bookT ((book.set 0 (.int .i64 (n + 1))).set 2 u') ∧ w'.ownsRow lo 102 3 u' (hs.length + 1) (hcells (hs ++ [newHd v k xs (n + 1)])) ∧ Chg (fun b => b = A ∨ u.ownBlock = some b) w w' ∧ ∀ b, u'.ownBlock = some b → u.ownBlock = some b ∨ w.heap.size ≤ b) := by
  have hl0 : 0 < book.length := (List.getElem?_eq_some_iff.1 h0).1
  have hlC : 2 < book.length := (List.getElem?_eq_some_iff.1 hu).1
  refine Fnc.enter (n := 26) Tryz.func110 (by kernel_rfl) rfl rfl rfl ?_
  refine Cw.seq ?_
  refine Cw.region ?_
  refine Lw.val (Ex.move rfl) rfl ?_
  refine Lw.val (Ex.nilCheck rfl) rfl ?_
  refine Lw.val (Ex.fieldAddr (q := 0) Tryz.underlying51 rfl (sz_3 _) rfl) rfl ?_
  refine Lw.val (Ex.ldB (ag_3 _) rfl hA h0) rfl ?_
  refine Lw.val (Ex.addI rfl rfl (by omega)) rfl ?_
  refine Lw.val (Ex.nilCheck rfl) rfl ?_
  refine Lw.val (Ex.fieldAddr (q := 0) Tryz.underlying51 rfl (sz_3 _) rfl) rfl ?_
  refine Lw.unit (Xu.stB (u := .int .i64 (n + 1)) (sz_3 _) rfl rfl rfl hA hl0) ?_
  rintro w1 ⟨b1, hg1, hz1⟩
  have o1 := own_heap ho (fun b e => hg1.block b (own_block ho b e).2 (fun e2 => hAu (by rw [e, e2])))
  have c1 : Chg (fun b => b = A ∨ u.ownBlock = some b) w w1 := (Chg.refl _ _).grown hg1 (fun b e => .inl (.inl (Option.some.inj e).symm))
  have q0 : (book.set 0 (.int .i64 (n + 1)))[0]? = some (.int .i64 (n + 1)) := by simp [hl0]
  have qC : (book.set 0 (.int .i64 (n + 1)))[2]? = some u := by rw [List.getElem?_set_ne (by decide)]; exact hu
  have hzA := blk_lt hA
  refine Lw.nil ?_
  refine Pw.thenN (Cw.out ?_)
  refine Cw.any mixed (fun w2 hd _ => ?_)
  have o2 := own_bs o1 hd
  have b2 := b1.bs hd
  refine Aw.seg (St := Value) (g := 1) [0, 1, 2, 3, 4, 5, 6, 7, 8, 9, 10, 11, 12, 13, 14] 15 (fun s => [(23, s), (25, .pointer (some ⟨A, 2, none⟩))]) (fun s w' => Chg (fun b => b = A ∨ u.ownBlock = some b) w w' ∧ w'.ownsRow lo 102 3 s (hs.length + 1) (hcells (hs ++ [newHd v k xs (n + 1)])) ∧ Blk w' A bookT (book.set 0 (.int .i64 (n + 1))) ∧ ∀ b, s.ownBlock = some b → u.ownBlock = some b ∨ w.heap.size ≤ b) (by kernel_rfl) rfl ?_ ?_
  · refine Aw.cls (fun w' => Blk w' A bookT (book.set 0 (.int .i64 (n + 1)))) (fun hC => ?_) (b2)
    refine AwC.take (i := 0) (NoP.thn NoP.ret) rfl (by kernel_rfl) (by kernel_rfl) (by kernel_rfl) (fun w1 hc => Ex.move rfl) rfl ?_
    refine AwC.take (i := 1) (NoP.thn NoP.ret) rfl (by kernel_rfl) (by kernel_rfl) (by kernel_rfl) (fun w1 hc => Ex.move rfl) rfl ?_
    refine AwC.take (i := 2) (NoP.thn NoP.ret) rfl (by kernel_rfl) (by kernel_rfl) (by kernel_rfl) (fun w1 hc => Ex.nilCheck rfl) rfl ?_
    refine AwC.take (i := 3) (NoP.thn NoP.ret) rfl (by kernel_rfl) (by kernel_rfl) (by kernel_rfl) (fun w1 hc => Ex.fieldAddr (q := 0) Tryz.underlying51 rfl (sz_36 _) rfl) rfl ?_
    refine AwC.take (i := 4) (NoP.thn NoP.ret) rfl (by kernel_rfl) (by kernel_rfl) (by kernel_rfl) (fun w1 hc => Ex.ldB (ag_36 _) rfl hc qC) rfl ?_
    refine AwC.take (i := 5) (NoP.thn NoP.ret) rfl (by kernel_rfl) (by kernel_rfl) (by kernel_rfl) (fun w1 hc => Ex.move rfl) rfl ?_
    refine AwC.take (i := 6) (NoP.thn NoP.ret) rfl (by kernel_rfl) (by kernel_rfl) (by kernel_rfl) (fun w1 hc => Ex.move rfl) rfl ?_
    refine AwC.take (i := 7) (NoP.thn NoP.ret) rfl (by kernel_rfl) (by kernel_rfl) (by kernel_rfl) (fun w1 hc => Ex.nilCheck rfl) rfl ?_
    refine AwC.take (i := 8) (NoP.thn NoP.ret) rfl (by kernel_rfl) (by kernel_rfl) (by kernel_rfl) (fun w1 hc => Ex.fieldAddr (q := 0) Tryz.underlying51 rfl (sz_3 _) rfl) rfl ?_
    refine AwC.take (i := 9) (NoP.thn NoP.ret) rfl (by kernel_rfl) (by kernel_rfl) (by kernel_rfl) (fun w1 hc => Ex.ldB (ag_3 _) rfl hc q0) rfl ?_
    refine AwC.take (i := 10) (NoP.thn NoP.ret) rfl (by kernel_rfl) (by kernel_rfl) (by kernel_rfl) (fun w1 hc => Ex.build (vs := [(0, v), (2, .int .i64 (n + 1))]) (cs := [v, .slice none 0 0, .int .i64 (n + 1)]) rfl (bt_heldInt _ _ hv.one)) rfl ?_
    refine AwC.only (by assumption) (i := 11) (by kernel_rfl) rfl ?_
    refine Lw.valW (Xw.litA (vs := [(0, .agg #[v, .slice none 0 0, .int .i64 (n + 1)])]) (cs := [v, .slice none 0 0, .int .i64 (n + 1)]) st_36 it_102 rfl (by decide) (by decide) (by decide) (by kernel_rfl) rfl) rfl ?_
    rintro nv w3 ⟨o3, -, hn3, -⟩
    have o2 := own_bs o2 hn3
    have b2 := b2.bs hn3
    have z3 := (bt hd hn3).size
    have hlo3 : lo ≤ w3.heap.size := by omega
    refine AwC.back ?_
    refine AwC.only (by assumption) (i := 12) (by kernel_rfl) rfl ?_
    refine Lw.valW (Xw.append3 (base := lo) st_36 it_102 rfl (by decide) rfl rfl o2 (own_sl o3) (head_one hv.one' _) (by omega) (by omega) hlo3) rfl ?_
    rintro u' w4 ⟨o4, hg4, hcase⟩
    have c4 : Chg (fun b => b = A ∨ u.ownBlock = some b) w w4 := (c1.below (bt hd hn3)).grown hg4 (fun b e => .inl (.inr e))
    have b4 := b2.by hg4 (fun e => hAu e.symm)
    have hub : ∀ b, u'.ownBlock = some b → u.ownBlock = some b ∨ w.heap.size ≤ b := fun b e => by
      rcases hcase with h | ⟨h, _⟩
      · rw [h] at e; exact .inl e
      · exact .inr (by have := h b e; omega)
    refine AwC.back ?_
    refine AwC.take (i := 13) (NoP.thn NoP.ret) rfl (by kernel_rfl) (by kernel_rfl) (by kernel_rfl) (fun w1 hc => Ex.nilCheck rfl) rfl ?_
    refine AwC.take (i := 14) (NoP.thn NoP.ret) rfl (by kernel_rfl) (by kernel_rfl) (by kernel_rfl) (fun w1 hc => Ex.fieldAddr (q := 0) Tryz.underlying51 rfl (sz_36 _) rfl) rfl ?_
    refine AwC.done (by assumption) (by kernel_rfl) ?_
    exact Pw.thenN (Pw.seg (u') ⟨rfl, rfl, trivial⟩ (⟨c4, by rw [hcells_app]; exact o4, b4, hub⟩))
  rintro u' w5 ⟨c5, o5, b5, hub⟩
  have z5 := c5.size
  refine Aw.only (i := 15) (by kernel_rfl) rfl ?_
  refine Lw.unit (Xu.stB (u := u') (sz_36 _) rfl rfl (own_sl o5).one' b5 (by rw [List.length_set]; exact hlC)) ?_
  rintro w6 ⟨b6, hg6, -⟩
  have o6 := own_heap o5 (fun b e => hg6.block b (own_block o5 b e).2 (fun e2 => by
    cases e2
    rcases hub _ e with h | h
    · exact hAu h
    · omega))
  refine Aw.back ?_
  refine Aw.done (by kernel_rfl) ?_
  refine Pw.end0 rfl ?_
  exact ⟨rfl, u', b6, o6, c5.grown hg6 (fun b e => .inl (.inl (Option.some.inj e).symm)), hub⟩

theorem bt_heldNumber (v : Value) (n : Int) (hv : v.cells = [v].toArray) : Tryz.prog.built 104 [(0, v), (2, .int .i64 n)] = some [v, .slice none 0 0, .int .i64 n].toArray := by
  have h1 : Tryz.prog.info? 104 = some Tryz.t104 := rfl
  have h2 : Tryz.prog.info? 27 = some Tryz.t27 := rfl
  have h3 : Tryz.prog.info? 3 = some Tryz.t3 := rfl
  simp [Program.built, h1, Tryz.underlying104, h2, h3, Instr.fill, hv]
  rfl
theorem keepNumber_c (A : Nat) (book : List Value) (n : Int) (u : Value) (hs : List Hd) (lo : Nat) (w : World) (v : Value) (k : Nat) (xs : List Value) (hA : Blk w A bookT book) (h0 : book[0]? = some (.int .i64 n)) (hu : book[3]? = some u) (ho : w.ownsRow lo 104 3 u hs.length (hcells hs))
    (hlo : lo ≤ w.heap.size) (hAu : u.ownBlock ≠ some A) (hn : 0 ≤ n ∧ n ≤ 1000) (hh : hs.length ≤ 1000) (hv : Sl w 1 v k xs) :
    Fnc Tryz.prog 115 [.pointer (some ⟨A, 0, none⟩), v] w (fun r w' => r = .tuple #[] ∧ ∃ u', Blk w' A bookT ((book.set 0 (.int .i64 (n + 1))).set 3 u') ∧ w'.ownsRow lo 104 3 u' (hs.length + 1) (hcells (hs ++ [newHd v k xs (n + 1)])) ∧ Chg (fun b => b = A ∨ u.ownBlock = some b) w w' ∧ ∀ b, u'.ownBlock = some b → u.ownBlock = some b ∨ w.heap.size ≤ b) := by
  have hl0 : 0 < book.length := (List.getElem?_eq_some_iff.1 h0).1
  have hlC : 3 < book.length := (List.getElem?_eq_some_iff.1 hu).1
  refine Fnc.enter (n := 26) Tryz.func115 (by kernel_rfl) rfl rfl rfl ?_
  refine Cw.seq ?_
  refine Cw.region ?_
  refine Lw.val (Ex.move rfl) rfl ?_
  refine Lw.val (Ex.nilCheck rfl) rfl ?_
  refine Lw.val (Ex.fieldAddr (q := 0) Tryz.underlying51 rfl (sz_3 _) rfl) rfl ?_
  refine Lw.val (Ex.ldB (ag_3 _) rfl hA h0) rfl ?_
  refine Lw.val (Ex.addI rfl rfl (by omega)) rfl ?_
  refine Lw.val (Ex.nilCheck rfl) rfl ?_
  refine Lw.val (Ex.fieldAddr (q := 0) Tryz.underlying51 rfl (sz_3 _) rfl) rfl ?_
  refine Lw.unit (Xu.stB (u := .int .i64 (n + 1)) (sz_3 _) rfl rfl rfl hA hl0) ?_
  rintro w1 ⟨b1, hg1, hz1⟩
  have o1 := own_heap ho (fun b e => hg1.block b (own_block ho b e).2 (fun e2 => hAu (by rw [e, e2])))
  have c1 : Chg (fun b => b = A ∨ u.ownBlock = some b) w w1 := (Chg.refl _ _).grown hg1 (fun b e => .inl (.inl (Option.some.inj e).symm))
  have q0 : (book.set 0 (.int .i64 (n + 1)))[0]? = some (.int .i64 (n + 1)) := by simp [hl0]
  have qC : (book.set 0 (.int .i64 (n + 1)))[3]? = some u := by rw [List.getElem?_set_ne (by decide)]; exact hu
  have hzA := blk_lt hA
  refine Lw.nil ?_
  refine Pw.thenN (Cw.out ?_)
  refine Cw.any mixed (fun w2 hd _ => ?_)
  have o2 := own_bs o1 hd
  have b2 := b1.bs hd
  refine Aw.seg (St := Value) (g := 1) [0, 1, 2, 3, 4, 5, 6, 7, 8, 9, 10, 11, 12, 13, 14] 15 (fun s => [(23, s), (25, .pointer (some ⟨A, 3, none⟩))]) (fun s w' => Chg (fun b => b = A ∨ u.ownBlock = some b) w w' ∧ w'.ownsRow lo 104 3 s (hs.length + 1) (hcells (hs ++ [newHd v k xs (n + 1)])) ∧ Blk w' A bookT (book.set 0 (.int .i64 (n + 1))) ∧ ∀ b, s.ownBlock = some b → u.ownBlock = some b ∨ w.heap.size ≤ b) (by kernel_rfl) rfl ?_ ?_
  · refine Aw.cls (fun w' => Blk w' A bookT (book.set 0 (.int .i64 (n + 1)))) (fun hC => ?_) (b2)
    refine AwC.take (i := 0) (NoP.thn NoP.ret) rfl (by kernel_rfl) (by kernel_rfl) (by kernel_rfl) (fun w1 hc => Ex.move rfl) rfl ?_
    refine AwC.take (i := 1) (NoP.thn NoP.ret) rfl (by kernel_rfl) (by kernel_rfl) (by kernel_rfl) (fun w1 hc => Ex.move rfl) rfl ?_
    refine AwC.take (i := 2) (NoP.thn NoP.ret) rfl (by kernel_rfl) (by kernel_rfl) (by kernel_rfl) (fun w1 hc => Ex.nilCheck rfl) rfl ?_
    refine AwC.take (i := 3) (NoP.thn NoP.ret) rfl (by kernel_rfl) (by kernel_rfl) (by kernel_rfl) (fun w1 hc => Ex.fieldAddr (q := 0) Tryz.underlying51 rfl (sz_37 _) rfl) rfl ?_
    refine AwC.take (i := 4) (NoP.thn NoP.ret) rfl (by kernel_rfl) (by kernel_rfl) (by kernel_rfl) (fun w1 hc => Ex.ldB (ag_37 _) rfl hc qC) rfl ?_
    refine AwC.take (i := 5) (NoP.thn NoP.ret) rfl (by kernel_rfl) (by kernel_rfl) (by kernel_rfl) (fun w1 hc => Ex.move rfl) rfl ?_
    refine AwC.take (i := 6) (NoP.thn NoP.ret) rfl (by kernel_rfl) (by kernel_rfl) (by kernel_rfl) (fun w1 hc => Ex.move rfl) rfl ?_
    refine AwC.take (i := 7) (NoP.thn NoP.ret) rfl (by kernel_rfl) (by kernel_rfl) (by kernel_rfl) (fun w1 hc => Ex.nilCheck rfl) rfl ?_
    refine AwC.take (i := 8) (NoP.thn NoP.ret) rfl (by kernel_rfl) (by kernel_rfl) (by kernel_rfl) (fun w1 hc => Ex.fieldAddr (q := 0) Tryz.underlying51 rfl (sz_3 _) rfl) rfl ?_
    refine AwC.take (i := 9) (NoP.thn NoP.ret) rfl (by kernel_rfl) (by kernel_rfl) (by kernel_rfl) (fun w1 hc => Ex.ldB (ag_3 _) rfl hc q0) rfl ?_
    refine AwC.take (i := 10) (NoP.thn NoP.ret) rfl (by kernel_rfl) (by kernel_rfl) (by kernel_rfl) (fun w1 hc => Ex.build (vs := [(0, v), (2, .int .i64 (n + 1))]) (cs := [v, .slice none 0 0, .int .i64 (n + 1)]) rfl (bt_heldNumber _ _ hv.one)) rfl ?_
    refine AwC.only (by assumption) (i := 11) (by kernel_rfl) rfl ?_
    refine Lw.valW (Xw.litA (vs := [(0, .agg #[v, .slice none 0 0, .int .i64 (n + 1)])]) (cs := [v, .slice none 0 0, .int .i64 (n + 1)]) st_37 it_104 rfl (by decide) (by decide) (by decide) (by kernel_rfl) rfl) rfl ?_
    rintro nv w3 ⟨o3, -, hn3, -⟩
    have o2 := own_bs o2 hn3
    have b2 := b2.bs hn3
    have z3 := (bt hd hn3).size
    have hlo3 : lo ≤ w3.heap.size := by omega
    refine AwC.back ?_
    refine AwC.only (by assumption) (i := 12) (by kernel_rfl) rfl ?_
    refine Lw.valW (Xw.append3 (base := lo) st_37 it_104 rfl (by decide) rfl rfl o2 (own_sl o3) (head_one hv.one' _) (by omega) (by omega) hlo3) rfl ?_
    rintro u' w4 ⟨o4, hg4, hcase⟩
    have c4 : Chg (fun b => b = A ∨ u.ownBlock = some b) w w4 := (c1.below (bt hd hn3)).grown hg4 (fun b e => .inl (.inr e))
    have b4 := b2.by hg4 (fun e => hAu e.symm)
    have hub : ∀ b, u'.ownBlock = some b → u.ownBlock = some b ∨ w.heap.size ≤ b := fun b e => by
      rcases hcase with h | ⟨h, _⟩
      · rw [h] at e; exact .inl e
      · exact .inr (by have := h b e; omega)
    refine AwC.back ?_
    refine AwC.take (i := 13) (NoP.thn NoP.ret) rfl (by kernel_rfl) (by kernel_rfl) (by kernel_rfl) (fun w1 hc => Ex.nilCheck rfl) rfl ?_
    refine AwC.take (i := 14) (NoP.thn NoP.ret) rfl (by kernel_rfl) (by kernel_rfl) (by kernel_rfl) (fun w1 hc => Ex.fieldAddr (q := 0) Tryz.underlying51 rfl (sz_37 _) rfl) rfl ?_
    refine AwC.done (by assumption) (by kernel_rfl) ?_
    exact Pw.thenN (Pw.seg (u') ⟨rfl, rfl, trivial⟩ (⟨c4, by rw [hcells_app]; exact o4, b4, hub⟩))
  rintro u' w5 ⟨c5, o5, b5, hub⟩
  have z5 := c5.size
  refine Aw.only (i := 15) (by kernel_rfl) rfl ?_
  refine Lw.unit (Xu.stB (u := u') (sz_37 _) rfl rfl (own_sl o5).one' b5 (by rw [List.length_set]; exact hlC)) ?_
  rintro w6 ⟨b6, hg6, -⟩
  have o6 := own_heap o5 (fun b e => hg6.block b (own_block o5 b e).2 (fun e2 => by
    cases e2
    rcases hub _ e with h | h
    · exact hAu h
    · omega))
  refine Aw.back ?_
  refine Aw.done (by kernel_rfl) ?_
  refine Pw.end0 rfl ?_
  exact ⟨rfl, u', b6, o6, c5.grown hg6 (fun b e => .inl (.inl (Option.some.inj e).symm)), hub⟩

/-- A book: where its parts lie, and what it keeps. -/
structure Bk (w : World) (lo A : Nat) (n : Int) (hb hi hn : List Hd) (ub ui un : Value) : Prop where
  box : Blk w A bookT [.int .i64 n, ub, ui, un, .slice none 0 0, .slice none 0 0, .slice none 0 0, .slice none 0 0, .slice none 0 0, .slice none 0 0, .slice none 0 0, .slice none 0 0, .slice none 0 0, .slice none 0 0, .slice none 0 0, .slice none 0 0]
  ob : w.ownsRow lo 99 3 ub hb.length (hcells hb)
  oi : w.ownsRow lo 102 3 ui hi.length (hcells hi)
  on : w.ownsRow lo 104 3 un hn.length (hcells hn)
  loA : lo ≤ A
  ab : ub.ownBlock ≠ some A
  ai : ui.ownBlock ≠ some A
  an : un.ownBlock ≠ some A
  bi : Apt ub ui
  bn : Apt ub un
  nn : Apt ui un
  many : hb.length + hi.length + hn.length ≤ 900
  num : 0 ≤ n ∧ n ≤ 900
theorem Bk.size {w : World} {lo A : Nat} {n : Int} {hb hi hn : List Hd} {ub ui un : Value} (h : Bk w lo A n hb hi hn ub ui un) : lo < w.heap.size := Nat.lt_of_le_of_lt h.loA (blk_lt h.box)
theorem Bk.bs {w w' : World} {lo A : Nat} {n : Int} {hb hi hn : List Hd} {ub ui un : Value} (h : Bk w lo A n hb hi hn ub ui un) (g : Below w.heap.size w w') : Bk w' lo A n hb hi hn ub ui un :=
  ⟨h.box.bs g, own_bs h.ob g, own_bs h.oi g, own_bs h.on g, h.loA, h.ab, h.ai, h.an, h.bi, h.bn, h.nn, h.many, h.num⟩
theorem apt_new {u u' v : Value} {w : World} {lo k : Nat} {e : TypeId} {xs : List Value} (h : Apt u v) (hv : w.ownsRow lo e 3 v k xs) (hu : ∀ b, u'.ownBlock = some b → u.ownBlock = some b ∨ w.heap.size ≤ b) : Apt u' v := fun b e1 e2 => by
  rcases hu b e1 with h1 | h1
  · exact h b h1 e2
  · have := (own_block hv b e2).2; omega


theorem bookInts_c (w : World) (lo A : Nat) (n : Int) (hb hi hn : List Hd) (ub ui un v : Value) (k : Nat) (xs : List Value) (h : Bk w lo A n hb hi hn ub ui un) (hv : Sl w 1 v k xs) (hf : n ≤ 800) (hf2 : hb.length + hi.length + hn.length ≤ 800) :
    Fnc Tryz.prog 26 [.pointer (some ⟨A, 0, none⟩), v] w (fun r w' => r = .tuple #[] ∧ Chg (fun b => b = A ∨ ui.ownBlock = some b) w w' ∧ ∃ u', Bk w' lo A (n + 1) hb (hi ++ [newHd v k xs (n + 1)]) hn ub u' un) := by
  have hnum := h.num
  refine Fnc.enter (n := 7) Tryz.func26 (by kernel_rfl) rfl rfl rfl ?_
  refine Cw.region ?_
  refine Lw.val (Ex.move rfl) rfl ?_
  refine Lw.val (Ex.move rfl) rfl ?_
  refine Lw.callF rfl rfl (keepInt_c A _ n ui hi lo w v k xs h.box rfl rfl h.oi (Nat.le_of_lt h.size) h.ai (by omega) (by omega) hv) ?_
  rintro _ w' ⟨rfl, u', hb', ho, hc, hu⟩
  refine Lw.nil ?_
  refine Pw.end0 rfl ?_
  exact ⟨rfl, hc, u', hb', own_chg h.ob hc (fun b e1 e2 => e2.elim (fun e => h.ab (by rw [e1, e])) (fun e => h.bi b e1 e)), by rw [List.length_append]; exact ho, own_chg h.on hc (fun b e1 e2 => e2.elim (fun e => h.an (by rw [e1, e])) (fun e => h.nn b e e1)), h.loA, h.ab, fun e => by rcases hu _ e with h1 | h1; exact h.ai h1; have := blk_lt h.box; omega, h.an, (apt_new h.bi.symm h.ob hu).symm, h.bn, apt_new h.nn h.on hu, by simp only [List.length_append, List.length_singleton]; omega, by omega⟩

theorem bookNumbers_c (w : World) (lo A : Nat) (n : Int) (hb hi hn : List Hd) (ub ui un v : Value) (k : Nat) (xs : List Value) (h : Bk w lo A n hb hi hn ub ui un) (hv : Sl w 1 v k xs) (hf : n ≤ 800) (hf2 : hb.length + hi.length + hn.length ≤ 800) :
    Fnc Tryz.prog 44 [.pointer (some ⟨A, 0, none⟩), v] w (fun r w' => r = .tuple #[] ∧ Chg (fun b => b = A ∨ un.ownBlock = some b) w w' ∧ ∃ u', Bk w' lo A (n + 1) hb hi (hn ++ [newHd v k xs (n + 1)]) ub ui u') := by
  have hnum := h.num
  refine Fnc.enter (n := 7) Tryz.func44 (by kernel_rfl) rfl rfl rfl ?_
  refine Cw.region ?_
  refine Lw.val (Ex.move rfl) rfl ?_
  refine Lw.val (Ex.move rfl) rfl ?_
  refine Lw.callF rfl rfl (keepNumber_c A _ n un hn lo w v k xs h.box rfl rfl h.on (Nat.le_of_lt h.size) h.an (by omega) (by omega) hv) ?_
  rintro _ w' ⟨rfl, u', hb', ho, hc, hu⟩
  refine Lw.nil ?_
  refine Pw.end0 rfl ?_
  exact ⟨rfl, hc, u', hb', own_chg h.ob hc (fun b e1 e2 => e2.elim (fun e => h.ab (by rw [e1, e])) (fun e => h.bn b e1 e)), own_chg h.oi hc (fun b e1 e2 => e2.elim (fun e => h.ai (by rw [e1, e])) (fun e => h.nn b e1 e)), by rw [List.length_append]; exact ho, h.loA, h.ab, h.ai, fun e => by rcases hu _ e with h1 | h1; exact h.an h1; have := blk_lt h.box; omega, h.bi, (apt_new h.bn.symm h.ob hu).symm, (apt_new h.nn.symm h.oi hu).symm, by simp only [List.length_append, List.length_singleton]; omega, by omega⟩

theorem Bk.low {w w' : World} {lo A : Nat} {n : Int} {hb hi hn : List Hd} {ub ui un u : Value} (h : Bk w lo A n hb hi hn ub ui un) (hu : ∀ b, u.ownBlock = some b → lo ≤ b) (hc : Chg (fun b => b = A ∨ u.ownBlock = some b) w w') : Below lo w w' := hc.to_below (fun b hS => by
  rcases hS with rfl | e
  · exact h.loA
  · exact hu b e) (Nat.le_of_lt h.size)
theorem bookTensor_c (w : World) (lo A : Nat) (n : Int) (hb hi hn : List Hd) (ub ui un x y : Value) (k m : Nat) (xs ys : List Value) (h : Bk w lo A n hb hi hn ub ui un) (hx : Sl w 1 x k xs) (hy : Sl w 1 y m ys) (hyl : ∀ b, y.ownBlock = some b → b < lo) (hf : n ≤ 700) (hf2 : hb.length + hi.length + hn.length ≤ 700) :
    Fnc Tryz.prog 13 [.pointer (some ⟨A, 0, none⟩), .agg #[x, y]] w (fun r w' => r = .tuple #[] ∧ Below lo w w' ∧ ∃ ui' un', Bk w' lo A (n + 2) hb (hi ++ [newHd x k xs (n + 1)]) (hn ++ [newHd y m ys (n + 2)]) ub ui' un') := by
  refine Fnc.enter (n := 12) Tryz.func13 (by kernel_rfl) rfl rfl rfl ?_
  refine Cw.seq ?_
  refine Cw.region ?_
  refine Lw.valW (Xw.box (cs := [x, y]) rfl rfl) rfl ?_
  rintro _ w1 ⟨rfl, b, hn1, hz1⟩
  have h1 := h.bs hn1
  have hs := h.size
  have hsA := blk_lt h.box
  have hsi := own_block h.oi
  refine Lw.nil ?_
  refine Pw.thenN (Cw.out ?_)
  refine Cw.seq ?_
  refine Cw.region ?_
  refine Lw.val (Ex.move rfl) rfl ?_
  refine Lw.val (Ex.fieldAddr (q := 0) Tryz.underlying29 rfl (sz_26 _) rfl) rfl ?_
  refine Lw.val (Ex.ldB (ag_26 _) rfl (by assumption) rfl) rfl ?_
  refine Lw.callF rfl rfl (bookInts_c w1 lo A n hb hi hn ub ui un x k xs h1 (hx.bs hn1) (by omega) (by omega)) ?_
  rintro _ w2 ⟨rfl, c2, ui', h2⟩
  have l2 := h1.low (fun b e => (own_block h1.oi b e).1) c2
  have hy2 : Sl w2 1 y m ys := (hy.bs hn1).keep fun b _ e => l2.block b (hyl b e)
  have b2 := b.chg c2 (fun e => by
    rcases e with e | e
    · omega
    · have := (hsi _ e).2; omega)
  refine Lw.nil ?_
  refine Pw.thenN (Cw.out ?_)
  refine Cw.region ?_
  refine Lw.val (Ex.move rfl) rfl ?_
  refine Lw.val (Ex.fieldAddr (q := 0) Tryz.underlying29 rfl (sz_27 _) rfl) rfl ?_
  refine Lw.val (Ex.ldB (ag_27 _) rfl (by assumption) rfl) rfl ?_
  refine Lw.callF rfl rfl (bookNumbers_c w2 lo A (n + 1) hb _ hn ub ui' un y m ys h2 hy2 (by omega) (by simp only [List.length_append, List.length_singleton]; omega)) ?_
  rintro _ w3 ⟨rfl, c3, un', h3⟩
  have l3 := h2.low (fun b e => (own_block h2.on b e).1) c3
  have e2 : n + 1 + 1 = n + 2 := by omega
  rw [e2] at h3
  refine Lw.nil ?_
  refine Pw.end0 rfl ?_
  exact ⟨rfl, ((hn1.mono (Nat.le_of_lt hs)).trans l2).trans l3, ui', un', h3⟩

theorem apart_c (w : World) (lo A base : Nat) (n : Int) (hb hi hn : List Hd) (ub ui un : Value) (h : Bk w lo A n hb hi hn ub ui un) (kb : Kept w base 5 1 hb) (ki : Kept w base 3 1 hi) (kn : Kept w base 21 1 hn)
    (lb : ∀ b, blks hb b → b < lo) (li : ∀ b, blks hi b → b < lo) (ln : ∀ b, blks hn b → b < lo) (xbi : ∀ b, blks hb b → ¬ blks hi b) (xbn : ∀ b, blks hb b → ¬ blks hn b) (xin : ∀ b, blks hi b → ¬ blks hn b) (hbl : base ≤ lo) :
    Fnc Tryz.prog 14 [.pointer (some ⟨A, 0, none⟩)] w (fun r w' => r = .bool true ∧ Below base w w') := by
  have nA : ∀ {b}, b < lo → b ≠ A := fun h1 h2 => by have := h.loA; omega
  have hlo : base ≤ w.heap.size := Nat.le_trans hbl (Nat.le_of_lt h.size)
  have fb : ∀ b, ub.ownBlock = some b → lo ≤ b ∧ b < w.heap.size := own_block h.ob
  have fi : ∀ b, ui.ownBlock = some b → lo ≤ b ∧ b < w.heap.size := own_block h.oi
  have fn : ∀ b, un.ownBlock = some b → lo ≤ b ∧ b < w.heap.size := own_block h.on
  refine Fnc.enter (n := 121) Tryz.func14 (by kernel_rfl) rfl rfl rfl ?_
  refine Cw.seq ?_
  refine Cw.region ?_
  refine Lw.val (Ex.assign rfl) rfl ?_
  refine Lw.nil ?_
  refine Pw.thenN (Cw.out ?_)
  refine Cw.seq ?_
  refine Cw.region ?_
  refine Lw.val (Ex.move rfl) rfl ?_
  refine Lw.callF rfl rfl (fillByte_c A _ ub hb lo base w h.box rfl h.ob kb (fun e => nA (lb _ e) rfl) (fun b e1 e2 => by have := fb b e1; have := lb b e2; omega)) ?_
  rintro _ w1 ⟨rfl, c1, ub1⟩
  have A1 := Blk.chg (h.box) c1 (fun e => nA (lb _ e) rfl)
  have ob1 := own_chg (h.ob) c1 (fun b e1 e2 => by have := fb b e1; have := lb b e2; omega)
  have oi1 := own_chg (h.oi) c1 (fun b e1 e2 => by have := fi b e1; have := lb b e2; omega)
  have on1 := own_chg (h.on) c1 (fun b e1 e2 => by have := fn b e1; have := lb b e2; omega)
  have ki1 := Kept.chg ki c1 (fun c h1 h2 => xbi c h2 h1)
  have kn1 := Kept.chg kn c1 (fun c h1 h2 => xbn c h2 h1)
  refine Lw.nil ?_
  refine Pw.thenN (Cw.out ?_)
  refine Cw.seq ?_
  refine Cw.region ?_
  refine Lw.val (Ex.move rfl) rfl ?_
  refine Lw.callF rfl rfl (fillInt_c A _ ui hi lo base w1 A1 rfl oi1 ki1 (fun e => nA (li _ e) rfl) (fun b e1 e2 => by have := fi b e1; have := li b e2; omega)) ?_
  rintro _ w2 ⟨rfl, c2, ui2⟩
  have A2 := Blk.chg (A1) c2 (fun e => nA (li _ e) rfl)
  have ob2 := own_chg (ob1) c2 (fun b e1 e2 => by have := fb b e1; have := li b e2; omega)
  have oi2 := own_chg (oi1) c2 (fun b e1 e2 => by have := fi b e1; have := li b e2; omega)
  have on2 := own_chg (on1) c2 (fun b e1 e2 => by have := fn b e1; have := li b e2; omega)
  have ub2 := ub1.chg c2 xbi
  have kn2 := Kept.chg kn1 c2 (fun c h1 h2 => xin c h2 h1)
  refine Lw.nil ?_
  refine Pw.thenN (Cw.out ?_)
  refine Cw.seq ?_
  refine Cw.region ?_
  refine Lw.val (Ex.move rfl) rfl ?_
  refine Lw.callF rfl rfl (fillNumber_c A _ un hn lo base w2 A2 rfl on2 kn2 (fun e => nA (ln _ e) rfl) (fun b e1 e2 => by have := fn b e1; have := ln b e2; omega)) ?_
  rintro _ w3 ⟨rfl, c3, un3⟩
  have A3 := Blk.chg (A2) c3 (fun e => nA (ln _ e) rfl)
  have ob3 := own_chg (ob2) c3 (fun b e1 e2 => by have := fb b e1; have := ln b e2; omega)
  have oi3 := own_chg (oi2) c3 (fun b e1 e2 => by have := fi b e1; have := ln b e2; omega)
  have on3 := own_chg (on2) c3 (fun b e1 e2 => by have := fn b e1; have := ln b e2; omega)
  have ub3 := ub2.chg c3 xbn
  have ui3 := ui2.chg c3 xin
  refine Lw.nil ?_
  refine Pw.thenN (Cw.out ?_)
  refine Cw.seq ?_
  refine Cw.region ?_
  refine Lw.val (Ex.move rfl) rfl ?_
  refine Lw.callF rfl rfl (fillId_c A _ w3 A3 rfl) ?_
  rintro _ _ ⟨rfl, rfl⟩
  refine Lw.nil ?_
  refine Pw.thenN (Cw.out ?_)
  refine Cw.seq ?_
  refine Cw.region ?_
  refine Lw.val (Ex.move rfl) rfl ?_
  refine Lw.callF rfl rfl (fillText_c A _ w3 A3 rfl) ?_
  rintro _ _ ⟨rfl, rfl⟩
  refine Lw.nil ?_
  refine Pw.thenN (Cw.out ?_)
  refine Cw.seq ?_
  refine Cw.region ?_
  refine Lw.val (Ex.move rfl) rfl ?_
  refine Lw.callF rfl rfl (fillTensor_c A _ w3 A3 rfl) ?_
  rintro _ _ ⟨rfl, rfl⟩
  refine Lw.nil ?_
  refine Pw.thenN (Cw.out ?_)
  refine Cw.seq ?_
  refine Cw.region ?_
  refine Lw.val (Ex.move rfl) rfl ?_
  refine Lw.callF rfl rfl (fillNode_c A _ w3 A3 rfl) ?_
  rintro _ _ ⟨rfl, rfl⟩
  refine Lw.nil ?_
  refine Pw.thenN (Cw.out ?_)
  refine Cw.seq ?_
  refine Cw.region ?_
  refine Lw.val (Ex.move rfl) rfl ?_
  refine Lw.callF rfl rfl (fillStep_c A _ w3 A3 rfl) ?_
  rintro _ _ ⟨rfl, rfl⟩
  refine Lw.nil ?_
  refine Pw.thenN (Cw.out ?_)
  refine Cw.seq ?_
  refine Cw.region ?_
  refine Lw.val (Ex.move rfl) rfl ?_
  refine Lw.callF rfl rfl (fillCost_c A _ w3 A3 rfl) ?_
  rintro _ _ ⟨rfl, rfl⟩
  refine Lw.nil ?_
  refine Pw.thenN (Cw.out ?_)
  refine Cw.seq ?_
  refine Cw.region ?_
  refine Lw.val (Ex.move rfl) rfl ?_
  refine Lw.callF rfl rfl (fillRecord_c A _ w3 A3 rfl) ?_
  rintro _ _ ⟨rfl, rfl⟩
  refine Lw.nil ?_
  refine Pw.thenN (Cw.out ?_)
  refine Cw.seq ?_
  refine Cw.region ?_
  refine Lw.val (Ex.move rfl) rfl ?_
  refine Lw.callF rfl rfl (fillPlace_c A _ w3 A3 rfl) ?_
  rintro _ _ ⟨rfl, rfl⟩
  refine Lw.nil ?_
  refine Pw.thenN (Cw.out ?_)
  refine Cw.seq ?_
  refine Cw.region ?_
  refine Lw.val (Ex.move rfl) rfl ?_
  refine Lw.callF rfl rfl (fillAsk_c A _ w3 A3 rfl) ?_
  rintro _ _ ⟨rfl, rfl⟩
  refine Lw.nil ?_
  refine Pw.thenN (Cw.out ?_)
  refine Cw.seq ?_
  refine Cw.region ?_
  refine Lw.val (Ex.move rfl) rfl ?_
  refine Lw.callF rfl rfl (fillDone_c A _ w3 A3 rfl) ?_
  rintro _ _ ⟨rfl, rfl⟩
  refine Lw.nil ?_
  refine Pw.thenN (Cw.out ?_)
  refine Cw.seq ?_
  refine Cw.region ?_
  refine Lw.val (Ex.move rfl) rfl ?_
  refine Lw.callF rfl rfl (fillGrid_c A _ w3 A3 rfl) ?_
  rintro _ _ ⟨rfl, rfl⟩
  refine Lw.nil ?_
  refine Pw.thenN (Cw.out ?_)
  refine Cw.seq ?_
  refine Cw.region ?_
  refine Lw.val (Ex.move rfl) rfl ?_
  refine Lw.callF rfl rfl (fillList_c A _ w3 A3 rfl) ?_
  rintro _ _ ⟨rfl, rfl⟩
  have z3 : w.heap.size ≤ w3.heap.size := Nat.le_trans (Nat.le_trans c1.size c2.size) c3.size
  have hlo3 := Nat.le_trans hlo z3
  refine Lw.nil ?_
  refine Pw.thenN (Cw.out ?_)
  refine Cw.seq ?_
  refine Cw.region ?_
  refine Lw.val (Ex.move rfl) rfl ?_
  refine Lw.callF rfl rfl (growByte_c A _ ub hb lo base w3 A3 rfl ob3 kb.toKOk ub3 (fun e => nA (lb _ e) rfl) (fun b e1 e2 => by have := fb b e1; have := lb b e2; omega) h.ab (by omega)) ?_
  rintro _ w4 ⟨rfl, c4, tb, gb, ob4, db4⟩
  have z4 := c4.size
  have A4 := A3.chg c4 (fun e => e.elim (fun e => nA (lb _ e) rfl) (fun e => h.ab e))
  have oi4 := own_chg oi3 c4 (fun b e1 e2 => e2.elim (fun e => by have := fi b e1; have := lb b e; omega) (fun e => h.bi.symm b e1 e))
  have ui4 := ui3.chg c4 (fun b e1 e2 => e2.elim (fun e => (fun c h1 h2 => xbi c h2 h1) b e1 e) (fun e => by have := fb b e; have := li b e1; omega))
  have on4 := own_chg on3 c4 (fun b e1 e2 => e2.elim (fun e => by have := fn b e1; have := lb b e; omega) (fun e => h.bn.symm b e1 e))
  have un4 := un3.chg c4 (fun b e1 e2 => e2.elim (fun e => (fun c h1 h2 => xbn c h2 h1) b e1 e) (fun e => by have := fb b e; have := ln b e1; omega))
  refine Lw.nil ?_
  refine Pw.thenN (Cw.out ?_)
  refine Cw.seq ?_
  refine Cw.region ?_
  refine Lw.val (Ex.move rfl) rfl ?_
  refine Lw.callF rfl rfl (growInt_c A _ ui hi lo base w4 A4 rfl oi4 ki.toKOk ui4 (fun e => nA (li _ e) rfl) (fun b e1 e2 => by have := fi b e1; have := li b e2; omega) h.ai (by omega)) ?_
  rintro _ w5 ⟨rfl, c5, ti, gi, oi5, di5⟩
  have z5 := c5.size
  have A5 := A4.chg c5 (fun e => e.elim (fun e => nA (li _ e) rfl) (fun e => h.ai e))
  have ob5 := own_chg ob4 c5 (fun b e1 e2 => e2.elim (fun e => by have := fb b e1; have := li b e; omega) (fun e => h.bi b e1 e))
  have db5 := gb.tall db4 c5 (fun b e1 e2 => e2.elim (fun e => xbi b e1 e) (fun e => by have := fi b e; have := lb b e1; omega)) (fun b e1 e2 => e2.elim (fun e => by have := li b e; have := h.size; omega) (fun e => by have := fi b e; omega))
  have on5 := own_chg on4 c5 (fun b e1 e2 => e2.elim (fun e => by have := fn b e1; have := li b e; omega) (fun e => h.nn.symm b e1 e))
  have un5 := un4.chg c5 (fun b e1 e2 => e2.elim (fun e => (fun c h1 h2 => xin c h2 h1) b e1 e) (fun e => by have := fi b e; have := ln b e1; omega))
  refine Lw.nil ?_
  refine Pw.thenN (Cw.out ?_)
  refine Cw.seq ?_
  refine Cw.region ?_
  refine Lw.val (Ex.move rfl) rfl ?_
  refine Lw.callF rfl rfl (growNumber_c A _ un hn lo base w5 A5 rfl on5 kn.toKOk un5 (fun e => nA (ln _ e) rfl) (fun b e1 e2 => by have := fn b e1; have := ln b e2; omega) h.an (by omega)) ?_
  rintro _ w6 ⟨rfl, c6, tn, gn, on6, dn6⟩
  have z6 := c6.size
  have A6 := A5.chg c6 (fun e => e.elim (fun e => nA (ln _ e) rfl) (fun e => h.an e))
  have ob6 := own_chg ob5 c6 (fun b e1 e2 => e2.elim (fun e => by have := fb b e1; have := ln b e; omega) (fun e => h.bn b e1 e))
  have db6 := gb.tall db5 c6 (fun b e1 e2 => e2.elim (fun e => xbn b e1 e) (fun e => by have := fn b e; have := lb b e1; omega)) (fun b e1 e2 => e2.elim (fun e => by have := ln b e; have := h.size; omega) (fun e => by have := fn b e; omega))
  have oi6 := own_chg oi5 c6 (fun b e1 e2 => e2.elim (fun e => by have := fi b e1; have := ln b e; omega) (fun e => h.nn b e1 e))
  have di6 := gi.tall di5 c6 (fun b e1 e2 => e2.elim (fun e => xin b e1 e) (fun e => by have := fn b e; have := li b e1; omega)) (fun b e1 e2 => e2.elim (fun e => by have := ln b e; have := h.size; omega) (fun e => by have := fn b e; omega))
  refine Lw.nil ?_
  refine Pw.thenN (Cw.out ?_)
  refine Cw.seq ?_
  refine Cw.region ?_
  refine Lw.val (Ex.move rfl) rfl ?_
  refine Lw.callF rfl rfl (growId_c A _ w6 A6 rfl) ?_
  rintro _ _ ⟨rfl, rfl⟩
  refine Lw.nil ?_
  refine Pw.thenN (Cw.out ?_)
  refine Cw.seq ?_
  refine Cw.region ?_
  refine Lw.val (Ex.move rfl) rfl ?_
  refine Lw.callF rfl rfl (growText_c A _ w6 A6 rfl) ?_
  rintro _ _ ⟨rfl, rfl⟩
  refine Lw.nil ?_
  refine Pw.thenN (Cw.out ?_)
  refine Cw.seq ?_
  refine Cw.region ?_
  refine Lw.val (Ex.move rfl) rfl ?_
  refine Lw.callF rfl rfl (growTensor_c A _ w6 A6 rfl) ?_
  rintro _ _ ⟨rfl, rfl⟩
  refine Lw.nil ?_
  refine Pw.thenN (Cw.out ?_)
  refine Cw.seq ?_
  refine Cw.region ?_
  refine Lw.val (Ex.move rfl) rfl ?_
  refine Lw.callF rfl rfl (growNode_c A _ w6 A6 rfl) ?_
  rintro _ _ ⟨rfl, rfl⟩
  refine Lw.nil ?_
  refine Pw.thenN (Cw.out ?_)
  refine Cw.seq ?_
  refine Cw.region ?_
  refine Lw.val (Ex.move rfl) rfl ?_
  refine Lw.callF rfl rfl (growStep_c A _ w6 A6 rfl) ?_
  rintro _ _ ⟨rfl, rfl⟩
  refine Lw.nil ?_
  refine Pw.thenN (Cw.out ?_)
  refine Cw.seq ?_
  refine Cw.region ?_
  refine Lw.val (Ex.move rfl) rfl ?_
  refine Lw.callF rfl rfl (growCost_c A _ w6 A6 rfl) ?_
  rintro _ _ ⟨rfl, rfl⟩
  refine Lw.nil ?_
  refine Pw.thenN (Cw.out ?_)
  refine Cw.seq ?_
  refine Cw.region ?_
  refine Lw.val (Ex.move rfl) rfl ?_
  refine Lw.callF rfl rfl (growRecord_c A _ w6 A6 rfl) ?_
  rintro _ _ ⟨rfl, rfl⟩
  refine Lw.nil ?_
  refine Pw.thenN (Cw.out ?_)
  refine Cw.seq ?_
  refine Cw.region ?_
  refine Lw.val (Ex.move rfl) rfl ?_
  refine Lw.callF rfl rfl (growPlace_c A _ w6 A6 rfl) ?_
  rintro _ _ ⟨rfl, rfl⟩
  refine Lw.nil ?_
  refine Pw.thenN (Cw.out ?_)
  refine Cw.seq ?_
  refine Cw.region ?_
  refine Lw.val (Ex.move rfl) rfl ?_
  refine Lw.callF rfl rfl (growAsk_c A _ w6 A6 rfl) ?_
  rintro _ _ ⟨rfl, rfl⟩
  refine Lw.nil ?_
  refine Pw.thenN (Cw.out ?_)
  refine Cw.seq ?_
  refine Cw.region ?_
  refine Lw.val (Ex.move rfl) rfl ?_
  refine Lw.callF rfl rfl (growDone_c A _ w6 A6 rfl) ?_
  rintro _ _ ⟨rfl, rfl⟩
  refine Lw.nil ?_
  refine Pw.thenN (Cw.out ?_)
  refine Cw.seq ?_
  refine Cw.region ?_
  refine Lw.val (Ex.move rfl) rfl ?_
  refine Lw.callF rfl rfl (growGrid_c A _ w6 A6 rfl) ?_
  rintro _ _ ⟨rfl, rfl⟩
  refine Lw.nil ?_
  refine Pw.thenN (Cw.out ?_)
  refine Cw.seq ?_
  refine Cw.region ?_
  refine Lw.val (Ex.move rfl) rfl ?_
  refine Lw.callF rfl rfl (growList_c A _ w6 A6 rfl) ?_
  rintro _ _ ⟨rfl, rfl⟩
  have bel : Below base w w6 := by
    have z1 := c1.size
    have z2 := c2.size
    have e1 : ∀ {S : Nat → Prop} {a b : World}, Chg S a b → (∀ k, S k → base ≤ k) → base ≤ a.heap.size → Below base a b := fun c h1 h2 => c.to_below h1 h2
    have q1 := e1 c1 (fun k e => by obtain ⟨x, hx, e⟩ := e; exact ((kb.own x hx).lt k e).1) (by omega)
    have q2 := e1 c2 (fun k e => by obtain ⟨x, hx, e⟩ := e; exact ((ki.own x hx).lt k e).1) (by omega)
    have q3 := e1 c3 (fun k e => by obtain ⟨x, hx, e⟩ := e; exact ((kn.own x hx).lt k e).1) (by omega)
    have q4 := e1 c4 (fun k e => e.elim (fun e => by obtain ⟨x, hx, e⟩ := e; exact ((kb.own x hx).lt k e).1) (fun e => by have := fb k e; omega)) (by omega)
    have q5 := e1 c5 (fun k e => e.elim (fun e => by obtain ⟨x, hx, e⟩ := e; exact ((ki.own x hx).lt k e).1) (fun e => by have := fi k e; omega)) (by omega)
    have q6 := e1 c6 (fun k e => e.elim (fun e => by obtain ⟨x, hx, e⟩ := e; exact ((kn.own x hx).lt k e).1) (fun e => by have := fn k e; omega)) (by omega)
    exact ((((q1.trans q2).trans q3).trans q4).trans q5).trans q6
  refine Lw.nil ?_
  refine Pw.thenN (Cw.out ?_)
  refine Cw.seq ?_
  refine Cw.region ?_
  refine Lw.val (Ex.move rfl) rfl ?_
  refine Lw.callF rfl rfl (lookByte_c A _ ub tb lo w6 A6 rfl (by rw [gb.len]; exact ob6) db6 (gb.nums kb.toKOk)) ?_
  rintro _ w7 ⟨rfl, b7⟩
  have A7 := A6.bs b7
  have ob7 := own_bs ob6 b7
  have oi7 := own_bs oi6 b7
  have on7 := own_bs on6 b7
  have db7 : ∀ t ∈ tb, Tall w7 mkByte t := fun t ht => (db6 t ht).bs b7
  have di7 : ∀ t ∈ ti, Tall w7 mkInt t := fun t ht => (di6 t ht).bs b7
  have dn7 : ∀ t ∈ tn, Tall w7 mkNumber t := fun t ht => (dn6 t ht).bs b7
  refine Lw.val (Ex.move rfl) rfl ?_
  refine Lw.know 65 (v' := .bool true) rfl (congrArg Value.bool (rfl)) ?_
  refine Lw.take (dj := 65) rfl rfl ?_
  refine Lw.val (Ex.move rfl) rfl ?_
  refine Lw.take (dj := 65) rfl rfl ?_
  refine Lw.callF rfl rfl (lookInt_c A _ ui ti lo w7 A7 rfl (by rw [gi.len]; exact oi7) di7 (gi.nums ki.toKOk)) ?_
  rintro _ w8 ⟨rfl, b8⟩
  have A8 := A7.bs b8
  have ob8 := own_bs ob7 b8
  have oi8 := own_bs oi7 b8
  have on8 := own_bs on7 b8
  have db8 : ∀ t ∈ tb, Tall w8 mkByte t := fun t ht => (db7 t ht).bs b8
  have di8 : ∀ t ∈ ti, Tall w8 mkInt t := fun t ht => (di7 t ht).bs b8
  have dn8 : ∀ t ∈ tn, Tall w8 mkNumber t := fun t ht => (dn7 t ht).bs b8
  refine Lw.val (Ex.pickT rfl rfl) rfl ?_
  refine Lw.val (Ex.move rfl) rfl ?_
  refine Lw.know 69 (v' := .bool true) rfl (congrArg Value.bool (rfl)) ?_
  refine Lw.take (dj := 69) rfl rfl ?_
  refine Lw.val (Ex.move rfl) rfl ?_
  refine Lw.take (dj := 69) rfl rfl ?_
  refine Lw.callF rfl rfl (lookNumber_c A _ un tn lo w8 A8 rfl (by rw [gn.len]; exact on8) dn8 (gn.nums kn.toKOk)) ?_
  rintro _ w9 ⟨rfl, b9⟩
  have A9 := A8.bs b9
  have ob9 := own_bs ob8 b9
  have oi9 := own_bs oi8 b9
  have on9 := own_bs on8 b9
  have db9 : ∀ t ∈ tb, Tall w9 mkByte t := fun t ht => (db8 t ht).bs b9
  have di9 : ∀ t ∈ ti, Tall w9 mkInt t := fun t ht => (di8 t ht).bs b9
  have dn9 : ∀ t ∈ tn, Tall w9 mkNumber t := fun t ht => (dn8 t ht).bs b9
  refine Lw.val (Ex.pickT rfl rfl) rfl ?_
  refine Lw.val (Ex.move rfl) rfl ?_
  refine Lw.know 73 (v' := .bool true) rfl (congrArg Value.bool (rfl)) ?_
  refine Lw.take (dj := 73) rfl rfl ?_
  refine Lw.val (Ex.move rfl) rfl ?_
  refine Lw.take (dj := 73) rfl rfl ?_
  refine Lw.callF rfl rfl (lookId_c A _ w9 A9 rfl) ?_
  rintro _ _ ⟨rfl, rfl⟩
  refine Lw.val (Ex.pickT rfl rfl) rfl ?_
  refine Lw.val (Ex.move rfl) rfl ?_
  refine Lw.know 77 (v' := .bool true) rfl (congrArg Value.bool (rfl)) ?_
  refine Lw.take (dj := 77) rfl rfl ?_
  refine Lw.val (Ex.move rfl) rfl ?_
  refine Lw.take (dj := 77) rfl rfl ?_
  refine Lw.callF rfl rfl (lookText_c A _ w9 A9 rfl) ?_
  rintro _ _ ⟨rfl, rfl⟩
  refine Lw.val (Ex.pickT rfl rfl) rfl ?_
  refine Lw.val (Ex.move rfl) rfl ?_
  refine Lw.know 81 (v' := .bool true) rfl (congrArg Value.bool (rfl)) ?_
  refine Lw.take (dj := 81) rfl rfl ?_
  refine Lw.val (Ex.move rfl) rfl ?_
  refine Lw.take (dj := 81) rfl rfl ?_
  refine Lw.callF rfl rfl (lookTensor_c A _ w9 A9 rfl) ?_
  rintro _ _ ⟨rfl, rfl⟩
  refine Lw.val (Ex.pickT rfl rfl) rfl ?_
  refine Lw.val (Ex.move rfl) rfl ?_
  refine Lw.know 85 (v' := .bool true) rfl (congrArg Value.bool (rfl)) ?_
  refine Lw.take (dj := 85) rfl rfl ?_
  refine Lw.val (Ex.move rfl) rfl ?_
  refine Lw.take (dj := 85) rfl rfl ?_
  refine Lw.callF rfl rfl (lookNode_c A _ w9 A9 rfl) ?_
  rintro _ _ ⟨rfl, rfl⟩
  refine Lw.val (Ex.pickT rfl rfl) rfl ?_
  refine Lw.val (Ex.move rfl) rfl ?_
  refine Lw.know 89 (v' := .bool true) rfl (congrArg Value.bool (rfl)) ?_
  refine Lw.take (dj := 89) rfl rfl ?_
  refine Lw.val (Ex.move rfl) rfl ?_
  refine Lw.take (dj := 89) rfl rfl ?_
  refine Lw.callF rfl rfl (lookStep_c A _ w9 A9 rfl) ?_
  rintro _ _ ⟨rfl, rfl⟩
  refine Lw.val (Ex.pickT rfl rfl) rfl ?_
  refine Lw.val (Ex.move rfl) rfl ?_
  refine Lw.know 93 (v' := .bool true) rfl (congrArg Value.bool (rfl)) ?_
  refine Lw.take (dj := 93) rfl rfl ?_
  refine Lw.val (Ex.move rfl) rfl ?_
  refine Lw.take (dj := 93) rfl rfl ?_
  refine Lw.callF rfl rfl (lookCost_c A _ w9 A9 rfl) ?_
  rintro _ _ ⟨rfl, rfl⟩
  refine Lw.val (Ex.pickT rfl rfl) rfl ?_
  refine Lw.val (Ex.move rfl) rfl ?_
  refine Lw.know 97 (v' := .bool true) rfl (congrArg Value.bool (rfl)) ?_
  refine Lw.take (dj := 97) rfl rfl ?_
  refine Lw.val (Ex.move rfl) rfl ?_
  refine Lw.take (dj := 97) rfl rfl ?_
  refine Lw.callF rfl rfl (lookRecord_c A _ w9 A9 rfl) ?_
  rintro _ _ ⟨rfl, rfl⟩
  refine Lw.val (Ex.pickT rfl rfl) rfl ?_
  refine Lw.val (Ex.move rfl) rfl ?_
  refine Lw.know 101 (v' := .bool true) rfl (congrArg Value.bool (rfl)) ?_
  refine Lw.take (dj := 101) rfl rfl ?_
  refine Lw.val (Ex.move rfl) rfl ?_
  refine Lw.take (dj := 101) rfl rfl ?_
  refine Lw.callF rfl rfl (lookPlace_c A _ w9 A9 rfl) ?_
  rintro _ _ ⟨rfl, rfl⟩
  refine Lw.val (Ex.pickT rfl rfl) rfl ?_
  refine Lw.val (Ex.move rfl) rfl ?_
  refine Lw.know 105 (v' := .bool true) rfl (congrArg Value.bool (rfl)) ?_
  refine Lw.take (dj := 105) rfl rfl ?_
  refine Lw.val (Ex.move rfl) rfl ?_
  refine Lw.take (dj := 105) rfl rfl ?_
  refine Lw.callF rfl rfl (lookAsk_c A _ w9 A9 rfl) ?_
  rintro _ _ ⟨rfl, rfl⟩
  refine Lw.val (Ex.pickT rfl rfl) rfl ?_
  refine Lw.val (Ex.move rfl) rfl ?_
  refine Lw.know 109 (v' := .bool true) rfl (congrArg Value.bool (rfl)) ?_
  refine Lw.take (dj := 109) rfl rfl ?_
  refine Lw.val (Ex.move rfl) rfl ?_
  refine Lw.take (dj := 109) rfl rfl ?_
  refine Lw.callF rfl rfl (lookDone_c A _ w9 A9 rfl) ?_
  rintro _ _ ⟨rfl, rfl⟩
  refine Lw.val (Ex.pickT rfl rfl) rfl ?_
  refine Lw.val (Ex.move rfl) rfl ?_
  refine Lw.know 113 (v' := .bool true) rfl (congrArg Value.bool (rfl)) ?_
  refine Lw.take (dj := 113) rfl rfl ?_
  refine Lw.val (Ex.move rfl) rfl ?_
  refine Lw.take (dj := 113) rfl rfl ?_
  refine Lw.callF rfl rfl (lookGrid_c A _ w9 A9 rfl) ?_
  rintro _ _ ⟨rfl, rfl⟩
  refine Lw.val (Ex.pickT rfl rfl) rfl ?_
  refine Lw.val (Ex.move rfl) rfl ?_
  refine Lw.know 117 (v' := .bool true) rfl (congrArg Value.bool (rfl)) ?_
  refine Lw.take (dj := 117) rfl rfl ?_
  refine Lw.val (Ex.move rfl) rfl ?_
  refine Lw.take (dj := 117) rfl rfl ?_
  refine Lw.callF rfl rfl (lookList_c A _ w9 A9 rfl) ?_
  rintro _ _ ⟨rfl, rfl⟩
  refine Lw.val (Ex.pickT rfl rfl) rfl ?_
  refine Lw.val (Ex.assign rfl) rfl ?_
  refine Lw.nil ?_
  refine Pw.thenN (Cw.out ?_)
  refine Cw.ret ?_
  refine Pw.ret1 rfl rfl ?_
  have bel2 := bt b7 (bt b8 b9)
  exact ⟨rfl, bel.trans (bel2.mono (by omega))⟩
end Go.Proofs.YtkhndfaampkbnaaGreatDoor
