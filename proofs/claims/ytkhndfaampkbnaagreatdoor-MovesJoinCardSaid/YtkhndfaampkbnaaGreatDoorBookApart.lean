/- Whether all that a book keeps is apart: bytes, ints, numbers, tensors, nodes. Printed by a program of ours. -/
import Derived.Test.YtkhndfaampkbnaaGreatDoorBookFive
namespace Go.Proofs.YtkhndfaampkbnaaGreatDoor
open Go Go.Dd Go.RowKit
set_option maxRecDepth 100000

theorem apart_m (w : World) (lo A base : Nat) (n : Int) (hb hi hn ht hd : List Hd) (ub ui un ut ud : Value) (h : Bm w lo A n hb hi hn ht hd ub ui un ut ud) (kb : Kept w base 5 1 hb) (ki : Kept w base 3 1 hi) (kn : Kept w base 21 1 hn) (kt : Kept w base 29 2 ht) (kd : Kept w base 121 5 hd)
    (lb : ∀ b, blks hb b → b < lo) (li : ∀ b, blks hi b → b < lo) (ln : ∀ b, blks hn b → b < lo) (lt : ∀ b, blks ht b → b < lo) (ld : ∀ b, blks hd b → b < lo) (xbi : ∀ b, blks hb b → ¬ blks hi b) (xbn : ∀ b, blks hb b → ¬ blks hn b) (xbt : ∀ b, blks hb b → ¬ blks ht b) (xbd : ∀ b, blks hb b → ¬ blks hd b) (xin : ∀ b, blks hi b → ¬ blks hn b) (xit : ∀ b, blks hi b → ¬ blks ht b) (xid : ∀ b, blks hi b → ¬ blks hd b) (xnt : ∀ b, blks hn b → ¬ blks ht b) (xnd : ∀ b, blks hn b → ¬ blks hd b) (xtd : ∀ b, blks ht b → ¬ blks hd b) (hbl : base ≤ lo) :
    Fnc Tryz.prog 14 [.pointer (some ⟨A, 0, none⟩)] w (fun r w' => r = .bool true ∧ Below base w w') := by
  have nA : ∀ {b}, b < lo → b ≠ A := fun h1 h2 => by have := h.loA; omega
  have hlo : base ≤ w.heap.size := Nat.le_trans hbl (Nat.le_of_lt h.size)
  have hls := h.size
  obtain ⟨B, hB⟩ : ∃ B, B = w.heap.size := ⟨_, rfl⟩
  have fb : ∀ b, ub.ownBlock = some b → lo ≤ b ∧ b < w.heap.size := own_block h.ob
  have fi : ∀ b, ui.ownBlock = some b → lo ≤ b ∧ b < w.heap.size := own_block h.oi
  have fn : ∀ b, un.ownBlock = some b → lo ≤ b ∧ b < w.heap.size := own_block h.on
  have ft : ∀ b, ut.ownBlock = some b → lo ≤ b ∧ b < w.heap.size := own_block h.ot
  have fd : ∀ b, ud.ownBlock = some b → lo ≤ b ∧ b < w.heap.size := own_block h.od
  have vb : ∀ b, blks hb b → b < B := fun b e => by have := lb b e; omega
  have vi : ∀ b, blks hi b → b < B := fun b e => by have := li b e; omega
  have vn : ∀ b, blks hn b → b < B := fun b e => by have := ln b e; omega
  have vt : ∀ b, blks ht b → b < B := fun b e => by have := lt b e; omega
  have vd : ∀ b, blks hd b → b < B := fun b e => by have := ld b e; omega
  refine Fnc.enter (n := 121) Tryz.func14 (by kernel_rfl) rfl rfl rfl ?_
  refine Cw.seq ?_
  refine Cw.region ?_
  refine Lw.val (Ex.assign rfl) rfl ?_
  refine Lw.nil ?_
  refine Pw.thenN (Cw.out ?_)
  refine Cw.seq ?_
  refine Cw.region ?_
  refine Lw.val (Ex.move rfl) rfl ?_
  refine Lw.callF rfl rfl (fillByte_c A _ ub hb lo base w (h.box) rfl (h.ob) kb (fun e => nA (lb _ e) rfl) (fun b e1 e2 => by have := fb b e1; have := lb b e2; omega)) ?_
  rintro _ w1 ⟨rfl, c1, gb1⟩
  have z1 := c1.size
  have A1 := Blk.chg (h.box) c1 (fun e => nA (lb _ e) rfl)
  have ob1 := own_chg (h.ob) c1 (fun b e1 e2 => by have := fb b e1; have := lb b e2; omega)
  have oi1 := own_chg (h.oi) c1 (fun b e1 e2 => by have := fi b e1; have := lb b e2; omega)
  have on1 := own_chg (h.on) c1 (fun b e1 e2 => by have := fn b e1; have := lb b e2; omega)
  have ot1 := own_chg (h.ot) c1 (fun b e1 e2 => by have := ft b e1; have := lb b e2; omega)
  have od1 := own_chg (h.od) c1 (fun b e1 e2 => by have := fd b e1; have := lb b e2; omega)
  have ki1 := Kept.chg (ki) c1 (fun c h1 h2 => xbi c h2 h1)
  have kn1 := Kept.chg (kn) c1 (fun c h1 h2 => xbn c h2 h1)
  have kt1 := Kept.chg (kt) c1 (fun c h1 h2 => xbt c h2 h1)
  have kd1 := Kept.chg (kd) c1 (fun c h1 h2 => xbd c h2 h1)
  refine Lw.nil ?_
  refine Pw.thenN (Cw.out ?_)
  refine Cw.seq ?_
  refine Cw.region ?_
  refine Lw.val (Ex.move rfl) rfl ?_
  refine Lw.callF rfl rfl (fillInt_c A _ ui hi lo base w1 (A1) rfl (oi1) ki1 (fun e => nA (li _ e) rfl) (fun b e1 e2 => by have := fi b e1; have := li b e2; omega)) ?_
  rintro _ w2 ⟨rfl, c2, gi2⟩
  have z2 := c2.size
  have A2 := Blk.chg (A1) c2 (fun e => nA (li _ e) rfl)
  have ob2 := own_chg (ob1) c2 (fun b e1 e2 => by have := fb b e1; have := li b e2; omega)
  have oi2 := own_chg (oi1) c2 (fun b e1 e2 => by have := fi b e1; have := li b e2; omega)
  have on2 := own_chg (on1) c2 (fun b e1 e2 => by have := fn b e1; have := li b e2; omega)
  have ot2 := own_chg (ot1) c2 (fun b e1 e2 => by have := ft b e1; have := li b e2; omega)
  have od2 := own_chg (od1) c2 (fun b e1 e2 => by have := fd b e1; have := li b e2; omega)
  have gb2 := Full.chg gb1 c2 xbi
  have kn2 := Kept.chg (kn1) c2 (fun c h1 h2 => xin c h2 h1)
  have kt2 := Kept.chg (kt1) c2 (fun c h1 h2 => xit c h2 h1)
  have kd2 := Kept.chg (kd1) c2 (fun c h1 h2 => xid c h2 h1)
  refine Lw.nil ?_
  refine Pw.thenN (Cw.out ?_)
  refine Cw.seq ?_
  refine Cw.region ?_
  refine Lw.val (Ex.move rfl) rfl ?_
  refine Lw.callF rfl rfl (fillNumber_c A _ un hn lo base w2 (A2) rfl (on2) kn2 (fun e => nA (ln _ e) rfl) (fun b e1 e2 => by have := fn b e1; have := ln b e2; omega)) ?_
  rintro _ w3 ⟨rfl, c3, gn3⟩
  have z3 := c3.size
  have A3 := Blk.chg (A2) c3 (fun e => nA (ln _ e) rfl)
  have ob3 := own_chg (ob2) c3 (fun b e1 e2 => by have := fb b e1; have := ln b e2; omega)
  have oi3 := own_chg (oi2) c3 (fun b e1 e2 => by have := fi b e1; have := ln b e2; omega)
  have on3 := own_chg (on2) c3 (fun b e1 e2 => by have := fn b e1; have := ln b e2; omega)
  have ot3 := own_chg (ot2) c3 (fun b e1 e2 => by have := ft b e1; have := ln b e2; omega)
  have od3 := own_chg (od2) c3 (fun b e1 e2 => by have := fd b e1; have := ln b e2; omega)
  have gb3 := Full.chg gb2 c3 xbn
  have gi3 := Full.chg gi2 c3 xin
  have kt3 := Kept.chg (kt2) c3 (fun c h1 h2 => xnt c h2 h1)
  have kd3 := Kept.chg (kd2) c3 (fun c h1 h2 => xnd c h2 h1)
  refine Lw.nil ?_
  refine Pw.thenN (Cw.out ?_)
  refine Cw.seq ?_
  refine Cw.region ?_
  refine Lw.val (Ex.move rfl) rfl ?_
  refine Lw.callF rfl rfl (fillId_c A _ w3 A3 rfl) ?_
  rintro _ _ ⟨rfl, rfl⟩
  refine Lw.nil ?_
  refine Pw.thenN (Cw.out ?_)
  refine Cw.seq ?_
  refine Cw.region ?_
  refine Lw.val (Ex.move rfl) rfl ?_
  refine Lw.callF rfl rfl (fillText_c A _ w3 A3 rfl) ?_
  rintro _ _ ⟨rfl, rfl⟩
  refine Lw.nil ?_
  refine Pw.thenN (Cw.out ?_)
  refine Cw.seq ?_
  refine Cw.region ?_
  refine Lw.val (Ex.move rfl) rfl ?_
  refine Lw.callF rfl rfl (fillTensor_m A _ ut ht lo base B w3 (A3) rfl (ot3) kt3 (fun e => nA (lt _ e) rfl) (fun b e1 e2 => by have := ft b e1; have := lt b e2; omega) (by omega) vt) ?_
  rintro _ w4 ⟨rfl, c4, gt4⟩
  have z4 := c4.size
  have A4 := Blk.chg (A3) c4 (fun e => nA (lt _ e) rfl)
  have ob4 := own_chg (ob3) c4 (fun b e1 e2 => by have := fb b e1; have := lt b e2; omega)
  have oi4 := own_chg (oi3) c4 (fun b e1 e2 => by have := fi b e1; have := lt b e2; omega)
  have on4 := own_chg (on3) c4 (fun b e1 e2 => by have := fn b e1; have := lt b e2; omega)
  have ot4 := own_chg (ot3) c4 (fun b e1 e2 => by have := ft b e1; have := lt b e2; omega)
  have od4 := own_chg (od3) c4 (fun b e1 e2 => by have := fd b e1; have := lt b e2; omega)
  have gb4 := Full.chg gb3 c4 xbt
  have gi4 := Full.chg gi3 c4 xit
  have gn4 := Full.chg gn3 c4 xnt
  have kd4 := Kept.chg (kd3) c4 (fun c h1 h2 => xtd c h2 h1)
  refine Lw.nil ?_
  refine Pw.thenN (Cw.out ?_)
  refine Cw.seq ?_
  refine Cw.region ?_
  refine Lw.val (Ex.move rfl) rfl ?_
  refine Lw.callF rfl rfl (fillNode_m A _ ud hd lo base B w4 (A4) rfl (od4) kd4 (fun e => nA (ld _ e) rfl) (fun b e1 e2 => by have := fd b e1; have := ld b e2; omega) (by omega) vd) ?_
  rintro _ w5 ⟨rfl, c5, gd5⟩
  have z5 := c5.size
  have A5 := Blk.chg (A4) c5 (fun e => nA (ld _ e) rfl)
  have ob5 := own_chg (ob4) c5 (fun b e1 e2 => by have := fb b e1; have := ld b e2; omega)
  have oi5 := own_chg (oi4) c5 (fun b e1 e2 => by have := fi b e1; have := ld b e2; omega)
  have on5 := own_chg (on4) c5 (fun b e1 e2 => by have := fn b e1; have := ld b e2; omega)
  have ot5 := own_chg (ot4) c5 (fun b e1 e2 => by have := ft b e1; have := ld b e2; omega)
  have od5 := own_chg (od4) c5 (fun b e1 e2 => by have := fd b e1; have := ld b e2; omega)
  have gb5 := Full.chg gb4 c5 xbd
  have gi5 := Full.chg gi4 c5 xid
  have gn5 := Full.chg gn4 c5 xnd
  have gt5 := FullN.chg gt4 (phT_stays B 3) c5 vd xtd
  refine Lw.nil ?_
  refine Pw.thenN (Cw.out ?_)
  refine Cw.seq ?_
  refine Cw.region ?_
  refine Lw.val (Ex.move rfl) rfl ?_
  refine Lw.callF rfl rfl (fillStep_c A _ w5 A5 rfl) ?_
  rintro _ _ ⟨rfl, rfl⟩
  refine Lw.nil ?_
  refine Pw.thenN (Cw.out ?_)
  refine Cw.seq ?_
  refine Cw.region ?_
  refine Lw.val (Ex.move rfl) rfl ?_
  refine Lw.callF rfl rfl (fillCost_c A _ w5 A5 rfl) ?_
  rintro _ _ ⟨rfl, rfl⟩
  refine Lw.nil ?_
  refine Pw.thenN (Cw.out ?_)
  refine Cw.seq ?_
  refine Cw.region ?_
  refine Lw.val (Ex.move rfl) rfl ?_
  refine Lw.callF rfl rfl (fillRecord_c A _ w5 A5 rfl) ?_
  rintro _ _ ⟨rfl, rfl⟩
  refine Lw.nil ?_
  refine Pw.thenN (Cw.out ?_)
  refine Cw.seq ?_
  refine Cw.region ?_
  refine Lw.val (Ex.move rfl) rfl ?_
  refine Lw.callF rfl rfl (fillPlace_c A _ w5 A5 rfl) ?_
  rintro _ _ ⟨rfl, rfl⟩
  refine Lw.nil ?_
  refine Pw.thenN (Cw.out ?_)
  refine Cw.seq ?_
  refine Cw.region ?_
  refine Lw.val (Ex.move rfl) rfl ?_
  refine Lw.callF rfl rfl (fillAsk_c A _ w5 A5 rfl) ?_
  rintro _ _ ⟨rfl, rfl⟩
  refine Lw.nil ?_
  refine Pw.thenN (Cw.out ?_)
  refine Cw.seq ?_
  refine Cw.region ?_
  refine Lw.val (Ex.move rfl) rfl ?_
  refine Lw.callF rfl rfl (fillDone_c A _ w5 A5 rfl) ?_
  rintro _ _ ⟨rfl, rfl⟩
  refine Lw.nil ?_
  refine Pw.thenN (Cw.out ?_)
  refine Cw.seq ?_
  refine Cw.region ?_
  refine Lw.val (Ex.move rfl) rfl ?_
  refine Lw.callF rfl rfl (fillGrid_c A _ w5 A5 rfl) ?_
  rintro _ _ ⟨rfl, rfl⟩
  refine Lw.nil ?_
  refine Pw.thenN (Cw.out ?_)
  refine Cw.seq ?_
  refine Cw.region ?_
  refine Lw.val (Ex.move rfl) rfl ?_
  refine Lw.callF rfl rfl (fillList_c A _ w5 A5 rfl) ?_
  rintro _ _ ⟨rfl, rfl⟩
  refine Lw.nil ?_
  refine Pw.thenN (Cw.out ?_)
  refine Cw.seq ?_
  refine Cw.region ?_
  refine Lw.val (Ex.move rfl) rfl ?_
  refine Lw.callF rfl rfl (growByte_c A _ ub hb lo base w5 A5 rfl (ob5) kb.toKOk gb5 (fun e => nA (lb _ e) rfl) (fun b e1 e2 => by have := fb b e1; have := lb b e2; omega) h.q_b (by omega)) ?_
  rintro _ w6 ⟨rfl, c6, tb, yb, ob6, db6⟩
  have z6 := c6.size
  have j6 : ∀ b, (blks hb b ∨ ub.ownBlock = some b) → b < B := fun b e => e.elim (vb b) (fun e => by have := fb b e; omega)
  have A6 := A5.chg c6 (fun e => e.elim (fun e => nA (lb _ e) rfl) (fun e => h.q_b e))
  have oi6 := own_chg (oi5) c6 (fun b e1 e2 => e2.elim (fun e => by have := fi b e1; have := lb b e; omega) (fun e => h.p_bi.symm b e1 e))
  have gi6 := Full.chg gi5 c6 (fun b e1 e2 => e2.elim (fun e => (fun c h1 h2 => xbi c h2 h1) b e1 e) (fun e => by have := fb b e; have := li b e1; omega))
  have on6 := own_chg (on5) c6 (fun b e1 e2 => e2.elim (fun e => by have := fn b e1; have := lb b e; omega) (fun e => h.p_bn.symm b e1 e))
  have gn6 := Full.chg gn5 c6 (fun b e1 e2 => e2.elim (fun e => (fun c h1 h2 => xbn c h2 h1) b e1 e) (fun e => by have := fb b e; have := ln b e1; omega))
  have ot6 := own_chg (ot5) c6 (fun b e1 e2 => e2.elim (fun e => by have := ft b e1; have := lb b e; omega) (fun e => h.p_bt.symm b e1 e))
  have gt6 := FullN.chg gt5 (phT_stays B 3) c6 j6 (fun b e1 e2 => e2.elim (fun e => (fun c h1 h2 => xbt c h2 h1) b e1 e) (fun e => by have := fb b e; have := lt b e1; omega))
  have od6 := own_chg (od5) c6 (fun b e1 e2 => e2.elim (fun e => by have := fd b e1; have := lb b e; omega) (fun e => h.p_bd.symm b e1 e))
  have gd6 := FullN.chg gd5 (phN_stays B 3) c6 j6 (fun b e1 e2 => e2.elim (fun e => (fun c h1 h2 => xbd c h2 h1) b e1 e) (fun e => by have := fb b e; have := ld b e1; omega))
  refine Lw.nil ?_
  refine Pw.thenN (Cw.out ?_)
  refine Cw.seq ?_
  refine Cw.region ?_
  refine Lw.val (Ex.move rfl) rfl ?_
  refine Lw.callF rfl rfl (growInt_c A _ ui hi lo base w6 A6 rfl (oi6) ki.toKOk gi6 (fun e => nA (li _ e) rfl) (fun b e1 e2 => by have := fi b e1; have := li b e2; omega) h.q_i (by omega)) ?_
  rintro _ w7 ⟨rfl, c7, ti, yi, oi7, di7⟩
  have z7 := c7.size
  have j7 : ∀ b, (blks hi b ∨ ui.ownBlock = some b) → b < B := fun b e => e.elim (vi b) (fun e => by have := fi b e; omega)
  have A7 := A6.chg c7 (fun e => e.elim (fun e => nA (li _ e) rfl) (fun e => h.q_i e))
  have ob7 := own_chg (ob6) c7 (fun b e1 e2 => e2.elim (fun e => by have := fb b e1; have := li b e; omega) (fun e => h.p_bi b e1 e))
  have db7 := yb.tall db6 c7 (fun b e1 e2 => e2.elim (fun e => xbi b e1 e) (fun e => by have := fi b e; have := lb b e1; omega)) (fun b e1 e2 => by have := j7 b e2; omega)
  have on7 := own_chg (on6) c7 (fun b e1 e2 => e2.elim (fun e => by have := fn b e1; have := li b e; omega) (fun e => h.p_in.symm b e1 e))
  have gn7 := Full.chg gn6 c7 (fun b e1 e2 => e2.elim (fun e => (fun c h1 h2 => xin c h2 h1) b e1 e) (fun e => by have := fi b e; have := ln b e1; omega))
  have ot7 := own_chg (ot6) c7 (fun b e1 e2 => e2.elim (fun e => by have := ft b e1; have := li b e; omega) (fun e => h.p_it.symm b e1 e))
  have gt7 := FullN.chg gt6 (phT_stays B 3) c7 j7 (fun b e1 e2 => e2.elim (fun e => (fun c h1 h2 => xit c h2 h1) b e1 e) (fun e => by have := fi b e; have := lt b e1; omega))
  have od7 := own_chg (od6) c7 (fun b e1 e2 => e2.elim (fun e => by have := fd b e1; have := li b e; omega) (fun e => h.p_id.symm b e1 e))
  have gd7 := FullN.chg gd6 (phN_stays B 3) c7 j7 (fun b e1 e2 => e2.elim (fun e => (fun c h1 h2 => xid c h2 h1) b e1 e) (fun e => by have := fi b e; have := ld b e1; omega))
  refine Lw.nil ?_
  refine Pw.thenN (Cw.out ?_)
  refine Cw.seq ?_
  refine Cw.region ?_
  refine Lw.val (Ex.move rfl) rfl ?_
  refine Lw.callF rfl rfl (growNumber_c A _ un hn lo base w7 A7 rfl (on7) kn.toKOk gn7 (fun e => nA (ln _ e) rfl) (fun b e1 e2 => by have := fn b e1; have := ln b e2; omega) h.q_n (by omega)) ?_
  rintro _ w8 ⟨rfl, c8, tn, yn, on8, dn8⟩
  have z8 := c8.size
  have j8 : ∀ b, (blks hn b ∨ un.ownBlock = some b) → b < B := fun b e => e.elim (vn b) (fun e => by have := fn b e; omega)
  have A8 := A7.chg c8 (fun e => e.elim (fun e => nA (ln _ e) rfl) (fun e => h.q_n e))
  have ob8 := own_chg (ob7) c8 (fun b e1 e2 => e2.elim (fun e => by have := fb b e1; have := ln b e; omega) (fun e => h.p_bn b e1 e))
  have db8 := yb.tall db7 c8 (fun b e1 e2 => e2.elim (fun e => xbn b e1 e) (fun e => by have := fn b e; have := lb b e1; omega)) (fun b e1 e2 => by have := j8 b e2; omega)
  have oi8 := own_chg (oi7) c8 (fun b e1 e2 => e2.elim (fun e => by have := fi b e1; have := ln b e; omega) (fun e => h.p_in b e1 e))
  have di8 := yi.tall di7 c8 (fun b e1 e2 => e2.elim (fun e => xin b e1 e) (fun e => by have := fn b e; have := li b e1; omega)) (fun b e1 e2 => by have := j8 b e2; omega)
  have ot8 := own_chg (ot7) c8 (fun b e1 e2 => e2.elim (fun e => by have := ft b e1; have := ln b e; omega) (fun e => h.p_nt.symm b e1 e))
  have gt8 := FullN.chg gt7 (phT_stays B 3) c8 j8 (fun b e1 e2 => e2.elim (fun e => (fun c h1 h2 => xnt c h2 h1) b e1 e) (fun e => by have := fn b e; have := lt b e1; omega))
  have od8 := own_chg (od7) c8 (fun b e1 e2 => e2.elim (fun e => by have := fd b e1; have := ln b e; omega) (fun e => h.p_nd.symm b e1 e))
  have gd8 := FullN.chg gd7 (phN_stays B 3) c8 j8 (fun b e1 e2 => e2.elim (fun e => (fun c h1 h2 => xnd c h2 h1) b e1 e) (fun e => by have := fn b e; have := ld b e1; omega))
  refine Lw.nil ?_
  refine Pw.thenN (Cw.out ?_)
  refine Cw.seq ?_
  refine Cw.region ?_
  refine Lw.val (Ex.move rfl) rfl ?_
  refine Lw.callF rfl rfl (growId_c A _ w8 A8 rfl) ?_
  rintro _ _ ⟨rfl, rfl⟩
  refine Lw.nil ?_
  refine Pw.thenN (Cw.out ?_)
  refine Cw.seq ?_
  refine Cw.region ?_
  refine Lw.val (Ex.move rfl) rfl ?_
  refine Lw.callF rfl rfl (growText_c A _ w8 A8 rfl) ?_
  rintro _ _ ⟨rfl, rfl⟩
  refine Lw.nil ?_
  refine Pw.thenN (Cw.out ?_)
  refine Cw.seq ?_
  refine Cw.region ?_
  refine Lw.val (Ex.move rfl) rfl ?_
  refine Lw.callF rfl rfl (growTensor_m A _ ut ht lo base B w8 A8 rfl (ot8) kt.toKOk gt8 (fun e => nA (lt _ e) rfl) (fun b e1 e2 => by have := ft b e1; have := lt b e2; omega) h.q_t (by omega) (by omega) vt (fun b e => by have := ft b e; omega)) ?_
  rintro _ w9 ⟨rfl, c9, tt, yt, ot9, dt9⟩
  have z9 := c9.size
  have j9 : ∀ b, (blks ht b ∨ ut.ownBlock = some b) → b < B := fun b e => e.elim (vt b) (fun e => by have := ft b e; omega)
  have A9 := A8.chg c9 (fun e => e.elim (fun e => nA (lt _ e) rfl) (fun e => h.q_t e))
  have ob9 := own_chg (ob8) c9 (fun b e1 e2 => e2.elim (fun e => by have := fb b e1; have := lt b e; omega) (fun e => h.p_bt b e1 e))
  have db9 := yb.tall db8 c9 (fun b e1 e2 => e2.elim (fun e => xbt b e1 e) (fun e => by have := ft b e; have := lb b e1; omega)) (fun b e1 e2 => by have := j9 b e2; omega)
  have oi9 := own_chg (oi8) c9 (fun b e1 e2 => e2.elim (fun e => by have := fi b e1; have := lt b e; omega) (fun e => h.p_it b e1 e))
  have di9 := yi.tall di8 c9 (fun b e1 e2 => e2.elim (fun e => xit b e1 e) (fun e => by have := ft b e; have := li b e1; omega)) (fun b e1 e2 => by have := j9 b e2; omega)
  have on9 := own_chg (on8) c9 (fun b e1 e2 => e2.elim (fun e => by have := fn b e1; have := lt b e; omega) (fun e => h.p_nt b e1 e))
  have dn9 := yn.tall dn8 c9 (fun b e1 e2 => e2.elim (fun e => xnt b e1 e) (fun e => by have := ft b e; have := ln b e1; omega)) (fun b e1 e2 => by have := j9 b e2; omega)
  have od9 := own_chg (od8) c9 (fun b e1 e2 => e2.elim (fun e => by have := fd b e1; have := lt b e; omega) (fun e => h.p_td.symm b e1 e))
  have gd9 := FullN.chg gd8 (phN_stays B 3) c9 j9 (fun b e1 e2 => e2.elim (fun e => (fun c h1 h2 => xtd c h2 h1) b e1 e) (fun e => by have := ft b e; have := ld b e1; omega))
  refine Lw.nil ?_
  refine Pw.thenN (Cw.out ?_)
  refine Cw.seq ?_
  refine Cw.region ?_
  refine Lw.val (Ex.move rfl) rfl ?_
  refine Lw.callF rfl rfl (growNode_m A _ ud hd lo base B w9 A9 rfl (od9) kd.toKOk gd9 (fun e => nA (ld _ e) rfl) (fun b e1 e2 => by have := fd b e1; have := ld b e2; omega) h.q_d (by omega) (by omega) vd (fun b e => by have := fd b e; omega)) ?_
  rintro _ w10 ⟨rfl, c10, td, yd, od10, dd10⟩
  have z10 := c10.size
  have j10 : ∀ b, (blks hd b ∨ ud.ownBlock = some b) → b < B := fun b e => e.elim (vd b) (fun e => by have := fd b e; omega)
  have A10 := A9.chg c10 (fun e => e.elim (fun e => nA (ld _ e) rfl) (fun e => h.q_d e))
  have ob10 := own_chg (ob9) c10 (fun b e1 e2 => e2.elim (fun e => by have := fb b e1; have := ld b e; omega) (fun e => h.p_bd b e1 e))
  have db10 := yb.tall db9 c10 (fun b e1 e2 => e2.elim (fun e => xbd b e1 e) (fun e => by have := fd b e; have := lb b e1; omega)) (fun b e1 e2 => by have := j10 b e2; omega)
  have oi10 := own_chg (oi9) c10 (fun b e1 e2 => e2.elim (fun e => by have := fi b e1; have := ld b e; omega) (fun e => h.p_id b e1 e))
  have di10 := yi.tall di9 c10 (fun b e1 e2 => e2.elim (fun e => xid b e1 e) (fun e => by have := fd b e; have := li b e1; omega)) (fun b e1 e2 => by have := j10 b e2; omega)
  have on10 := own_chg (on9) c10 (fun b e1 e2 => e2.elim (fun e => by have := fn b e1; have := ld b e; omega) (fun e => h.p_nd b e1 e))
  have dn10 := yn.tall dn9 c10 (fun b e1 e2 => e2.elim (fun e => xnd b e1 e) (fun e => by have := fd b e; have := ln b e1; omega)) (fun b e1 e2 => by have := j10 b e2; omega)
  have ot10 := own_chg (ot9) c10 (fun b e1 e2 => e2.elim (fun e => by have := ft b e1; have := ld b e; omega) (fun e => h.p_td b e1 e))
  have dt10 := yt.tallN (phT_stays B 3) dt9 c10 j10 (fun b e1 e2 => e2.elim (fun e => xtd b e1 e) (fun e => by have := fd b e; have := lt b e1; omega)) (fun b e1 e2 => by have := j10 b e2; omega)
  refine Lw.nil ?_
  refine Pw.thenN (Cw.out ?_)
  refine Cw.seq ?_
  refine Cw.region ?_
  refine Lw.val (Ex.move rfl) rfl ?_
  refine Lw.callF rfl rfl (growStep_c A _ w10 A10 rfl) ?_
  rintro _ _ ⟨rfl, rfl⟩
  refine Lw.nil ?_
  refine Pw.thenN (Cw.out ?_)
  refine Cw.seq ?_
  refine Cw.region ?_
  refine Lw.val (Ex.move rfl) rfl ?_
  refine Lw.callF rfl rfl (growCost_c A _ w10 A10 rfl) ?_
  rintro _ _ ⟨rfl, rfl⟩
  refine Lw.nil ?_
  refine Pw.thenN (Cw.out ?_)
  refine Cw.seq ?_
  refine Cw.region ?_
  refine Lw.val (Ex.move rfl) rfl ?_
  refine Lw.callF rfl rfl (growRecord_c A _ w10 A10 rfl) ?_
  rintro _ _ ⟨rfl, rfl⟩
  refine Lw.nil ?_
  refine Pw.thenN (Cw.out ?_)
  refine Cw.seq ?_
  refine Cw.region ?_
  refine Lw.val (Ex.move rfl) rfl ?_
  refine Lw.callF rfl rfl (growPlace_c A _ w10 A10 rfl) ?_
  rintro _ _ ⟨rfl, rfl⟩
  refine Lw.nil ?_
  refine Pw.thenN (Cw.out ?_)
  refine Cw.seq ?_
  refine Cw.region ?_
  refine Lw.val (Ex.move rfl) rfl ?_
  refine Lw.callF rfl rfl (growAsk_c A _ w10 A10 rfl) ?_
  rintro _ _ ⟨rfl, rfl⟩
  refine Lw.nil ?_
  refine Pw.thenN (Cw.out ?_)
  refine Cw.seq ?_
  refine Cw.region ?_
  refine Lw.val (Ex.move rfl) rfl ?_
  refine Lw.callF rfl rfl (growDone_c A _ w10 A10 rfl) ?_
  rintro _ _ ⟨rfl, rfl⟩
  refine Lw.nil ?_
  refine Pw.thenN (Cw.out ?_)
  refine Cw.seq ?_
  refine Cw.region ?_
  refine Lw.val (Ex.move rfl) rfl ?_
  refine Lw.callF rfl rfl (growGrid_c A _ w10 A10 rfl) ?_
  rintro _ _ ⟨rfl, rfl⟩
  refine Lw.nil ?_
  refine Pw.thenN (Cw.out ?_)
  refine Cw.seq ?_
  refine Cw.region ?_
  refine Lw.val (Ex.move rfl) rfl ?_
  refine Lw.callF rfl rfl (growList_c A _ w10 A10 rfl) ?_
  rintro _ _ ⟨rfl, rfl⟩
  have bel : Below base w w10 := by
    have e1 : ∀ {S : Nat → Prop} {a b : World}, Chg S a b → (∀ k, S k → base ≤ k) → base ≤ a.heap.size → Below base a b := fun c h1 h2 => c.to_below h1 h2
    have q1 := e1 c1 (fun k e => by obtain ⟨x, hx, e⟩ := e; exact ((kb.own x hx).lt k e).1) (by omega)
    have q2 := e1 c2 (fun k e => by obtain ⟨x, hx, e⟩ := e; exact ((ki.own x hx).lt k e).1) (by omega)
    have q3 := e1 c3 (fun k e => by obtain ⟨x, hx, e⟩ := e; exact ((kn.own x hx).lt k e).1) (by omega)
    have q4 := e1 c4 (fun k e => by obtain ⟨x, hx, e⟩ := e; exact ((kt.own x hx).lt k e).1) (by omega)
    have q5 := e1 c5 (fun k e => by obtain ⟨x, hx, e⟩ := e; exact ((kd.own x hx).lt k e).1) (by omega)
    have q6 := e1 c6 (fun k e => e.elim (fun e => by obtain ⟨x, hx, e⟩ := e; exact ((kb.own x hx).lt k e).1) (fun e => by have := fb k e; omega)) (by omega)
    have q7 := e1 c7 (fun k e => e.elim (fun e => by obtain ⟨x, hx, e⟩ := e; exact ((ki.own x hx).lt k e).1) (fun e => by have := fi k e; omega)) (by omega)
    have q8 := e1 c8 (fun k e => e.elim (fun e => by obtain ⟨x, hx, e⟩ := e; exact ((kn.own x hx).lt k e).1) (fun e => by have := fn k e; omega)) (by omega)
    have q9 := e1 c9 (fun k e => e.elim (fun e => by obtain ⟨x, hx, e⟩ := e; exact ((kt.own x hx).lt k e).1) (fun e => by have := ft k e; omega)) (by omega)
    have q10 := e1 c10 (fun k e => e.elim (fun e => by obtain ⟨x, hx, e⟩ := e; exact ((kd.own x hx).lt k e).1) (fun e => by have := fd k e; omega)) (by omega)
    exact (((((((((q1.trans q2).trans q3).trans q4).trans q5).trans q6).trans q7).trans q8).trans q9).trans q10)
  refine Lw.nil ?_
  refine Pw.thenN (Cw.out ?_)
  refine Cw.seq ?_
  refine Cw.region ?_
  refine Lw.val (Ex.move rfl) rfl ?_
  refine Lw.callF rfl rfl (lookByte_c A _ ub tb lo w10 A10 rfl (by rw [yb.len]; exact ob10) db10 (yb.nums kb.toKOk)) ?_
  rintro _ w11 ⟨rfl, b11⟩
  have A11 := A10.bs b11
  have ob11 := own_bs (ob10) b11
  have oi11 := own_bs (oi10) b11
  have on11 := own_bs (on10) b11
  have ot11 := own_bs (ot10) b11
  have od11 := own_bs (od10) b11
  have db11 : ∀ t ∈ tb, Tall w11 mkByte t := fun t ht => (db10 t ht).bs b11
  have di11 : ∀ t ∈ ti, Tall w11 mkInt t := fun t ht => (di10 t ht).bs b11
  have dn11 : ∀ t ∈ tn, Tall w11 mkNumber t := fun t ht => (dn10 t ht).bs b11
  have dt11 := fun t (ht : t ∈ tt) => (dt10 t ht).bs (phT_stays B 3) b11
  have dd11 := fun t (ht : t ∈ td) => (dd10 t ht).bs (phN_stays B 3) b11
  refine Lw.val (Ex.move rfl) rfl ?_
  refine Lw.know 65 (v' := .bool true) rfl (congrArg Value.bool (rfl)) ?_
  refine Lw.take (dj := 65) rfl rfl ?_
  refine Lw.val (Ex.move rfl) rfl ?_
  refine Lw.take (dj := 65) rfl rfl ?_
  refine Lw.callF rfl rfl (lookInt_c A _ ui ti lo w11 A11 rfl (by rw [yi.len]; exact oi11) di11 (yi.nums ki.toKOk)) ?_
  rintro _ w12 ⟨rfl, b12⟩
  have A12 := A11.bs b12
  have ob12 := own_bs (ob11) b12
  have oi12 := own_bs (oi11) b12
  have on12 := own_bs (on11) b12
  have ot12 := own_bs (ot11) b12
  have od12 := own_bs (od11) b12
  have db12 : ∀ t ∈ tb, Tall w12 mkByte t := fun t ht => (db11 t ht).bs b12
  have di12 : ∀ t ∈ ti, Tall w12 mkInt t := fun t ht => (di11 t ht).bs b12
  have dn12 : ∀ t ∈ tn, Tall w12 mkNumber t := fun t ht => (dn11 t ht).bs b12
  have dt12 := fun t (ht : t ∈ tt) => (dt11 t ht).bs (phT_stays B 3) b12
  have dd12 := fun t (ht : t ∈ td) => (dd11 t ht).bs (phN_stays B 3) b12
  refine Lw.val (Ex.pickT rfl rfl) rfl ?_
  refine Lw.val (Ex.move rfl) rfl ?_
  refine Lw.know 69 (v' := .bool true) rfl (congrArg Value.bool (rfl)) ?_
  refine Lw.take (dj := 69) rfl rfl ?_
  refine Lw.val (Ex.move rfl) rfl ?_
  refine Lw.take (dj := 69) rfl rfl ?_
  refine Lw.callF rfl rfl (lookNumber_c A _ un tn lo w12 A12 rfl (by rw [yn.len]; exact on12) dn12 (yn.nums kn.toKOk)) ?_
  rintro _ w13 ⟨rfl, b13⟩
  have A13 := A12.bs b13
  have ob13 := own_bs (ob12) b13
  have oi13 := own_bs (oi12) b13
  have on13 := own_bs (on12) b13
  have ot13 := own_bs (ot12) b13
  have od13 := own_bs (od12) b13
  have db13 : ∀ t ∈ tb, Tall w13 mkByte t := fun t ht => (db12 t ht).bs b13
  have di13 : ∀ t ∈ ti, Tall w13 mkInt t := fun t ht => (di12 t ht).bs b13
  have dn13 : ∀ t ∈ tn, Tall w13 mkNumber t := fun t ht => (dn12 t ht).bs b13
  have dt13 := fun t (ht : t ∈ tt) => (dt12 t ht).bs (phT_stays B 3) b13
  have dd13 := fun t (ht : t ∈ td) => (dd12 t ht).bs (phN_stays B 3) b13
  refine Lw.val (Ex.pickT rfl rfl) rfl ?_
  refine Lw.val (Ex.move rfl) rfl ?_
  refine Lw.know 73 (v' := .bool true) rfl (congrArg Value.bool (rfl)) ?_
  refine Lw.take (dj := 73) rfl rfl ?_
  refine Lw.val (Ex.move rfl) rfl ?_
  refine Lw.take (dj := 73) rfl rfl ?_
  refine Lw.callF rfl rfl (lookId_c A _ w13 A13 rfl) ?_
  rintro _ _ ⟨rfl, rfl⟩
  refine Lw.val (Ex.pickT rfl rfl) rfl ?_
  refine Lw.val (Ex.move rfl) rfl ?_
  refine Lw.know 77 (v' := .bool true) rfl (congrArg Value.bool (rfl)) ?_
  refine Lw.take (dj := 77) rfl rfl ?_
  refine Lw.val (Ex.move rfl) rfl ?_
  refine Lw.take (dj := 77) rfl rfl ?_
  refine Lw.callF rfl rfl (lookText_c A _ w13 A13 rfl) ?_
  rintro _ _ ⟨rfl, rfl⟩
  refine Lw.val (Ex.pickT rfl rfl) rfl ?_
  refine Lw.val (Ex.move rfl) rfl ?_
  refine Lw.know 81 (v' := .bool true) rfl (congrArg Value.bool (rfl)) ?_
  refine Lw.take (dj := 81) rfl rfl ?_
  refine Lw.val (Ex.move rfl) rfl ?_
  refine Lw.take (dj := 81) rfl rfl ?_
  refine Lw.callF rfl rfl (lookTensor_m A _ ut tt lo B w13 A13 rfl (by rw [yt.len]; exact ot13) dt13 (yt.nums kt.toKOk)) ?_
  rintro _ w14 ⟨rfl, b14⟩
  have A14 := A13.bs b14
  have ob14 := own_bs (ob13) b14
  have oi14 := own_bs (oi13) b14
  have on14 := own_bs (on13) b14
  have ot14 := own_bs (ot13) b14
  have od14 := own_bs (od13) b14
  have db14 : ∀ t ∈ tb, Tall w14 mkByte t := fun t ht => (db13 t ht).bs b14
  have di14 : ∀ t ∈ ti, Tall w14 mkInt t := fun t ht => (di13 t ht).bs b14
  have dn14 : ∀ t ∈ tn, Tall w14 mkNumber t := fun t ht => (dn13 t ht).bs b14
  have dt14 := fun t (ht : t ∈ tt) => (dt13 t ht).bs (phT_stays B 3) b14
  have dd14 := fun t (ht : t ∈ td) => (dd13 t ht).bs (phN_stays B 3) b14
  refine Lw.val (Ex.pickT rfl rfl) rfl ?_
  refine Lw.val (Ex.move rfl) rfl ?_
  refine Lw.know 85 (v' := .bool true) rfl (congrArg Value.bool (rfl)) ?_
  refine Lw.take (dj := 85) rfl rfl ?_
  refine Lw.val (Ex.move rfl) rfl ?_
  refine Lw.take (dj := 85) rfl rfl ?_
  refine Lw.callF rfl rfl (lookNode_m A _ ud td lo B w14 A14 rfl (by rw [yd.len]; exact od14) dd14 (yd.nums kd.toKOk)) ?_
  rintro _ w15 ⟨rfl, b15⟩
  have A15 := A14.bs b15
  have ob15 := own_bs (ob14) b15
  have oi15 := own_bs (oi14) b15
  have on15 := own_bs (on14) b15
  have ot15 := own_bs (ot14) b15
  have od15 := own_bs (od14) b15
  have db15 : ∀ t ∈ tb, Tall w15 mkByte t := fun t ht => (db14 t ht).bs b15
  have di15 : ∀ t ∈ ti, Tall w15 mkInt t := fun t ht => (di14 t ht).bs b15
  have dn15 : ∀ t ∈ tn, Tall w15 mkNumber t := fun t ht => (dn14 t ht).bs b15
  have dt15 := fun t (ht : t ∈ tt) => (dt14 t ht).bs (phT_stays B 3) b15
  have dd15 := fun t (ht : t ∈ td) => (dd14 t ht).bs (phN_stays B 3) b15
  refine Lw.val (Ex.pickT rfl rfl) rfl ?_
  refine Lw.val (Ex.move rfl) rfl ?_
  refine Lw.know 89 (v' := .bool true) rfl (congrArg Value.bool (rfl)) ?_
  refine Lw.take (dj := 89) rfl rfl ?_
  refine Lw.val (Ex.move rfl) rfl ?_
  refine Lw.take (dj := 89) rfl rfl ?_
  refine Lw.callF rfl rfl (lookStep_c A _ w15 A15 rfl) ?_
  rintro _ _ ⟨rfl, rfl⟩
  refine Lw.val (Ex.pickT rfl rfl) rfl ?_
  refine Lw.val (Ex.move rfl) rfl ?_
  refine Lw.know 93 (v' := .bool true) rfl (congrArg Value.bool (rfl)) ?_
  refine Lw.take (dj := 93) rfl rfl ?_
  refine Lw.val (Ex.move rfl) rfl ?_
  refine Lw.take (dj := 93) rfl rfl ?_
  refine Lw.callF rfl rfl (lookCost_c A _ w15 A15 rfl) ?_
  rintro _ _ ⟨rfl, rfl⟩
  refine Lw.val (Ex.pickT rfl rfl) rfl ?_
  refine Lw.val (Ex.move rfl) rfl ?_
  refine Lw.know 97 (v' := .bool true) rfl (congrArg Value.bool (rfl)) ?_
  refine Lw.take (dj := 97) rfl rfl ?_
  refine Lw.val (Ex.move rfl) rfl ?_
  refine Lw.take (dj := 97) rfl rfl ?_
  refine Lw.callF rfl rfl (lookRecord_c A _ w15 A15 rfl) ?_
  rintro _ _ ⟨rfl, rfl⟩
  refine Lw.val (Ex.pickT rfl rfl) rfl ?_
  refine Lw.val (Ex.move rfl) rfl ?_
  refine Lw.know 101 (v' := .bool true) rfl (congrArg Value.bool (rfl)) ?_
  refine Lw.take (dj := 101) rfl rfl ?_
  refine Lw.val (Ex.move rfl) rfl ?_
  refine Lw.take (dj := 101) rfl rfl ?_
  refine Lw.callF rfl rfl (lookPlace_c A _ w15 A15 rfl) ?_
  rintro _ _ ⟨rfl, rfl⟩
  refine Lw.val (Ex.pickT rfl rfl) rfl ?_
  refine Lw.val (Ex.move rfl) rfl ?_
  refine Lw.know 105 (v' := .bool true) rfl (congrArg Value.bool (rfl)) ?_
  refine Lw.take (dj := 105) rfl rfl ?_
  refine Lw.val (Ex.move rfl) rfl ?_
  refine Lw.take (dj := 105) rfl rfl ?_
  refine Lw.callF rfl rfl (lookAsk_c A _ w15 A15 rfl) ?_
  rintro _ _ ⟨rfl, rfl⟩
  refine Lw.val (Ex.pickT rfl rfl) rfl ?_
  refine Lw.val (Ex.move rfl) rfl ?_
  refine Lw.know 109 (v' := .bool true) rfl (congrArg Value.bool (rfl)) ?_
  refine Lw.take (dj := 109) rfl rfl ?_
  refine Lw.val (Ex.move rfl) rfl ?_
  refine Lw.take (dj := 109) rfl rfl ?_
  refine Lw.callF rfl rfl (lookDone_c A _ w15 A15 rfl) ?_
  rintro _ _ ⟨rfl, rfl⟩
  refine Lw.val (Ex.pickT rfl rfl) rfl ?_
  refine Lw.val (Ex.move rfl) rfl ?_
  refine Lw.know 113 (v' := .bool true) rfl (congrArg Value.bool (rfl)) ?_
  refine Lw.take (dj := 113) rfl rfl ?_
  refine Lw.val (Ex.move rfl) rfl ?_
  refine Lw.take (dj := 113) rfl rfl ?_
  refine Lw.callF rfl rfl (lookGrid_c A _ w15 A15 rfl) ?_
  rintro _ _ ⟨rfl, rfl⟩
  refine Lw.val (Ex.pickT rfl rfl) rfl ?_
  refine Lw.val (Ex.move rfl) rfl ?_
  refine Lw.know 117 (v' := .bool true) rfl (congrArg Value.bool (rfl)) ?_
  refine Lw.take (dj := 117) rfl rfl ?_
  refine Lw.val (Ex.move rfl) rfl ?_
  refine Lw.take (dj := 117) rfl rfl ?_
  refine Lw.callF rfl rfl (lookList_c A _ w15 A15 rfl) ?_
  rintro _ _ ⟨rfl, rfl⟩
  refine Lw.val (Ex.pickT rfl rfl) rfl ?_
  refine Lw.val (Ex.assign rfl) rfl ?_
  refine Lw.nil ?_
  refine Pw.thenN (Cw.out ?_)
  refine Cw.ret ?_
  refine Pw.ret1 rfl rfl ?_
  have bel2 := bt b11 (bt b12 (bt b13 (bt b14 (b15))))
  exact ⟨rfl, bel.trans (bel2.mono (by omega))⟩
end Go.Proofs.YtkhndfaampkbnaaGreatDoor
