/- What turns in two texts of one length alike turns their sums alike: for any two texts, as long as the shorter one, and any bytes to turn by; no condition. -/
import Derived.Test.YtpejahmpjohjeaaSumsCode
import Derived.Test.YtpejahmpjohjeaaOpen
import Derived.Test.YtpejahmpjohjeaaRows
namespace Go.Proofs.Ytpejahmpjohjeaa
open Go Go.Dd Go.RowKit Go.ChangeShapes Go.WideShapes Go.ChangeAt

theorem own : ownKnob Try.prog.godebug = none := by kernel_rfl
theorem laidOut : laidOutB Try.prog = true := by kernel_rfl

/-- The turning bytes, over and over. -/
def cyc (m : List (BitVec 8)) (k : Nat) : List (BitVec 8) := (List.range k).map fun i => m.getD (i % m.length) default
theorem cyc_length (m : List (BitVec 8)) (k : Nat) : (cyc m k).length = k := by simp [cyc]
theorem cyc_succ (m : List (BitVec 8)) (k : Nat) : cyc m (k + 1) = cyc m k ++ [m.getD (k % m.length) default] := by simp [cyc, List.range_succ]

theorem alike_law (a b m : List (BitVec 8)) (h1 : a.length = m.length) (h2 : b.length = m.length) : Crc.of (Crc.xors a m) ^^^ Crc.of a = Crc.of (Crc.xors b m) ^^^ Crc.of b := by
  rw [Crc.of_xor a m h1, Crc.of_xor b m h2, h1, h2]

theorem xors_cyc (l m : List (BitVec 8)) (k : Nat) (h1 : k < l.length) : Crc.xors (l.take k) (cyc m k) ++ [l.getD k default ^^^ m.getD (k % m.length) default] = Crc.xors (l.take (k + 1)) (cyc m (k + 1)) := by
  rw [List.take_succ_eq_append_getElem h1, cyc_succ, Crc.xors_append _ _ _ _ (by simp [cyc_length]; omega)]
  simp [Crc.xors, h1]

theorem len2 {α : Type} {l : List α} (h : l.length = 2) : ∃ a b, l = [a, b] := by
  match l, h with
  | [a, b], _ => exact ⟨a, b, rfl⟩

theorem sumsAlike_w (u0 u1 v1 : Value) (l0 l1 m : List (BitVec 8)) (w : World) (h0 : SlT b8 w u0 l0) (h1 : SlT b8 w u1 l1) (h2 : SlT b8 w v1 m) :
    Fnc Try.prog 8 [.agg #[u0, u1], v1] w (fun r w' => r = .bool true ∧ Below w.heap.size w w') := by
  obtain ⟨n, hn⟩ : ∃ n, n = min l0.length l1.length := ⟨_, rfl⟩
  have n0 : n ≤ l0.length := by omega
  have n1 : n ≤ l1.length := by omega
  have hle := h0.le
  refine Fnc.enter (n := 82) Try.func8 (by kernel_rfl) rfl rfl rfl ?_
  refine Cw.seq ?_
  refine Cw.region ?_
  refine Lw.valW (Xw.box rfl rfl) rfl ?_
  rintro _ w1 ⟨rfl, hb, hB1, hs1⟩
  have g0 := h0.bs hB1
  have g1 := h1.bs hB1
  have g2 := h2.bs hB1
  refine Lw.val (Ex.assign rfl) rfl ?_
  refine Lw.nil ?_
  refine Pw.thenN (Cw.out ?_)
  refine Cw.seq ?_
  refine Cw.region ?_
  refine Lw.val (Ex.idxB un_36 sz_22 rfl rfl 0 rfl (by decide)) rfl ?_
  refine Lw.val (Ex.ldB (ag_22 _) rfl (by assumption) rfl) rfl ?_
  refine Lw.val (Ex.lenS st_22 rfl (by assumption)) rfl ?_
  refine Lw.val (Ex.idxB un_36 sz_22 rfl rfl 1 rfl (by decide)) rfl ?_
  refine Lw.val (Ex.ldB (ag_22 _) rfl (by assumption) rfl) rfl ?_
  refine Lw.val (Ex.lenS st_22 rfl (by assumption)) rfl ?_
  refine Lw.val (Ex.min2 rfl rfl) rfl ?_
  refine Lw.know 15 (v' := .int .i64 (n : Int)) rfl (congrArg (Value.int .i64) (by split <;> omega)) ?_
  refine Lw.val (Ex.assign rfl) rfl ?_
  refine Lw.nil ?_
  refine Pw.thenN (Cw.out ?_)
  refine Cw.seq ?_
  refine Cw.seq ?_
  refine Cw.region ?_
  refine Lw.callF rfl rfl (alive_c w1) ?_
  rintro _ w2 ⟨rfl, hB2⟩
  have hB2' := bt hB1 hB2
  have g2 := h2.bs hB2'
  refine Lw.val (Ex.not rfl) rfl ?_
  refine Lw.val (Ex.move rfl) rfl ?_
  refine Lw.know 18 (v' := .bool false) rfl (congrArg Value.bool (rfl)) ?_
  refine Lw.take (dj := 18) rfl rfl ?_
  refine Lw.val (Ex.move rfl) rfl ?_
  refine Lw.take (dj := 18) rfl rfl ?_
  refine Lw.val (Ex.gtr rfl rfl) rfl ?_
  refine Lw.val (Ex.pickF rfl rfl) rfl ?_
  refine Lw.val (Ex.move rfl) rfl ?_
  refine Lw.part 22 rfl ?_ ?_
  · intro hlen
    refine Lw.pass (dj := 22) rfl rfl rfl rfl ?_
    refine Lw.pass (dj := 22) rfl rfl rfl rfl ?_
    refine Lw.pass (dj := 22) rfl rfl rfl rfl ?_
    refine Lw.val (Ex.pickT rfl rfl) rfl ?_
    refine Lw.nil ?_
    refine Pw.thenN (Cw.out ?_)
    refine Cw.condT rfl ?_
    refine Cw.seq ?_
    refine Cw.region ?_
    refine Lw.callF rfl rfl (alive_c w2) ?_
    rintro _ w3 ⟨rfl, hB3⟩
    refine Lw.val (Ex.assign rfl) rfl ?_
    refine Lw.nil ?_
    refine Pw.thenN (Cw.out ?_)
    refine Cw.ret ?_
    refine Pw.thenR ?_
    refine Pw.ret1 rfl rfl ?_
    exact ⟨rfl, bt hB2' hB3⟩
  intro hlen
  refine Lw.take (dj := 22) rfl rfl ?_
  refine Lw.val (Ex.move rfl) rfl ?_
  refine Lw.take (dj := 22) rfl rfl ?_
  refine Lw.val (Ex.lenS st_22 rfl (by assumption)) rfl ?_
  refine Lw.take (dj := 22) rfl rfl ?_
  refine Lw.val (Ex.eql rfl rfl) rfl ?_
  refine Lw.val (Ex.pickF rfl rfl) rfl ?_
  refine Lw.nil ?_
  refine Pw.thenN (Cw.out ?_)
  refine Cw.cond rfl ?_ ?_
  · intro _
    refine Cw.seq ?_
    refine Cw.region ?_
    refine Lw.callF rfl rfl (alive_c w2) ?_
    rintro _ w3 ⟨rfl, hB3⟩
    refine Lw.val (Ex.assign rfl) rfl ?_
    refine Lw.nil ?_
    refine Pw.thenN (Cw.out ?_)
    refine Cw.ret ?_
    refine Pw.thenR ?_
    refine Pw.ret1 rfl rfl ?_
    exact ⟨rfl, bt hB2' hB3⟩
  · intro hm0
    have hlen' : n ≤ 50000 := by simp at hlen; omega
    have hm : 0 < m.length := by have := of_decide_eq_false hm0; omega
    have hb2 := hb.bs hB2
    have hsz2 := hB2'.size
    have hsz2' := hB2.size
    clear hb hB1 hB2 g0 g1 g2
    refine Cw.skip ?_
    refine Pw.thenN (Cw.out ?_)
    refine Cw.seq ?_
    refine Cw.region ?_
    refine Lw.val (Ex.assign rfl) rfl ?_
    refine Lw.val (Ex.assign rfl) rfl ?_
    refine Lw.nil ?_
    refine Pw.thenN (Cw.out ?_)
    refine Cw.seq ?_
    refine Cw.seq ?_
    refine Cw.region ?_
    refine Lw.val (Ex.assign rfl) rfl ?_
    refine Lw.nil ?_
    refine Pw.thenN (Cw.out ?_)
    refine Cw.block ?_
    refine Cw.loop (S := (Nat × Value × Value)) (fun s => [(1, v1), (2, .pointer (some ⟨w.heap.size, 0, none⟩)), (5, .int .i64 (n : Int)), (6, s.2.1), (7, s.2.2), (8, .int .i64 (s.1 : Int))]) (fun s w' => s.1 ≤ n ∧ w'.ownsRow w2.heap.size 5 1 s.2.1 s.1 ((Crc.xors (l0.take s.1) (cyc m s.1)).map b8) ∧ w'.ownsRow w2.heap.size 5 1 s.2.2 s.1 ((Crc.xors (l1.take s.1) (cyc m s.1)).map b8) ∧ Apt s.2.1 s.2.2 ∧ Below w2.heap.size w2 w') (fun s => n - s.1) ((0, .slice none 0 0, .slice none 0 0)) ⟨rfl, rfl, rfl, rfl, rfl, rfl, trivial⟩ ?_ ?_
    · exact ⟨by simp, by simpa [Crc.xors] using World.ownsRow_nil _ _ _ _, by simpa [Crc.xors] using World.ownsRow_nil _ _ _ _, fun _ h => (by cases h), Below.refl _ _⟩
    rintro ⟨k, va, vb⟩ w3 ⟨hk, hoa, hob, hne, hB3⟩
    simp only at hk hoa hob hne
    have hB3' := bt hB2' hB3
    have hsz3 := hB3.size
    have hb3 := hb2.bs hB3
    refine Cw.seq ?_
    refine Cw.seq ?_
    refine Cw.region ?_
    refine Lw.val (Ex.move rfl) rfl ?_
    refine Lw.val (Ex.move rfl) rfl ?_
    refine Lw.val (Ex.lss rfl rfl) rfl ?_
    refine Lw.nil ?_
    refine Pw.thenN (Cw.out ?_)
    refine Cw.cond rfl ?_ ?_
    · intro h
      have hk' : k < n := by simp at h; omega
      have hmod : k % m.length < m.length := Nat.mod_lt _ hm
      refine Cw.skip ?_
      refine Pw.thenN (Cw.out ?_)
      refine Cw.seq ?_
      refine Cw.block ?_
      refine Cw.seq ?_
      refine Cw.any mixed (fun w4 hd _ => ?_)
      have hB4 := bt hB3 hd
      have hB4' := bt hB3' hd
      have g0 := h0.bs hB4'
      have g2 := h2.bs hB4'
      have hb4 := hb3.bs hd
      refine Aw.take (i := 0) (NoP.thn (NoP.blk (NoP.thn (NoP.thn (NoP.blk (NoP.thn NoP.ret)))))) rfl (by kernel_rfl) (by kernel_rfl) (by kernel_rfl) (fun _ => Ex.move rfl) rfl ?_
      refine Aw.take (i := 1) (NoP.thn (NoP.blk (NoP.thn (NoP.thn (NoP.blk (NoP.thn NoP.ret)))))) rfl (by kernel_rfl) (by kernel_rfl) (by kernel_rfl) (fun _ => Ex.idxB un_36 sz_22 rfl rfl 0 rfl (by decide)) rfl ?_
      refine Aw.take (i := 3) (NoP.thn (NoP.blk (NoP.thn (NoP.thn (NoP.blk (NoP.thn NoP.ret)))))) rfl (by kernel_rfl) (by kernel_rfl) (by kernel_rfl) (fun _ => Ex.move rfl) rfl ?_
      refine Aw.take (i := 6) (NoP.thn (NoP.blk (NoP.thn (NoP.thn (NoP.blk (NoP.thn NoP.ret)))))) rfl (by kernel_rfl) (by kernel_rfl) (by kernel_rfl) (fun _ => Ex.move rfl) rfl ?_
      refine Aw.take (i := 7) (NoP.thn (NoP.blk (NoP.thn (NoP.thn (NoP.blk (NoP.thn NoP.ret)))))) rfl (by kernel_rfl) (by kernel_rfl) (by kernel_rfl) (fun _ => Ex.move rfl) rfl ?_
      refine Aw.take (i := 8) (NoP.thn (NoP.blk (NoP.thn (NoP.thn (NoP.blk (NoP.thn NoP.ret)))))) rfl (by kernel_rfl) (by kernel_rfl) (by kernel_rfl) (fun _ => Ex.move rfl) rfl ?_
      refine Aw.tail 14 [2, 4, 5, 9, 10, 11, 12, 13] (by kernel_rfl) rfl ?_
      refine Qw.val (fun w1 hq => Ex.ldB (ag_22 _) rfl (Blk.bs (by assumption) hq) rfl) rfl ?_
      refine Qw.val (fun w1 hq => Ex.idxT st_22 rfl rfl (Sl.bs (by assumption) hq) _ rfl (by omega)) rfl ?_
      refine Qw.val (fun w1 hq => Ex.ldT (ag_5 _) rfl (Sl.bs (by assumption) hq) (by omega)) rfl ?_
      refine Qw.val (fun w1 hq => Ex.lenS st_22 rfl (Sl.bs (by assumption) hq)) rfl ?_
      refine Qw.val (fun w1 hq => Ex.remN rfl rfl (by omega)) rfl ?_
      refine Qw.val (fun w1 hq => Ex.idxT st_22 rfl rfl (Sl.bs (by assumption) hq) _ rfl (by omega)) rfl ?_
      refine Qw.val (fun w1 hq => Ex.ldT (ag_5 _) rfl (Sl.bs (by assumption) hq) (by omega)) rfl ?_
      refine Qw.val (fun w1 hq => Ex.xor8 rfl rfl) rfl ?_
      refine Qw.done (fun w5 hq => ?_)
      have hB5 := bt hB4 hq
      have hsz5 := hB5.size
      refine Lw.valW (Xw.lit (vs := [b8 (l0.getD k default ^^^ m.getD (k % m.length) default)]) st_22 it_5 rfl rfl rfl rfl rfl) rfl ?_
      rintro v6 w6 ⟨ho6, -, hB6, hs6⟩
      refine Lw.valW (Xw.append2 (base := w2.heap.size) st_22 it_5 rfl (by decide) rfl rfl (own_bs (own_bs (own_bs hoa hd) hq) hB6) (own_sl ho6) rfl (by omega) (by omega) (by omega)) rfl ?_
      rintro v7 w7 ⟨ho7, hB7, hg7, hv7⟩
      refine Lw.val (Ex.assign rfl) rfl ?_
      refine Lw.nil ?_
      refine Pw.thenN (Cw.out ?_)
      have hob6 := own_bs (own_bs (own_bs hob hd) hq) hB6
      have hob7 := hne.keep hob6 hg7
      have hne7 := hne.grow hob6 hv7
      have ho7 : w7.ownsRow w2.heap.size 5 1 v7 (k + 1) ((Crc.xors (l0.take (k + 1)) (cyc m (k + 1))).map b8) := by
        rw [← xors_cyc l0 m k (by omega), List.map_append]; exact ho7
      have hB7' := (bt hB5 hB6).trans hB7
      have hsz7 := hB7'.size
      clear g0 g2 hd hq
      refine Cw.any mixed (fun w8 hd _ => ?_)
      have hB8 := bt hB7' hd
      have hB8' := bt hB2' hB8
      have g1 := h1.bs hB8'
      have g2 := h2.bs hB8'
      have hb8 := hb2.bs hB8
      refine Aw.take (i := 0) (NoP.blk (NoP.thn (NoP.thn (NoP.blk (NoP.thn NoP.ret))))) rfl (by kernel_rfl) (by kernel_rfl) (by kernel_rfl) (fun _ => Ex.move rfl) rfl ?_
      refine Aw.take (i := 1) (NoP.blk (NoP.thn (NoP.thn (NoP.blk (NoP.thn NoP.ret))))) rfl (by kernel_rfl) (by kernel_rfl) (by kernel_rfl) (fun _ => Ex.idxB un_36 sz_22 rfl rfl 1 rfl (by decide)) rfl ?_
      refine Aw.take (i := 3) (NoP.blk (NoP.thn (NoP.thn (NoP.blk (NoP.thn NoP.ret))))) rfl (by kernel_rfl) (by kernel_rfl) (by kernel_rfl) (fun _ => Ex.move rfl) rfl ?_
      refine Aw.take (i := 6) (NoP.blk (NoP.thn (NoP.thn (NoP.blk (NoP.thn NoP.ret))))) rfl (by kernel_rfl) (by kernel_rfl) (by kernel_rfl) (fun _ => Ex.move rfl) rfl ?_
      refine Aw.take (i := 7) (NoP.blk (NoP.thn (NoP.thn (NoP.blk (NoP.thn NoP.ret))))) rfl (by kernel_rfl) (by kernel_rfl) (by kernel_rfl) (fun _ => Ex.move rfl) rfl ?_
      refine Aw.take (i := 8) (NoP.blk (NoP.thn (NoP.thn (NoP.blk (NoP.thn NoP.ret))))) rfl (by kernel_rfl) (by kernel_rfl) (by kernel_rfl) (fun _ => Ex.move rfl) rfl ?_
      refine Aw.tail 14 [2, 4, 5, 9, 10, 11, 12, 13] (by kernel_rfl) rfl ?_
      refine Qw.val (fun w1 hq => Ex.ldB (ag_22 _) rfl (Blk.bs (by assumption) hq) rfl) rfl ?_
      refine Qw.val (fun w1 hq => Ex.idxT st_22 rfl rfl (Sl.bs (by assumption) hq) _ rfl (by omega)) rfl ?_
      refine Qw.val (fun w1 hq => Ex.ldT (ag_5 _) rfl (Sl.bs (by assumption) hq) (by omega)) rfl ?_
      refine Qw.val (fun w1 hq => Ex.lenS st_22 rfl (Sl.bs (by assumption) hq)) rfl ?_
      refine Qw.val (fun w1 hq => Ex.remN rfl rfl (by omega)) rfl ?_
      refine Qw.val (fun w1 hq => Ex.idxT st_22 rfl rfl (Sl.bs (by assumption) hq) _ rfl (by omega)) rfl ?_
      refine Qw.val (fun w1 hq => Ex.ldT (ag_5 _) rfl (Sl.bs (by assumption) hq) (by omega)) rfl ?_
      refine Qw.val (fun w1 hq => Ex.xor8 rfl rfl) rfl ?_
      refine Qw.done (fun w9 hq => ?_)
      have hB9 := bt hB8 hq
      have hsz9 := hB9.size
      refine Lw.valW (Xw.lit (vs := [b8 (l1.getD k default ^^^ m.getD (k % m.length) default)]) st_22 it_5 rfl rfl rfl rfl rfl) rfl ?_
      rintro v10 w10 ⟨ho10, -, hB10, hs10⟩
      have ho7a := own_bs (own_bs (own_bs ho7 hd) hq) hB10
      refine Lw.valW (Xw.append2 (base := w2.heap.size) st_22 it_5 rfl (by decide) rfl rfl (own_bs (own_bs (own_bs hob7 hd) hq) hB10) (own_sl ho10) rfl (by omega) (by omega) (by omega)) rfl ?_
      rintro v11 w11 ⟨ho11, hB11, hg11, hv11⟩
      refine Lw.val (Ex.assign rfl) rfl ?_
      refine Lw.nil ?_
      refine Pw.blkN ?_
      refine Pw.thenN (Cw.out ?_)
      refine Cw.region ?_
      refine Lw.val (Ex.move rfl) rfl ?_
      refine Lw.val (Ex.addI rfl rfl (by omega)) rfl ?_
      refine Lw.val (Ex.assign rfl) rfl ?_
      refine Lw.nil ?_
      have ho7b := hne7.symm.keep ho7a hg11
      have hne11 := (hne7.symm.grow ho7a hv11).symm
      have ho11 : w11.ownsRow w2.heap.size 5 1 v11 (k + 1) ((Crc.xors (l1.take (k + 1)) (cyc m (k + 1))).map b8) := by
        rw [← xors_cyc l1 m k (by omega), List.map_append]; exact ho11
      exact Pw.thenN (Pw.next ((k + 1, v7, v11)) ⟨rfl, rfl, rfl, rfl, rfl, rfl, trivial⟩ (⟨hk', ho7b, ho11, hne11, (bt hB9 hB10).trans hB11⟩) (by simp only; omega))
    · intro h
      have hk' : k = n := by simp at h; omega
      subst hk'
      refine Cw.exit ?_
      refine Pw.thenE ?_
      refine Pw.thenE ?_
      refine Pw.blkHit ?_
      refine Pw.thenN (Cw.out ?_)
      refine Cw.seq ?_
      have g0 := h0.bs hB3'
      have g1 := h1.bs hB3'
      obtain ⟨la, hla⟩ : ∃ la, la = Crc.xors (l0.take k) (cyc m k) := ⟨_, rfl⟩
      obtain ⟨lb, hlb⟩ : ∃ lb, lb = Crc.xors (l1.take k) (cyc m k) := ⟨_, rfl⟩
      have hlla : la.length = k := by rw [hla, Crc.xors_length, cyc_length]; simp; omega
      have hllb : lb.length = k := by rw [hlb, Crc.xors_length, cyc_length]; simp; omega
      have hoa' : Sl w3 1 va la.length (la.map b8) := by rw [hlla, hla]; exact own_sl hoa
      have hob' : Sl w3 1 vb lb.length (lb.map b8) := by rw [hllb, hlb]; exact own_sl hob
      refine Cw.quiet mixed (by kernel_rfl) ?_
      refine Qw.val (fun w1 hq => Ex.move rfl) rfl ?_
      refine Qw.callF rfl rfl (fun w1 hq => (of_c va la w1 (hoa'.bs hq)).q hq) ?_
      refine Qw.val (fun w1 hq => Ex.idxB un_36 sz_22 rfl rfl 0 rfl (by decide)) rfl ?_
      refine Qw.val (fun w1 hq => Ex.ldB (ag_22 _) rfl (Blk.bs (by assumption) hq) rfl) rfl ?_
      refine Qw.val (fun w1 hq => Ex.move rfl) rfl ?_
      refine Qw.val (fun w1 hq => Ex.cutH st_22 rfl rfl (Sl.bs (by assumption) hq) (by omega)) rfl ?_
      refine Qw.callF rfl rfl (fun w1 hq => (of_c _ (l0.take k) w1 ((SlT.take g0 n0).bs hq)).q hq) ?_
      refine Qw.val (fun w1 hq => Ex.xor32 rfl rfl) rfl ?_
      refine Qw.val (fun w1 hq => Ex.move rfl) rfl ?_
      refine Qw.callF rfl rfl (fun w1 hq => (of_c vb lb w1 (hob'.bs hq)).q hq) ?_
      refine Qw.val (fun w1 hq => Ex.idxB un_36 sz_22 rfl rfl 1 rfl (by decide)) rfl ?_
      refine Qw.val (fun w1 hq => Ex.ldB (ag_22 _) rfl (Blk.bs (by assumption) hq) rfl) rfl ?_
      refine Qw.val (fun w1 hq => Ex.move rfl) rfl ?_
      refine Qw.val (fun w1 hq => Ex.cutH st_22 rfl rfl (Sl.bs (by assumption) hq) (by omega)) rfl ?_
      refine Qw.callF rfl rfl (fun w1 hq => (of_c _ (l1.take k) w1 ((SlT.take g1 n1).bs hq)).q hq) ?_
      refine Qw.val (fun w1 hq => Ex.xor32 rfl rfl) rfl ?_
      refine Qw.val (fun w1 hq => Ex.eql32 rfl rfl) rfl ?_
      refine Qw.val (fun w1 hq => Ex.assign rfl) rfl ?_
      refine Qw.nil (fun w9 hq => ?_)
      refine Pw.thenN (Cw.out ?_)
      refine Cw.ret ?_
      refine Pw.ret1 rfl rfl ?_
      refine ⟨congrArg Value.bool (decide_eq_true ?_), bt hB3' hq⟩
      rw [hla, hlb]
      exact alike_law _ _ _ (by simp [cyc_length]; omega) (by simp [cyc_length]; omega)

set_option maxRecDepth 100000 in
theorem sumsAlike_lifted (os : Os) (started : os.Started) (H : Type) (enc : TypeId × Value → H) :
    ReturnsInHanded {} Try.checked os 8 .any (Rows.sumsAlikeSpec.pre6 enc Try.prog Try.f8 Rows.sumsAlikeRow.domain false) (Rows.sumsAlikeSpec.post enc Try.prog Try.f8 false true false false) := by
  refine returnsInHanded_of_change_sized (C := Try.checked) own started (by kernel_rfl) Try.func8
    (ChangeSpec.witness6 (enc := enc) (C := Try.checked) false ⟨#[], #[.agg #[.slice none 0 0, .slice none 0 0], .slice none 0 0], []⟩ 8 (by kernel_rfl) (by kernel_rfl) (by kernel_rfl) (by kernel_rfl)) ?_
  intro W base args ds gs before hval0 hW hcnd hsz0 _
  have hval : ∀ (j : Nat) t v, Try.f8.params[j]? = some t → args[j]? = some v → Value.okWide Try.prog W .any base t v := hval0
  have hW' := hW
  obtain ⟨p, q, hA0, hV, rfl, hfz, hnd⟩ := hW
  have hA : DataW.TrodAll enc Try.prog W 0 (fun _ => true) true Try.f8.params.toList args.toList ds p := hA0
  have hsz : (DataW.weightsEach Try.prog (Try.f8.params.toList ++ Rows.sumsAlikeSpec.plain.varTypes Try.prog) (ds ++ gs)).all (· ≤ reachBytes) = true := hsz0
  rw [Try.params8] at hA hval hsz
  obtain ⟨v0, vs0, d0, ds0, p0, q0, hargs, rfl, rfl, h0, r0⟩ := trodAll_cons hA
  obtain ⟨v1, vs1, d1, ds1, p1, q1, rfl, rfl, rfl, h1, r1⟩ := trodAll_cons r0
  obtain ⟨rfl, rfl, rfl⟩ := trodAll_nil r1
  obtain rfl : args = #[v0, v1] := by cases args; simp_all
  obtain ⟨rfl, rfl⟩ := trodVars_none hV
  have k0 := h0
  have lt0 : ∀ x ∈ p0, x.block < W.heap.size := by obtain ⟨m, hm⟩ := k0; exact DataW.trod_lt m _ _ _ hm
  have i0 := in_of (j := 0) (t := 36) hsz rfl rfl h0
  have o0 := hval 0 36 v0 rfl rfl
  have k1 := h1
  have lt1 : ∀ x ∈ p1, x.block < W.heap.size := by obtain ⟨m, hm⟩ := k1; exact DataW.trod_lt m _ _ _ hm
  have i1 := in_of (j := 1) (t := 22) hsz rfl rfl h1
  have o1 := hval 1 22 v1 rfl rfl
  clear hA0 hval0 hsz0 hsz
  obtain ⟨cs, rfl, hin⟩ := arg_array un_36 o0 i0
  obtain ⟨hlen, hel⟩ := hin.array un_36
  have c3 : Try.prog.cellsOf 36 = 2 := by kernel_rfl
  have c1 : Try.prog.cellsOf 22 = 1 := by kernel_rfl
  rw [c3] at hlen
  rw [c1] at hel
  obtain ⟨u0, u1, rfl⟩ := len2 hlen
  obtain ⟨u0', l0, e0, h0, -⟩ := (hel 0 (by decide)).slT un_22 (by kernel_rfl) (fun cs h => In.num (BitVec.ofInt 8) b8 (fun _ h => wf_u8 h) un_5 h)
  obtain ⟨u1', l1, e1, h1, -⟩ := (hel 1 (by decide)).slT un_22 (by kernel_rfl) (fun cs h => In.num (BitVec.ofInt 8) b8 (fun _ h => wf_u8 h) un_5 h)
  simp at e0 e1
  subst e0 e1
  obtain ⟨m, h2, -⟩ := arg_slT un_22 (by kernel_rfl) (fun cs h => In.num (BitVec.ofInt 8) b8 (fun _ h => wf_u8 h) un_5 h) o1 i1
  refine (law_calls (sumsAlike_w u0 u1 v1 l0 l1 m W h0 h1 h2)).mono fun e W' ⟨he, bel⟩ => ?_
  subst he
  exact ⟨_, rfl, _, _, _, [], _, [], hW', trodAll_mk1 (shut_bool un_4 _), (trodAll_cons_mk (Below.trod laidOut (by kernel_rfl) (of_decide_eq_true (by kernel_rfl)) k0 bel lt0) (trodAll_cons_mk (Below.trod laidOut (by kernel_rfl) (of_decide_eq_true (by kernel_rfl)) k1 bel lt1) trodAll_mk0)), rfl, bel.frame _, fun h => by cases h⟩

/-- The statement. -/
theorem sumsAlike_proved : Rows.SumsAlikeSaid :=
  OpenClaim.holds_of_wide 8 Try.f8 rfl rfl rfl rfl rfl rfl rfl ⟨rfl, rfl, rfl, rfl, rfl⟩ rfl rfl rfl rfl rfl (by kernel_rfl) Try.func8 (by kernel_rfl)
    (of_decide_eq_true (by kernel_rfl)) (by unfold Func.isWrapper; first | (rw [if_pos (by decide +kernel)]; kernel_rfl) | (rw [if_neg (by decide +kernel)]; exact ⟨rfl, rfl⟩))
    (fun os started H enc _ => sumsAlike_lifted os started H enc)
#print axioms sumsAlike_proved
end Go.Proofs.Ytpejahmpjohjeaa
