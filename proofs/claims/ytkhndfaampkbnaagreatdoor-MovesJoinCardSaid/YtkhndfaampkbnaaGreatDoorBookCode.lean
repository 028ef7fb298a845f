/- Contracts: a book of lists: what it keeps, how it fills them, grows them, and looks at them. Printed by a program of ours. -/
import Derived.Test.YtkhndfaampkbnaaGreatDoorFacts
import Derived.Test.YtkhndfaampkbnaaGreatDoorBook
namespace Go.Proofs.YtkhndfaampkbnaaGreatDoor
open Go Go.Dd Go.RowKit
set_option maxRecDepth 100000

abbrev bookT : TypeId := 51


/-! ### Byte -/
abbrev mkByte (n : Int) : Value := b8 (BitVec.ofInt 8 n)
theorem markByte_c (n : Int) (w : World) (_hn : 0 ≤ n ∧ n ≤ 4000000) : Fnc Tryz.prog 116 [.int .i64 n] w (fun r w' => r = mkByte n ∧ Below w.heap.size w w') := by
  refine Fnc.enter (n := 5) Tryz.func116 (by kernel_rfl) rfl rfl rfl ?_
  refine Cw.seq ?_
  refine Cw.region ?_
  refine Lw.val (Ex.assign (show _ = some (b8 (0#8)) from rfl)) rfl ?_
  refine Lw.nil ?_
  refine Pw.thenN (Cw.out ?_)
  refine Cw.seq ?_
  refine Cw.region ?_
  refine Lw.val (Ex.move rfl) rfl ?_
  refine Lw.val (Ex.conv8 us_3 un_5 rfl) rfl ?_
  refine Lw.val (Ex.assign rfl) rfl ?_
  refine Lw.nil ?_
  refine Pw.thenN (Cw.out ?_)
  refine Cw.ret ?_
  refine Pw.ret1 rfl rfl ?_
  exact ⟨rfl, Below.refl _ _⟩
theorem isByte_c (n : Int) (w : World) (_hn : 0 ≤ n ∧ n ≤ 4000000) : Fnc Tryz.prog 131 [mkByte n, .int .i64 n] w (fun r w' => r = .bool true ∧ Below w.heap.size w w') := by
  refine Fnc.enter (n := 9) Tryz.func131 (by kernel_rfl) rfl rfl rfl ?_
  refine Cw.seq ?_
  refine Cw.region ?_
  refine Lw.val (Ex.assign rfl) rfl ?_
  refine Lw.nil ?_
  refine Pw.thenN (Cw.out ?_)
  refine Cw.seq ?_
  refine Cw.region ?_
  refine Lw.val (Ex.move rfl) rfl ?_
  refine Lw.val (Ex.move rfl) rfl ?_
  refine Lw.val (Ex.conv8 us_3 un_5 rfl) rfl ?_
  refine Lw.val (Ex.eql8 rfl rfl) rfl ?_
  refine Lw.val (Ex.assign rfl) rfl ?_
  refine Lw.nil ?_
  refine Pw.thenN (Cw.out ?_)
  refine Cw.ret ?_
  refine Pw.ret1 rfl rfl ?_
  exact ⟨congrArg Value.bool (by simp), Below.refl _ _⟩

theorem fillByte_c (A : Nat) (book : List Value) (u : Value) (hs : List Hd) (lo base : Nat) (w : World) (hA : Blk w A bookT book) (hu : book[1]? = some u) (ho : w.ownsRow lo 99 3 u hs.length (hcells hs)) (hk : Kept w base 5 1 hs)
    (hb1 : ¬ blks hs A) (hb2 : ∀ b, u.ownBlock = some b → ¬ blks hs b) :
    Fnc Tryz.prog 45 [.pointer (some ⟨A, 0, none⟩)] w (fun r w' => r = .tuple #[] ∧ Chg (blks hs) w w' ∧ Full w' base 5 mkByte hs) := by
  have hle := (own_sl ho).le
  refine Fnc.enter (n := 35) Tryz.func45 (by kernel_rfl) rfl rfl rfl ?_
  refine Cw.seq ?_
  refine Cw.region ?_
  refine Lw.val (Ex.assign rfl) rfl ?_
  refine Lw.nil ?_
  refine Pw.thenN (Cw.out ?_)
  refine Cw.block ?_
  refine Cw.loop (S := Nat) (fun i => [(0, .pointer (some ⟨A, 0, none⟩)), (2, .int .i64 (i : Int))]) (fun i w' => i ≤ hs.length ∧ Chg (blks hs) w w' ∧ (∀ j (hj : j < hs.length), j < i → KRow w' base 5 1 hs[j].v hs[j].k (marks mkByte hs[j].k hs[j].n)) ∧ (∀ j (hj : j < hs.length), i ≤ j → KRow w' base 5 1 hs[j].v hs[j].k hs[j].xs)) (fun i => hs.length - i) (0) ⟨rfl, rfl, trivial⟩ ?_ ?_
  · exact ⟨by omega, Chg.refl _ _, fun j hj h => by omega, fun j hj _ => hk.own _ (List.getElem_mem hj)⟩
  rintro i w1 ⟨hi, hc, hd, ht⟩
  have b1 := hA.chg hc hb1
  have o1 := own_sl (own_chg ho hc hb2)
  refine Cw.seq ?_
  refine Cw.seq ?_
  refine Cw.region ?_
  refine Lw.val (Ex.move rfl) rfl ?_
  refine Lw.val (Ex.move rfl) rfl ?_
  refine Lw.val (Ex.nilCheck rfl) rfl ?_
  refine Lw.val (Ex.fieldAddr (q := 0) Tryz.underlying51 rfl (sz_35 _) rfl) rfl ?_
  refine Lw.val (Ex.ldB (ag_35 _) rfl b1 hu) rfl ?_
  refine Lw.val (Ex.lenS (sz := 3) st_35 rfl o1) rfl ?_
  refine Lw.val (Ex.lss rfl rfl) rfl ?_
  refine Lw.nil ?_
  refine Pw.thenN (Cw.out ?_)
  refine Cw.cond rfl ?_ ?_
  · intro h
    have hi' : i < hs.length := by simp at h; omega
    have hm := List.getElem_mem hi'
    have hfew := hk.few _ hm
    have hnum := hk.num _ hm
    have hone : hs[i].g.oneCell' = true := by rw [hk.new _ hm]; rfl
    have hxl := (hk.own _ hm).len
    have hvb : ∀ b, hs[i].v.ownBlock = some b → b < w.heap.size := fun b e => (hk.blk ⟨_, hm, e⟩).2
    refine Cw.skip ?_
    refine Pw.thenN (Cw.out ?_)
    refine Cw.seq ?_
    refine Cw.block ?_
    refine Cw.seq ?_
    refine Cw.region ?_
    refine Lw.val (Ex.move rfl) rfl ?_
    refine Lw.val (Ex.nilCheck rfl) rfl ?_
    refine Lw.val (Ex.fieldAddr (q := 0) Tryz.underlying51 rfl (sz_35 _) rfl) rfl ?_
    refine Lw.val (Ex.ldB (ag_35 _) rfl b1 hu) rfl ?_
    refine Lw.val (Ex.move rfl) rfl ?_
    refine Lw.val (Ex.idx st_35 rfl rfl o1 i rfl hi') rfl ?_
    refine Lw.val (Ex.ldE (cs := hs[i].cells) (ag_99 _) (sz_99 _) rfl o1 rfl (by decide) (hcells_three hi')) rfl ?_
    refine Lw.boxed (cs := hs[i].cells) it_99 rfl rfl rfl rfl (fun _ => rfl) (by simp [Hd.cells, (hk.own _ hm).sl.one', hone, int_one]) ?_
    rintro A_h w2 eA_h b_h hn2 zhn2
    have hc2 := hc.below hn2
    have z1 := hc.size
    have r0 := (ht i hi' (Nat.le_refl _)).bs hn2
    refine Lw.nil ?_
    refine Pw.thenN (Cw.out ?_)
    refine Cw.seq ?_
    refine Cw.region ?_
    refine Lw.val (Ex.assign rfl) rfl ?_
    refine Lw.nil ?_
    refine Pw.thenN (Cw.out ?_)
    refine Cw.block ?_
    refine Cw.loop (S := Nat) (fun k => [(0, .pointer (some ⟨A, 0, none⟩)), (2, .int .i64 (i : Int)), (3, .pointer (some ⟨A_h, 0, none⟩)), (4, .int .i64 (k : Int))]) (fun k w' => k ≤ hs[i].k ∧ Blk w' A_h 99 hs[i].cells ∧ Chg (blks hs) w w' ∧ Chg (fun b => hs[i].v.ownBlock = some b) w2 w' ∧ KRow w' base 5 1 hs[i].v hs[i].k (marks mkByte k hs[i].n ++ hs[i].xs.drop k)) (fun k => hs[i].k - k) (0) ⟨rfl, rfl, rfl, rfl, trivial⟩ ?_ ?_
    · exact ⟨by omega, b_h, hc2, Chg.refl _ _, by simpa [marks] using r0⟩
    clear b_h r0
    rintro k w3 ⟨hk3, b_h, hc3, hd3, r3⟩
    refine Cw.seq ?_
    refine Cw.seq ?_
    refine Cw.region ?_
    refine Lw.val (Ex.move rfl) rfl ?_
    refine Lw.val (Ex.fieldAddr (q := 0) Tryz.underlying99 rfl (sz_97 _) rfl) rfl ?_
    refine Lw.val (Ex.ldB (ag_97 _) rfl (by assumption) rfl) rfl ?_
    refine Lw.val (Ex.lenS (sz := 1) st_97 rfl r3.sl) rfl ?_
    refine Lw.val (Ex.lss rfl rfl) rfl ?_
    refine Lw.nil ?_
    refine Pw.thenN (Cw.out ?_)
    refine Cw.cond rfl ?_ ?_
    · intro h
      have hk' : k < hs[i].k := by simp at h; omega
      refine Cw.skip ?_
      refine Pw.thenN (Cw.out ?_)
      refine Cw.seq ?_
      refine Cw.block ?_
      refine Cw.tail 7 mixed (by kernel_rfl) ?_
      refine Qw.val (fun w1 hq => Ex.fieldAddr (q := 0) Tryz.underlying99 rfl (sz_97 _) rfl) rfl ?_
      refine Qw.val (fun w1 hq => Ex.ldB (ag_97 _) rfl (Blk.bs (by assumption) hq) rfl) rfl ?_
      refine Qw.val (fun w1 hq => Ex.move rfl) rfl ?_
      refine Qw.val (fun w1 hq => Ex.fieldAddr (q := 0) Tryz.underlying99 rfl (sz_3 _) rfl) rfl ?_
      refine Qw.val (fun w1 hq => Ex.ldB (ag_3 _) rfl (Blk.bs (by assumption) hq) rfl) rfl ?_
      refine Qw.callF rfl rfl (fun w1 hq => (markByte_c hs[i].n w1 hnum).q hq) ?_
      refine Qw.val (fun w1 hq => Ex.idxS st_97 rfl rfl r3.sl.shp k rfl hk') rfl ?_
      refine Qw.done (fun w4 hq => ?_)
      refine Lw.unit (Xu.stK (sz_5 _) rfl rfl rfl (r3.bs hq) (by rw [marks_len (by simpa using hxl) hk3]; exact hk')) ?_
      rintro w5 ⟨r5, hg5, -⟩
      rw [marks_step (by simpa using hxl) hk'] at r5
      have b5 := (b_h.bs hq).by hg5 (fun e => by have := hvb _ e.symm; omega)
      refine Lw.nil ?_
      refine Pw.blkN ?_
      refine Pw.thenN (Cw.out ?_)
      refine Cw.region ?_
      refine Lw.val (Ex.move rfl) rfl ?_
      refine Lw.val (Ex.addI rfl rfl (by omega)) rfl ?_
      refine Lw.val (Ex.assign rfl) rfl ?_
      refine Lw.nil ?_
      exact Pw.thenN (Pw.next (k + 1) ⟨rfl, rfl, rfl, rfl, trivial⟩ (⟨hk', b5, (hc3.below hq).grown hg5 (fun b e => .inl ⟨_, hm, e⟩), (hd3.below hq).grown hg5 (fun b e => .inl e), r5⟩) (by omega))
    intro h
    have hk' : k = hs[i].k := by simp at h; omega
    rw [List.drop_of_length_le (by omega), List.append_nil, hk'] at r3
    have hall : Chg (fun b => hs[i].v.ownBlock = some b) w1 w3 := (Chg.of_below hn2).trans hd3
    refine Cw.exit ?_
    refine Pw.thenE ?_
    refine Pw.thenE ?_
    refine Pw.blkHit ?_
    refine Pw.blkN ?_
    refine Pw.thenN (Cw.out ?_)
    refine Cw.region ?_
    refine Lw.val (Ex.move rfl) rfl ?_
    refine Lw.val (Ex.addI rfl rfl (by omega)) rfl ?_
    refine Lw.val (Ex.assign rfl) rfl ?_
    refine Lw.nil ?_
    exact Pw.thenN (Pw.next (i + 1) ⟨rfl, rfl, trivial⟩ (⟨hi', hc3, fun j hj hji => (if e : j = i then by subst e; exact r3 else (hd j hj (by omega)).chg hall fun b e1 e2 => apart_ne hk.apart hi' hj (Ne.symm e) b e2 e1), fun j hj hji => (ht j hj (by omega)).chg hall fun b e1 e2 => apart_ne hk.apart hi' hj (by omega) b e2 e1⟩) (by omega))
  intro h
  have hi' : i = hs.length := by simp at h; omega
  refine Cw.exit ?_
  refine Pw.thenE ?_
  refine Pw.thenE ?_
  refine Pw.blkHit ?_
  refine Pw.end0 rfl ?_
  refine ⟨rfl, hc, fun x hx => ?_⟩
  obtain ⟨j, hj, rfl⟩ := List.mem_iff_getElem.1 hx
  exact hd j hj (by omega)

theorem growByte_c (A : Nat) (book : List Value) (u : Value) (hs : List Hd) (lo base : Nat) (w : World) (hA : Blk w A bookT book) (hu : book[1]? = some u) (ho : w.ownsRow lo 99 3 u hs.length (hcells hs)) (hk : KOk hs) (hf : Full w base 5 mkByte hs)
    (hb1 : ¬ blks hs A) (hb2 : ∀ b, u.ownBlock = some b → ¬ blks hs b) (hb3 : u.ownBlock ≠ some A) (hbase : base ≤ w.heap.size) :
    Fnc Tryz.prog 60 [.pointer (some ⟨A, 0, none⟩)] w (fun r w' => r = .tuple #[] ∧ Chg (fun b => blks hs b ∨ u.ownBlock = some b) w w' ∧ ∃ ts, Grown w hs ts ∧ w'.ownsRow lo 99 3 u hs.length (hcells ts) ∧ ∀ t ∈ ts, Tall w' mkByte t) := by
  have hle := (own_sl ho).le
  refine Fnc.enter (n := 42) Tryz.func60 (by kernel_rfl) rfl rfl rfl ?_
  refine Cw.seq ?_
  refine Cw.region ?_
  refine Lw.val (Ex.assign rfl) rfl ?_
  refine Lw.nil ?_
  refine Pw.thenN (Cw.out ?_)
  refine Cw.block ?_
  refine Cw.loop (S := (Nat × List Hd)) (fun s => [(0, .pointer (some ⟨A, 0, none⟩)), (2, .int .i64 (s.1 : Int))]) (fun s w' => s.1 ≤ hs.length ∧ Grown w hs s.2 ∧ (∀ t ∈ s.2, t.g.oneCell' = true) ∧ Chg (fun b => blks hs b ∨ u.ownBlock = some b) w w' ∧ w'.ownsRow lo 99 3 u hs.length (hcells s.2) ∧ (∀ j (hj : j < s.2.length), j < s.1 → Tall w' mkByte s.2[j]) ∧ (∀ j (hj : j < hs.length), s.1 ≤ j → KRow w' base 5 1 hs[j].v hs[j].k (marks mkByte hs[j].k hs[j].n))) (fun s => hs.length - s.1) ((0, hs)) ⟨rfl, rfl, trivial⟩ ?_ ?_
  · exact ⟨by simp, Grown.refl w hk.new, fun t ht => (by rw [hk.new t ht]; rfl), Chg.refl _ _, ho, fun j hj h => by simp at h, fun j hj _ => hf _ (List.getElem_mem hj)⟩
  rintro ⟨i, ts⟩ w1 ⟨hi, hG, h1, hc, o1, hd, ht⟩
  dsimp only at hi hG h1 hc o1 hd ht ⊢
  have b1 := hA.chg hc (fun e => e.elim hb1 hb3)
  have s1 := own_sl o1
  have hlen := hG.len
  refine Cw.seq ?_
  refine Cw.seq ?_
  refine Cw.region ?_
  refine Lw.val (Ex.move rfl) rfl ?_
  refine Lw.val (Ex.move rfl) rfl ?_
  refine Lw.val (Ex.nilCheck rfl) rfl ?_
  refine Lw.val (Ex.fieldAddr (q := 0) Tryz.underlying51 rfl (sz_35 _) rfl) rfl ?_
  refine Lw.val (Ex.ldB (ag_35 _) rfl b1 hu) rfl ?_
  refine Lw.val (Ex.lenS (sz := 3) st_35 rfl s1) rfl ?_
  refine Lw.val (Ex.lss rfl rfl) rfl ?_
  refine Lw.nil ?_
  refine Pw.thenN (Cw.out ?_)
  refine Cw.cond rfl ?_ ?_
  · intro h
    have hi' : i < hs.length := by simp at h; omega
    have hit : i < ts.length := by omega
    obtain ⟨ev, ek, en, eg⟩ := hG.all i hi' hit
    have hm := List.getElem_mem hi'
    have hmt := List.getElem_mem hit
    have hfew := hk.few _ hm
    have hnum := hk.num _ hm
    have hone := h1 _ hmt
    have hvb : ∀ b, hs[i].v.ownBlock = some b → b < w.heap.size := fun b e => (hf.blk ⟨_, hm, e⟩).2
    refine Cw.skip ?_
    refine Pw.thenN (Cw.out ?_)
    refine Cw.seq ?_
    refine Cw.block ?_
    refine Cw.seq ?_
    refine Cw.region ?_
    refine Lw.val (Ex.move rfl) rfl ?_
    refine Lw.val (Ex.nilCheck rfl) rfl ?_
    refine Lw.val (Ex.fieldAddr (q := 0) Tryz.underlying51 rfl (sz_35 _) rfl) rfl ?_
    refine Lw.val (Ex.ldB (ag_35 _) rfl b1 hu) rfl ?_
    refine Lw.val (Ex.move rfl) rfl ?_
    refine Lw.val (Ex.idx st_35 rfl rfl s1 i rfl hi') rfl ?_
    refine Lw.val (Ex.ldE (cs := ts[i].cells) (ag_99 _) (sz_99 _) rfl s1 rfl (by decide) (hcells_three hit)) rfl ?_
    refine Lw.boxed (cs := ts[i].cells) it_99 rfl rfl rfl rfl (fun _ => rfl) (by simp [Hd.cells, ev, (hf _ hm).sl.one', hone, int_one]) ?_
    rintro A_h w2 eA_h b_h hn2 zhn2
    have hc2 := hc.below hn2
    have z1 := hc.size
    have z2 := hc2.size
    have r0 := (ht i hi' (Nat.le_refl _)).bs hn2
    refine Lw.nil ?_
    refine Pw.thenN (Cw.out ?_)
    refine Cw.seq ?_
    refine Cw.region ?_
    refine Lw.val (Ex.fieldAddr (q := 0) Tryz.underlying99 rfl (sz_97 _) rfl) rfl ?_
    refine Lw.val (Ex.ldB (ag_97 _) rfl (by assumption) rfl) rfl ?_
    refine Lw.val (Ex.assign rfl) rfl ?_
    refine Lw.nil ?_
    refine Pw.thenN (Cw.out ?_)
    refine Cw.seq ?_
    refine Cw.seq ?_
    refine Cw.region ?_
    refine Lw.val (Ex.assign rfl) rfl ?_
    refine Lw.nil ?_
    refine Pw.thenN (Cw.out ?_)
    refine Cw.block ?_
    refine Cw.know 4 (v' := hs[i].v) rfl (ev) ?_
    refine Cw.loop (S := (Nat × Value)) (fun s => [(0, .pointer (some ⟨A, 0, none⟩)), (2, .int .i64 (i : Int)), (3, .pointer (some ⟨A_h, 0, none⟩)), (4, s.2), (5, .int .i64 (s.1 : Int))]) (fun s w' => s.1 ≤ 40 ∧ Blk w' A_h 99 ts[i].cells ∧ Chg (fun b => hs[i].v.ownBlock = some b) w2 w' ∧ KRow w' base 5 1 s.2 (hs[i].k + s.1) (marks mkByte (hs[i].k + s.1) hs[i].n) ∧ (∀ b, s.2.ownBlock = some b → hs[i].v.ownBlock = some b ∨ w2.heap.size ≤ b) ∧ Sl w' 1 hs[i].v hs[i].k (marks mkByte hs[i].k hs[i].n)) (fun s => 40 - s.1) ((0, hs[i].v)) ⟨rfl, rfl, rfl, rfl, rfl, trivial⟩ ?_ ?_
    · exact ⟨by simp, b_h, Chg.refl _ _, r0, fun b e => .inl e, r0.sl⟩
    clear b_h
    rintro ⟨k, g⟩ w3 ⟨hk3, b_h, hd3, r3, hgb, l3⟩
    dsimp only at hk3 r3 hgb ⊢
    have z3 := hd3.size
    refine Cw.seq ?_
    refine Cw.seq ?_
    refine Cw.region ?_
    refine Lw.val (Ex.move rfl) rfl ?_
    refine Lw.val (Ex.lss rfl rfl) rfl ?_
    refine Lw.nil ?_
    refine Pw.thenN (Cw.out ?_)
    refine Cw.cond rfl ?_ ?_
    · intro h
      have hk' : k < 40 := by simp at h; omega
      refine Cw.skip ?_
      refine Pw.thenN (Cw.out ?_)
      refine Cw.seq ?_
      refine Cw.block ?_
      refine Cw.region ?_
      refine Lw.val (Ex.move rfl) rfl ?_
      refine Lw.val (Ex.fieldAddr (q := 0) Tryz.underlying99 rfl (sz_3 _) rfl) rfl ?_
      refine Lw.val (Ex.ldB (ag_3 _) rfl (by assumption) rfl) rfl ?_
      refine Lw.know 30 (v' := .int .i64 hs[i].n) rfl (congrArg (Value.int .i64) en) ?_
      refine Lw.callF rfl rfl (markByte_c hs[i].n w3 hnum) ?_
      rintro _ w4 ⟨rfl, hn4⟩
      refine Lw.valW (Xw.lit (vs := [mkByte hs[i].n]) st_97 it_5 rfl rfl rfl rfl rfl) rfl ?_
      rintro nv w5 ⟨o5, -, hn5, -⟩
      have hn35 := bt hn4 hn5
      have z5 := hn35.size
      have r5 := r3.bs hn35
      refine Lw.valW (Xw.appendK (base := base) st_97 it_5 rfl (by decide) rfl rfl r5 (own_sl o5) rfl (by omega) (by omega) (by omega) (Nat.le_refl _)) rfl ?_
      rintro g' w6 ⟨r6, hg6, hcase⟩
      have l5 := l3.bs hn35
      have b5 := b_h.bs hn35
      have e6 : marks mkByte (hs[i].k + k) hs[i].n ++ [mkByte hs[i].n] = marks mkByte (hs[i].k + (k + 1)) hs[i].n := marks_more
      rw [e6] at r6
      have hgA : some A_h ≠ g.ownBlock := fun e => by
        rcases hgb _ e.symm with h2 | h2
        · have := hvb _ h2; omega
        · omega
      have l6 : Sl w6 1 hs[i].v hs[i].k (marks mkByte hs[i].k hs[i].n) := grow_keeps r0 (.inl r6) hg6 hcase l5 (by omega) (by simp [marks])
      have hgb' : ∀ b, g'.ownBlock = some b → hs[i].v.ownBlock = some b ∨ w2.heap.size ≤ b := fun b e => by
        rcases hcase with h2 | ⟨h2, -⟩
        · rw [h2] at e; exact hgb b e
        · exact .inr (by have := h2 b e; omega)
      refine Lw.val (Ex.assign rfl) rfl ?_
      refine Lw.nil ?_
      refine Pw.blkN ?_
      refine Pw.thenN (Cw.out ?_)
      refine Cw.region ?_
      refine Lw.val (Ex.move rfl) rfl ?_
      refine Lw.val (Ex.addI rfl rfl (by omega)) rfl ?_
      refine Lw.val (Ex.assign rfl) rfl ?_
      refine Lw.nil ?_
      exact Pw.thenN (Pw.next ((k + 1, g')) ⟨rfl, rfl, rfl, rfl, rfl, trivial⟩ (⟨hk', b5.by hg6 hgA, (hd3.below hn35).grown hg6 hgb, .inl r6, hgb', l6⟩) (by simp only; omega))
    intro h
    have hk' : k = 40 := by simp at h; omega
    subst hk'
    have hall : Chg (fun b => hs[i].v.ownBlock = some b) w1 w3 := (Chg.of_below hn2).trans hd3
    have hcS : Chg (fun b => blks hs b ∨ u.ownBlock = some b) w w3 := hc.trans (hall.mono fun b e => .inl ⟨_, hm, e⟩)
    have b3 := hA.chg hcS (fun e => e.elim hb1 hb3)
    have o3 := own_chg o1 hall (fun b e1 e2 => hb2 b e1 ⟨_, hm, e2⟩)
    refine Cw.exit ?_
    refine Pw.thenE ?_
    refine Pw.thenE ?_
    refine Pw.blkHit ?_
    refine Pw.thenN (Cw.out ?_)
    refine Cw.region ?_
    refine Lw.val (Ex.move rfl) rfl ?_
    refine Lw.val (Ex.nilCheck rfl) rfl ?_
    refine Lw.val (Ex.fieldAddr (q := 0) Tryz.underlying51 rfl (sz_35 _) rfl) rfl ?_
    refine Lw.val (Ex.ldB (ag_35 _) rfl b3 hu) rfl ?_
    refine Lw.val (Ex.move rfl) rfl ?_
    refine Lw.val (Ex.move rfl) rfl ?_
    refine Lw.val (Ex.idx st_35 rfl rfl (own_sl o3) i rfl hi') rfl ?_
    refine Lw.val (Ex.fieldAddrE Tryz.underlying99 rfl (sz_97 _) rfl (own_some o3 (by omega))) rfl ?_
    refine Lw.unit (Xu.stO (j := i * 3 + 1) (sz_97 _) rfl rfl r3.sl.one' o3 (by rw [hcells_len]; omega)) ?_
    rintro w4 ⟨o4, hg4, -⟩
    have e4 := hcells_set hit g
    have o4 : w4.ownsRow lo 99 3 u hs.length (hcells (ts.set i { ts[i] with g := g })) := by rw [← e4]; exact o4
    have hG4 := hG.set hi' hit (g := g) (fun b e => by
      rcases hgb b e with h2 | h2
      · exact .inl h2
      · exact .inr (by omega))
    have hall4 : Chg (fun b => hs[i].v.ownBlock = some b ∨ u.ownBlock = some b) w1 w4 := (hall.mono fun b e => .inl e).grown hg4 (fun b e => .inl (.inr e))
    have hS4 : Chg (fun b => blks hs b ∨ u.ownBlock = some b) w w4 := hcS.grown hg4 (fun b e => .inl (.inr e))
    have t4 : Tall w4 mkByte { ts[i] with g := g } := by
      refine ⟨?_, ?_⟩
      · simp only; rw [ev, ek, en]
        refine l3.by hg4 ?_
        cases hv : hs[i].v.ownBlock with
        | none => exact .inl rfl
        | some b => exact .inr fun e => hb2 b e.symm ⟨_, hm, hv⟩
      · simp only; rw [ek, en]
        refine r3.sl.by hg4 ?_
        cases hv : g.ownBlock with
        | none => exact .inl rfl
        | some b =>
          refine .inr fun e => ?_
          rcases hgb b hv with h2 | h2
          · exact hb2 b e.symm ⟨_, hm, h2⟩
          · have := (own_block ho b e.symm).2; omega
    have h14 : ∀ t ∈ ts.set i { ts[i] with g := g }, t.g.oneCell' = true := fun t htm => by
      rcases List.mem_or_eq_of_mem_set htm with h2 | h2
      · exact h1 t h2
      · rw [h2]; exact r3.sl.one'
    have hd4 : ∀ j (hj : j < (ts.set i { ts[i] with g := g }).length), j < i + 1 → Tall w4 mkByte (ts.set i { ts[i] with g := g })[j] := fun j hj hji => by
        rw [List.getElem_set]
        split
        · exact t4
        · rename_i hne
          have hj' : j < ts.length := by simpa using hj
          obtain ⟨fv, _, _, fg⟩ := hG.all j (by omega) hj'
          refine (hd j hj' (by omega)).chg hall4 (fun b e1 _ e2 => ?_) (fun b e1 _ e2 => ?_)
          · rw [fv] at e1
            rcases e2 with e2 | e2
            · exact apart_ne hk.apart hi' (show j < hs.length by omega) hne b e2 e1
            · exact hb2 b e2 ⟨_, List.getElem_mem _, e1⟩
          · rcases e2 with e2 | e2
            · rcases fg b e1 with h2 | h2
              · exact apart_ne hk.apart hi' (show j < hs.length by omega) hne b e2 h2
              · have := hvb b e2; omega
            · rcases fg b e1 with h2 | h2
              · exact hb2 b e2 ⟨_, List.getElem_mem _, h2⟩
              · have := (own_block ho b e2).2; omega
    have ht4 : ∀ j (hj : j < hs.length), i + 1 ≤ j → KRow w4 base 5 1 hs[j].v hs[j].k (marks mkByte hs[j].k hs[j].n) := fun j hj hji => (ht j hj (by omega)).chg hall4 (fun b e1 e2 => (by
        rcases e2 with e2 | e2
        · exact apart_ne hk.apart hi' hj (by omega) b e2 e1
        · exact hb2 b e2 ⟨_, List.getElem_mem _, e1⟩))
    refine Lw.nil ?_
    refine Pw.blkN ?_
    refine Pw.thenN (Cw.out ?_)
    refine Cw.region ?_
    refine Lw.val (Ex.move rfl) rfl ?_
    refine Lw.val (Ex.addI rfl rfl (by omega)) rfl ?_
    refine Lw.val (Ex.assign rfl) rfl ?_
    refine Lw.nil ?_
    exact Pw.thenN (Pw.next ((i + 1, ts.set i { ts[i] with g := g })) ⟨rfl, rfl, trivial⟩ (⟨hi', hG4, h14, hS4, o4, hd4, ht4⟩) (by simp only; omega))
  intro h
  have hi' : i = hs.length := by simp at h; omega
  refine Cw.exit ?_
  refine Pw.thenE ?_
  refine Pw.thenE ?_
  refine Pw.blkHit ?_
  refine Pw.end0 rfl ?_
  refine ⟨rfl, hc, ts, hG, o1, fun t htm => ?_⟩
  obtain ⟨j, hj, rfl⟩ := List.mem_iff_getElem.1 htm
  exact hd j hj (by omega)

theorem lookByte_c (A : Nat) (book : List Value) (u : Value) (ts : List Hd) (lo : Nat) (w : World) (hA : Blk w A bookT book) (hu : book[1]? = some u) (ho : w.ownsRow lo 99 3 u ts.length (hcells ts)) (ht : ∀ t ∈ ts, Tall w mkByte t) (hn : ∀ t ∈ ts, (0 ≤ t.n ∧ t.n ≤ 4000000) ∧ t.k ≤ 16777216) :
    Fnc Tryz.prog 75 [.pointer (some ⟨A, 0, none⟩)] w (fun r w' => r = .bool true ∧ Below w.heap.size w w') := by
  have hle := (own_sl ho).le
  refine Fnc.enter (n := 64) Tryz.func75 (by kernel_rfl) rfl rfl rfl ?_
  refine Cw.seq ?_
  refine Cw.region ?_
  refine Lw.val (Ex.assign rfl) rfl ?_
  refine Lw.nil ?_
  refine Pw.thenN (Cw.out ?_)
  refine Cw.seq ?_
  refine Cw.seq ?_
  refine Cw.region ?_
  refine Lw.val (Ex.assign rfl) rfl ?_
  refine Lw.nil ?_
  refine Pw.thenN (Cw.out ?_)
  refine Cw.block ?_
  refine Cw.loop (S := Nat) (fun i => [(0, .pointer (some ⟨A, 0, none⟩)), (2, .bool false), (3, .int .i64 (i : Int))]) (fun i w' => i ≤ ts.length ∧ Below w.heap.size w w') (fun i => ts.length - i) (0) ⟨rfl, rfl, rfl, trivial⟩ ?_ ?_
  · exact ⟨by omega, Below.refl _ _⟩
  rintro i w1 ⟨hi, hw1⟩
  have b1 := hA.bs hw1
  have s1 := (own_sl ho).bs hw1
  refine Cw.seq ?_
  refine Cw.seq ?_
  refine Cw.region ?_
  refine Lw.val (Ex.move rfl) rfl ?_
  refine Lw.val (Ex.move rfl) rfl ?_
  refine Lw.val (Ex.nilCheck rfl) rfl ?_
  refine Lw.val (Ex.fieldAddr (q := 0) Tryz.underlying51 rfl (sz_35 _) rfl) rfl ?_
  refine Lw.val (Ex.ldB (ag_35 _) rfl b1 hu) rfl ?_
  refine Lw.val (Ex.lenS (sz := 3) st_35 rfl s1) rfl ?_
  refine Lw.val (Ex.lss rfl rfl) rfl ?_
  refine Lw.nil ?_
  refine Pw.thenN (Cw.out ?_)
  refine Cw.cond rfl ?_ ?_
  · intro h
    have hi' : i < ts.length := by simp at h; omega
    have hm := List.getElem_mem hi'
    obtain ⟨hnum, hfew⟩ := hn _ hm
    have t1 := ht _ hm
    refine Cw.skip ?_
    refine Pw.thenN (Cw.out ?_)
    refine Cw.seq ?_
    refine Cw.block ?_
    refine Cw.seq ?_
    refine Cw.region ?_
    refine Lw.val (Ex.move rfl) rfl ?_
    refine Lw.val (Ex.nilCheck rfl) rfl ?_
    refine Lw.val (Ex.fieldAddr (q := 0) Tryz.underlying51 rfl (sz_35 _) rfl) rfl ?_
    refine Lw.val (Ex.ldB (ag_35 _) rfl b1 hu) rfl ?_
    refine Lw.val (Ex.move rfl) rfl ?_
    refine Lw.val (Ex.idx st_35 rfl rfl s1 i rfl hi') rfl ?_
    refine Lw.val (Ex.ldE (cs := ts[i].cells) (ag_99 _) (sz_99 _) rfl s1 rfl (by decide) (hcells_three hi')) rfl ?_
    refine Lw.boxed (cs := ts[i].cells) it_99 rfl rfl rfl rfl (fun _ => rfl) (by simp [Hd.cells, t1.l.one', t1.g.one', int_one]) ?_
    rintro A_h w2 eA_h b_h hn2 zhn2
    have hw2 := bt hw1 hn2
    have l2 := t1.l.bs hw2
    have g2 := t1.g.bs hw2
    refine Lw.nil ?_
    refine Pw.thenN (Cw.out ?_)
    refine Cw.seq ?_
    refine Cw.seq ?_
    refine Cw.region ?_
    refine Lw.val (Ex.fieldAddr (q := 0) Tryz.underlying99 rfl (sz_97 _) rfl) rfl ?_
    refine Lw.val (Ex.ldB (ag_97 _) rfl (by assumption) rfl) rfl ?_
    refine Lw.val (Ex.lenS (sz := 1) st_97 rfl g2) rfl ?_
    refine Lw.val (Ex.fieldAddr (q := 0) Tryz.underlying99 rfl (sz_97 _) rfl) rfl ?_
    refine Lw.val (Ex.ldB (ag_97 _) rfl (by assumption) rfl) rfl ?_
    refine Lw.val (Ex.lenS (sz := 1) st_97 rfl l2) rfl ?_
    refine Lw.val (Ex.addI rfl rfl (by omega)) rfl ?_
    refine Lw.val (Ex.neq rfl rfl) rfl ?_
    refine Lw.nil ?_
    refine Pw.thenN (Cw.out ?_)
    refine Cw.condB rfl false (by simp) ?_
    refine Cw.skip ?_
    refine Pw.thenN (Cw.out ?_)
    refine Cw.seq ?_
    refine Cw.region ?_
    refine Lw.val (Ex.assign rfl) rfl ?_
    refine Lw.nil ?_
    refine Pw.thenN (Cw.out ?_)
    refine Cw.block ?_
    refine Cw.loop (S := Nat) (fun k => [(0, .pointer (some ⟨A, 0, none⟩)), (2, .bool false), (3, .int .i64 (i : Int)), (4, .pointer (some ⟨A_h, 0, none⟩)), (5, .int .i64 (k : Int))]) (fun k w' => k ≤ ts[i].k + 40 ∧ Below w2.heap.size w2 w') (fun k => ts[i].k + 40 - k) (0) ⟨rfl, rfl, rfl, rfl, rfl, trivial⟩ ?_ ?_
    · exact ⟨by omega, Below.refl _ _⟩
    rintro k w3 ⟨hk3, hw3⟩
    have l3 := l2.bs hw3
    have g3 := g2.bs hw3
    have b3 := b_h.bs hw3
    refine Cw.seq ?_
    refine Cw.seq ?_
    refine Cw.region ?_
    refine Lw.val (Ex.move rfl) rfl ?_
    refine Lw.val (Ex.fieldAddr (q := 0) Tryz.underlying99 rfl (sz_97 _) rfl) rfl ?_
    refine Lw.val (Ex.ldB (ag_97 _) rfl (by assumption) rfl) rfl ?_
    refine Lw.val (Ex.lenS (sz := 1) st_97 rfl g3) rfl ?_
    refine Lw.val (Ex.lss rfl rfl) rfl ?_
    refine Lw.nil ?_
    refine Pw.thenN (Cw.out ?_)
    refine Cw.cond rfl ?_ ?_
    · intro h
      have hk' : k < ts[i].k + 40 := by simp at h; omega
      refine Cw.skip ?_
      refine Pw.thenN (Cw.out ?_)
      refine Cw.seq ?_
      refine Cw.block ?_
      refine Cw.seq ?_
      refine Cw.quiet mixed (by kernel_rfl) ?_
      refine Qw.val (fun w1 hq => Ex.fieldAddr (q := 0) Tryz.underlying99 rfl (sz_97 _) rfl) rfl ?_
      refine Qw.val (fun w1 hq => Ex.ldB (ag_97 _) rfl (Blk.bs (by assumption) hq) rfl) rfl ?_
      refine Qw.val (fun w1 hq => Ex.move rfl) rfl ?_
      refine Qw.val (fun w1 hq => Ex.idxS st_97 rfl rfl g3.shp k rfl hk') rfl ?_
      refine Qw.val (fun w1 hq => Ex.ld (u := mkByte ts[i].n) (ag_5 _) rfl (g3.bs hq) (marks_get hk')) rfl ?_
      refine Qw.val (fun w1 hq => Ex.fieldAddr (q := 0) Tryz.underlying99 rfl (sz_3 _) rfl) rfl ?_
      refine Qw.val (fun w1 hq => Ex.ldB (ag_3 _) rfl (Blk.bs (by assumption) hq) rfl) rfl ?_
      refine Qw.callF rfl rfl (fun w1 hq => (isByte_c ts[i].n w1 hnum).q hq) ?_
      refine Qw.val (fun w1 hq => Ex.not rfl) rfl ?_
      refine Qw.val (fun w1 hq => Ex.move rfl) rfl ?_
      refine Qw.know 46 (v' := .bool false) rfl (congrArg Value.bool (rfl)) ?_
      refine Qw.take (dj := 46) rfl rfl ?_
      refine Qw.val (fun w1 hq => Ex.move rfl) rfl ?_
      refine Qw.take (dj := 46) rfl rfl ?_
      refine Qw.val (fun w1 hq => Ex.fieldAddr (q := 0) Tryz.underlying99 rfl (sz_97 _) rfl) rfl ?_
      refine Qw.take (dj := 46) rfl rfl ?_
      refine Qw.val (fun w1 hq => Ex.ldB (ag_97 _) rfl (Blk.bs (by assumption) hq) rfl) rfl ?_
      refine Qw.take (dj := 46) rfl rfl ?_
      refine Qw.val (fun w1 hq => Ex.lenS (sz := 1) st_97 rfl (l3.bs hq)) rfl ?_
      refine Qw.take (dj := 46) rfl rfl ?_
      refine Qw.val (fun w1 hq => Ex.lss rfl rfl) rfl ?_
      refine Qw.take (dj := 46) rfl rfl ?_
      refine Qw.val (fun w1 hq => Ex.move rfl) rfl ?_
      refine Qw.part 52 rfl ?_ ?_
      · intro g
        have hkl : k < ts[i].k := by simpa using g
        refine Qw.take (dj := 52) rfl rfl ?_
        refine Qw.val (fun w1 hq => Ex.fieldAddr (q := 0) Tryz.underlying99 rfl (sz_97 _) rfl) rfl ?_
        refine Qw.take (dj := 52) rfl rfl ?_
        refine Qw.val (fun w1 hq => Ex.ldB (ag_97 _) rfl (Blk.bs (by assumption) hq) rfl) rfl ?_
        refine Qw.take (dj := 52) rfl rfl ?_
        refine Qw.val (fun w1 hq => Ex.move rfl) rfl ?_
        refine Qw.take (dj := 52) rfl rfl ?_
        refine Qw.val (fun w1 hq => Ex.idxS st_97 rfl rfl l3.shp k rfl hkl) rfl ?_
        refine Qw.take (dj := 52) rfl rfl ?_
        refine Qw.val (fun w1 hq => Ex.ld (u := mkByte ts[i].n) (ag_5 _) rfl (l3.bs hq) (marks_get hkl)) rfl ?_
        refine Qw.take (dj := 52) rfl rfl ?_
        refine Qw.val (fun w1 hq => Ex.fieldAddr (q := 0) Tryz.underlying99 rfl (sz_3 _) rfl) rfl ?_
        refine Qw.take (dj := 52) rfl rfl ?_
        refine Qw.val (fun w1 hq => Ex.ldB (ag_3 _) rfl (Blk.bs (by assumption) hq) rfl) rfl ?_
        refine Qw.take (dj := 52) rfl rfl ?_
        refine Qw.callF rfl rfl (fun w1 hq => (isByte_c ts[i].n w1 hnum).q hq) ?_
        refine Qw.take (dj := 52) rfl rfl ?_
        refine Qw.val (fun w1 hq => Ex.not rfl) rfl ?_
        refine Qw.take (dj := 46) rfl rfl ?_
        refine Qw.val (fun w1 hq => Ex.pickT rfl rfl) rfl ?_
        refine Qw.val (fun w1 hq => Ex.pickF rfl rfl) rfl ?_
        refine Qw.nil (fun w4 hq => ?_)
        refine Pw.thenN (Cw.out ?_)
        refine Cw.condB rfl false (rfl) ?_
        refine Cw.skip ?_
        refine Pw.blkN ?_
        refine Pw.thenN (Cw.out ?_)
        refine Cw.region ?_
        refine Lw.val (Ex.move rfl) rfl ?_
        refine Lw.val (Ex.addI rfl rfl (by omega)) rfl ?_
        refine Lw.val (Ex.assign rfl) rfl ?_
        refine Lw.nil ?_
        exact Pw.thenN (Pw.next (k + 1) ⟨rfl, rfl, rfl, rfl, rfl, trivial⟩ (⟨hk', bt hw3 hq⟩) (by omega))
      · intro g
        refine Qw.pass (dj := 52) rfl rfl rfl rfl ?_
        refine Qw.pass (dj := 52) rfl rfl rfl rfl ?_
        refine Qw.pass (dj := 52) rfl rfl rfl rfl ?_
        refine Qw.pass (dj := 52) rfl rfl rfl rfl ?_
        refine Qw.pass (dj := 52) rfl rfl rfl rfl ?_
        refine Qw.pass (dj := 52) rfl rfl rfl rfl ?_
        refine Qw.pass (dj := 52) rfl rfl rfl rfl ?_
        refine Qw.pass (dj := 52) rfl rfl rfl rfl ?_
        refine Qw.pass (dj := 52) rfl rfl rfl rfl ?_
        refine Qw.take (dj := 46) rfl rfl ?_
        refine Qw.val (fun w1 hq => Ex.pickF rfl rfl) rfl ?_
        refine Qw.val (fun w1 hq => Ex.pickF rfl rfl) rfl ?_
        refine Qw.nil (fun w4 hq => ?_)
        refine Pw.thenN (Cw.out ?_)
        refine Cw.condF rfl ?_
        refine Cw.skip ?_
        refine Pw.blkN ?_
        refine Pw.thenN (Cw.out ?_)
        refine Cw.region ?_
        refine Lw.val (Ex.move rfl) rfl ?_
        refine Lw.val (Ex.addI rfl rfl (by omega)) rfl ?_
        refine Lw.val (Ex.assign rfl) rfl ?_
        refine Lw.nil ?_
        exact Pw.thenN (Pw.next (k + 1) ⟨rfl, rfl, rfl, rfl, rfl, trivial⟩ (⟨hk', bt hw3 hq⟩) (by omega))
    intro h
    refine Cw.exit ?_
    refine Pw.thenE ?_
    refine Pw.thenE ?_
    refine Pw.blkHit ?_
    refine Pw.blkN ?_
    refine Pw.thenN (Cw.out ?_)
    refine Cw.region ?_
    refine Lw.val (Ex.move rfl) rfl ?_
    refine Lw.val (Ex.addI rfl rfl (by omega)) rfl ?_
    refine Lw.val (Ex.assign rfl) rfl ?_
    refine Lw.nil ?_
    exact Pw.thenN (Pw.next (i + 1) ⟨rfl, rfl, rfl, trivial⟩ (⟨hi', bt hw2 hw3⟩) (by omega))
  intro h
  refine Cw.exit ?_
  refine Pw.thenE ?_
  refine Pw.thenE ?_
  refine Pw.blkHit ?_
  refine Pw.thenN (Cw.out ?_)
  refine Cw.seq ?_
  refine Cw.region ?_
  refine Lw.val (Ex.assign rfl) rfl ?_
  refine Lw.nil ?_
  refine Pw.thenN (Cw.out ?_)
  refine Cw.ret ?_
  refine Pw.ret1 rfl rfl ?_
  exact ⟨rfl, hw1⟩


/-! ### Int -/
abbrev mkInt (n : Int) : Value := .int .i64 (-n)
theorem markInt_c (n : Int) (w : World) (_hn : 0 ≤ n ∧ n ≤ 4000000) : Fnc Tryz.prog 117 [.int .i64 n] w (fun r w' => r = mkInt n ∧ Below w.heap.size w w') := by
  refine Fnc.enter (n := 5) Tryz.func117 (by kernel_rfl) rfl rfl rfl ?_
  refine Cw.seq ?_
  refine Cw.region ?_
  refine Lw.val (Ex.assign rfl) rfl ?_
  refine Lw.nil ?_
  refine Pw.thenN (Cw.out ?_)
  refine Cw.seq ?_
  refine Cw.region ?_
  refine Lw.val (Ex.move rfl) rfl ?_
  refine Lw.val (Ex.negI rfl (by omega)) rfl ?_
  refine Lw.val (Ex.assign rfl) rfl ?_
  refine Lw.nil ?_
  refine Pw.thenN (Cw.out ?_)
  refine Cw.ret ?_
  refine Pw.ret1 rfl rfl ?_
  exact ⟨rfl, Below.refl _ _⟩
theorem isInt_c (n : Int) (w : World) (_hn : 0 ≤ n ∧ n ≤ 4000000) : Fnc Tryz.prog 132 [mkInt n, .int .i64 n] w (fun r w' => r = .bool true ∧ Below w.heap.size w w') := by
  refine Fnc.enter (n := 9) Tryz.func132 (by kernel_rfl) rfl rfl rfl ?_
  refine Cw.seq ?_
  refine Cw.region ?_
  refine Lw.val (Ex.assign rfl) rfl ?_
  refine Lw.nil ?_
  refine Pw.thenN (Cw.out ?_)
  refine Cw.seq ?_
  refine Cw.region ?_
  refine Lw.val (Ex.move rfl) rfl ?_
  refine Lw.val (Ex.move rfl) rfl ?_
  refine Lw.val (Ex.negI rfl (by omega)) rfl ?_
  refine Lw.val (Ex.eql rfl rfl) rfl ?_
  refine Lw.val (Ex.assign rfl) rfl ?_
  refine Lw.nil ?_
  refine Pw.thenN (Cw.out ?_)
  refine Cw.ret ?_
  refine Pw.ret1 rfl rfl ?_
  exact ⟨congrArg Value.bool (by simp), Below.refl _ _⟩

theorem fillInt_c (A : Nat) (book : List Value) (u : Value) (hs : List Hd) (lo base : Nat) (w : World) (hA : Blk w A bookT book) (hu : book[2]? = some u) (ho : w.ownsRow lo 102 3 u hs.length (hcells hs)) (hk : Kept w base 3 1 hs)
    (hb1 : ¬ blks hs A) (hb2 : ∀ b, u.ownBlock = some b → ¬ blks hs b) :
    Fnc Tryz.prog 46 [.pointer (some ⟨A, 0, none⟩)] w (fun r w' => r = .tuple #[] ∧ Chg (blks hs) w w' ∧ Full w' base 3 mkInt hs) := by
  have hle := (own_sl ho).le
  refine Fnc.enter (n := 35) Tryz.func46 (by kernel_rfl) rfl rfl rfl ?_
  refine Cw.seq ?_
  refine Cw.region ?_
  refine Lw.val (Ex.assign rfl) rfl ?_
  refine Lw.nil ?_
  refine Pw.thenN (Cw.out ?_)
  refine Cw.block ?_
  refine Cw.loop (S := Nat) (fun i => [(0, .pointer (some ⟨A, 0, none⟩)), (2, .int .i64 (i : Int))]) (fun i w' => i ≤ hs.length ∧ Chg (blks hs) w w' ∧ (∀ j (hj : j < hs.length), j < i → KRow w' base 3 1 hs[j].v hs[j].k (marks mkInt hs[j].k hs[j].n)) ∧ (∀ j (hj : j < hs.length), i ≤ j → KRow w' base 3 1 hs[j].v hs[j].k hs[j].xs)) (fun i => hs.length - i) (0) ⟨rfl, rfl, trivial⟩ ?_ ?_
  · exact ⟨by omega, Chg.refl _ _, fun j hj h => by omega, fun j hj _ => hk.own _ (List.getElem_mem hj)⟩
  rintro i w1 ⟨hi, hc, hd, ht⟩
  have b1 := hA.chg hc hb1
  have o1 := own_sl (own_chg ho hc hb2)
  refine Cw.seq ?_
  refine Cw.seq ?_
  refine Cw.region ?_
  refine Lw.val (Ex.move rfl) rfl ?_
  refine Lw.val (Ex.move rfl) rfl ?_
  refine Lw.val (Ex.nilCheck rfl) rfl ?_
  refine Lw.val (Ex.fieldAddr (q := 0) Tryz.underlying51 rfl (sz_36 _) rfl) rfl ?_
  refine Lw.val (Ex.ldB (ag_36 _) rfl b1 hu) rfl ?_
  refine Lw.val (Ex.lenS (sz := 3) st_36 rfl o1) rfl ?_
  refine Lw.val (Ex.lss rfl rfl) rfl ?_
  refine Lw.nil ?_
  refine Pw.thenN (Cw.out ?_)
  refine Cw.cond rfl ?_ ?_
  · intro h
    have hi' : i < hs.length := by simp at h; omega
    have hm := List.getElem_mem hi'
    have hfew := hk.few _ hm
    have hnum := hk.num _ hm
    have hone : hs[i].g.oneCell' = true := by rw [hk.new _ hm]; rfl
    have hxl := (hk.own _ hm).len
    have hvb : ∀ b, hs[i].v.ownBlock = some b → b < w.heap.size := fun b e => (hk.blk ⟨_, hm, e⟩).2
    refine Cw.skip ?_
    refine Pw.thenN (Cw.out ?_)
    refine Cw.seq ?_
    refine Cw.block ?_
    refine Cw.seq ?_
    refine Cw.region ?_
    refine Lw.val (Ex.move rfl) rfl ?_
    refine Lw.val (Ex.nilCheck rfl) rfl ?_
    refine Lw.val (Ex.fieldAddr (q := 0) Tryz.underlying51 rfl (sz_36 _) rfl) rfl ?_
    refine Lw.val (Ex.ldB (ag_36 _) rfl b1 hu) rfl ?_
    refine Lw.val (Ex.move rfl) rfl ?_
    refine Lw.val (Ex.idx st_36 rfl rfl o1 i rfl hi') rfl ?_
    refine Lw.val (Ex.ldE (cs := hs[i].cells) (ag_102 _) (sz_102 _) rfl o1 rfl (by decide) (hcells_three hi')) rfl ?_
    refine Lw.boxed (cs := hs[i].cells) it_102 rfl rfl rfl rfl (fun _ => rfl) (by simp [Hd.cells, (hk.own _ hm).sl.one', hone, int_one]) ?_
    rintro A_h w2 eA_h b_h hn2 zhn2
    have hc2 := hc.below hn2
    have z1 := hc.size
    have r0 := (ht i hi' (Nat.le_refl _)).bs hn2
    refine Lw.nil ?_
    refine Pw.thenN (Cw.out ?_)
    refine Cw.seq ?_
    refine Cw.region ?_
    refine Lw.val (Ex.assign rfl) rfl ?_
    refine Lw.nil ?_
    refine Pw.thenN (Cw.out ?_)
    refine Cw.block ?_
    refine Cw.loop (S := Nat) (fun k => [(0, .pointer (some ⟨A, 0, none⟩)), (2, .int .i64 (i : Int)), (3, .pointer (some ⟨A_h, 0, none⟩)), (4, .int .i64 (k : Int))]) (fun k w' => k ≤ hs[i].k ∧ Blk w' A_h 102 hs[i].cells ∧ Chg (blks hs) w w' ∧ Chg (fun b => hs[i].v.ownBlock = some b) w2 w' ∧ KRow w' base 3 1 hs[i].v hs[i].k (marks mkInt k hs[i].n ++ hs[i].xs.drop k)) (fun k => hs[i].k - k) (0) ⟨rfl, rfl, rfl, rfl, trivial⟩ ?_ ?_
    · exact ⟨by omega, b_h, hc2, Chg.refl _ _, by simpa [marks] using r0⟩
    clear b_h r0
    rintro k w3 ⟨hk3, b_h, hc3, hd3, r3⟩
    refine Cw.seq ?_
    refine Cw.seq ?_
    refine Cw.region ?_
    refine Lw.val (Ex.move rfl) rfl ?_
    refine Lw.val (Ex.fieldAddr (q := 0) Tryz.underlying102 rfl (sz_26 _) rfl) rfl ?_
    refine Lw.val (Ex.ldB (ag_26 _) rfl (by assumption) rfl) rfl ?_
    refine Lw.val (Ex.lenS (sz := 1) st_26 rfl r3.sl) rfl ?_
    refine Lw.val (Ex.lss rfl rfl) rfl ?_
    refine Lw.nil ?_
    refine Pw.thenN (Cw.out ?_)
    refine Cw.cond rfl ?_ ?_
    · intro h
      have hk' : k < hs[i].k := by simp at h; omega
      refine Cw.skip ?_
      refine Pw.thenN (Cw.out ?_)
      refine Cw.seq ?_
      refine Cw.block ?_
      refine Cw.tail 7 mixed (by kernel_rfl) ?_
      refine Qw.val (fun w1 hq => Ex.fieldAddr (q := 0) Tryz.underlying102 rfl (sz_26 _) rfl) rfl ?_
      refine Qw.val (fun w1 hq => Ex.ldB (ag_26 _) rfl (Blk.bs (by assumption) hq) rfl) rfl ?_
      refine Qw.val (fun w1 hq => Ex.move rfl) rfl ?_
      refine Qw.val (fun w1 hq => Ex.fieldAddr (q := 0) Tryz.underlying102 rfl (sz_3 _) rfl) rfl ?_
      refine Qw.val (fun w1 hq => Ex.ldB (ag_3 _) rfl (Blk.bs (by assumption) hq) rfl) rfl ?_
      refine Qw.callF rfl rfl (fun w1 hq => (markInt_c hs[i].n w1 hnum).q hq) ?_
      refine Qw.val (fun w1 hq => Ex.idxS st_26 rfl rfl r3.sl.shp k rfl hk') rfl ?_
      refine Qw.done (fun w4 hq => ?_)
      refine Lw.unit (Xu.stK (sz_3 _) rfl rfl rfl (r3.bs hq) (by rw [marks_len (by simpa using hxl) hk3]; exact hk')) ?_
      rintro w5 ⟨r5, hg5, -⟩
      rw [marks_step (by simpa using hxl) hk'] at r5
      have b5 := (b_h.bs hq).by hg5 (fun e => by have := hvb _ e.symm; omega)
      refine Lw.nil ?_
      refine Pw.blkN ?_
      refine Pw.thenN (Cw.out ?_)
      refine Cw.region ?_
      refine Lw.val (Ex.move rfl) rfl ?_
      refine Lw.val (Ex.addI rfl rfl (by omega)) rfl ?_
      refine Lw.val (Ex.assign rfl) rfl ?_
      refine Lw.nil ?_
      exact Pw.thenN (Pw.next (k + 1) ⟨rfl, rfl, rfl, rfl, trivial⟩ (⟨hk', b5, (hc3.below hq).grown hg5 (fun b e => .inl ⟨_, hm, e⟩), (hd3.below hq).grown hg5 (fun b e => .inl e), r5⟩) (by omega))
    intro h
    have hk' : k = hs[i].k := by simp at h; omega
    rw [List.drop_of_length_le (by omega), List.append_nil, hk'] at r3
    have hall : Chg (fun b => hs[i].v.ownBlock = some b) w1 w3 := (Chg.of_below hn2).trans hd3
    refine Cw.exit ?_
    refine Pw.thenE ?_
    refine Pw.thenE ?_
    refine Pw.blkHit ?_
    refine Pw.blkN ?_
    refine Pw.thenN (Cw.out ?_)
    refine Cw.region ?_
    refine Lw.val (Ex.move rfl) rfl ?_
    refine Lw.val (Ex.addI rfl rfl (by omega)) rfl ?_
    refine Lw.val (Ex.assign rfl) rfl ?_
    refine Lw.nil ?_
    exact Pw.thenN (Pw.next (i + 1) ⟨rfl, rfl, trivial⟩ (⟨hi', hc3, fun j hj hji => (if e : j = i then by subst e; exact r3 else (hd j hj (by omega)).chg hall fun b e1 e2 => apart_ne hk.apart hi' hj (Ne.symm e) b e2 e1), fun j hj hji => (ht j hj (by omega)).chg hall fun b e1 e2 => apart_ne hk.apart hi' hj (by omega) b e2 e1⟩) (by omega))
  intro h
  have hi' : i = hs.length := by simp at h; omega
  refine Cw.exit ?_
  refine Pw.thenE ?_
  refine Pw.thenE ?_
  refine Pw.blkHit ?_
  refine Pw.end0 rfl ?_
  refine ⟨rfl, hc, fun x hx => ?_⟩
  obtain ⟨j, hj, rfl⟩ := List.mem_iff_getElem.1 hx
  exact hd j hj (by omega)

theorem growInt_c (A : Nat) (book : List Value) (u : Value) (hs : List Hd) (lo base : Nat) (w : World) (hA : Blk w A bookT book) (hu : book[2]? = some u) (ho : w.ownsRow lo 102 3 u hs.length (hcells hs)) (hk : KOk hs) (hf : Full w base 3 mkInt hs)
    (hb1 : ¬ blks hs A) (hb2 : ∀ b, u.ownBlock = some b → ¬ blks hs b) (hb3 : u.ownBlock ≠ some A) (hbase : base ≤ w.heap.size) :
    Fnc Tryz.prog 61 [.pointer (some ⟨A, 0, none⟩)] w (fun r w' => r = .tuple #[] ∧ Chg (fun b => blks hs b ∨ u.ownBlock = some b) w w' ∧ ∃ ts, Grown w hs ts ∧ w'.ownsRow lo 102 3 u hs.length (hcells ts) ∧ ∀ t ∈ ts, Tall w' mkInt t) := by
  have hle := (own_sl ho).le
  refine Fnc.enter (n := 42) Tryz.func61 (by kernel_rfl) rfl rfl rfl ?_
  refine Cw.seq ?_
  refine Cw.region ?_
  refine Lw.val (Ex.assign rfl) rfl ?_
  refine Lw.nil ?_
  refine Pw.thenN (Cw.out ?_)
  refine Cw.block ?_
  refine Cw.loop (S := (Nat × List Hd)) (fun s => [(0, .pointer (some ⟨A, 0, none⟩)), (2, .int .i64 (s.1 : Int))]) (fun s w' => s.1 ≤ hs.length ∧ Grown w hs s.2 ∧ (∀ t ∈ s.2, t.g.oneCell' = true) ∧ Chg (fun b => blks hs b ∨ u.ownBlock = some b) w w' ∧ w'.ownsRow lo 102 3 u hs.length (hcells s.2) ∧ (∀ j (hj : j < s.2.length), j < s.1 → Tall w' mkInt s.2[j]) ∧ (∀ j (hj : j < hs.length), s.1 ≤ j → KRow w' base 3 1 hs[j].v hs[j].k (marks mkInt hs[j].k hs[j].n))) (fun s => hs.length - s.1) ((0, hs)) ⟨rfl, rfl, trivial⟩ ?_ ?_
  · exact ⟨by simp, Grown.refl w hk.new, fun t ht => (by rw [hk.new t ht]; rfl), Chg.refl _ _, ho, fun j hj h => by simp at h, fun j hj _ => hf _ (List.getElem_mem hj)⟩
  rintro ⟨i, ts⟩ w1 ⟨hi, hG, h1, hc, o1, hd, ht⟩
  dsimp only at hi hG h1 hc o1 hd ht ⊢
  have b1 := hA.chg hc (fun e => e.elim hb1 hb3)
  have s1 := own_sl o1
  have hlen := hG.len
  refine Cw.seq ?_
  refine Cw.seq ?_
  refine Cw.region ?_
  refine Lw.val (Ex.move rfl) rfl ?_
  refine Lw.val (Ex.move rfl) rfl ?_
  refine Lw.val (Ex.nilCheck rfl) rfl ?_
  refine Lw.val (Ex.fieldAddr (q := 0) Tryz.underlying51 rfl (sz_36 _) rfl) rfl ?_
  refine Lw.val (Ex.ldB (ag_36 _) rfl b1 hu) rfl ?_
  refine Lw.val (Ex.lenS (sz := 3) st_36 rfl s1) rfl ?_
  refine Lw.val (Ex.lss rfl rfl) rfl ?_
  refine Lw.nil ?_
  refine Pw.thenN (Cw.out ?_)
  refine Cw.cond rfl ?_ ?_
  · intro h
    have hi' : i < hs.length := by simp at h; omega
    have hit : i < ts.length := by omega
    obtain ⟨ev, ek, en, eg⟩ := hG.all i hi' hit
    have hm := List.getElem_mem hi'
    have hmt := List.getElem_mem hit
    have hfew := hk.few _ hm
    have hnum := hk.num _ hm
    have hone := h1 _ hmt
    have hvb : ∀ b, hs[i].v.ownBlock = some b → b < w.heap.size := fun b e => (hf.blk ⟨_, hm, e⟩).2
    refine Cw.skip ?_
    refine Pw.thenN (Cw.out ?_)
    refine Cw.seq ?_
    refine Cw.block ?_
    refine Cw.seq ?_
    refine Cw.region ?_
    refine Lw.val (Ex.move rfl) rfl ?_
    refine Lw.val (Ex.nilCheck rfl) rfl ?_
    refine Lw.val (Ex.fieldAddr (q := 0) Tryz.underlying51 rfl (sz_36 _) rfl) rfl ?_
    refine Lw.val (Ex.ldB (ag_36 _) rfl b1 hu) rfl ?_
    refine Lw.val (Ex.move rfl) rfl ?_
    refine Lw.val (Ex.idx st_36 rfl rfl s1 i rfl hi') rfl ?_
    refine Lw.val (Ex.ldE (cs := ts[i].cells) (ag_102 _) (sz_102 _) rfl s1 rfl (by decide) (hcells_three hit)) rfl ?_
    refine Lw.boxed (cs := ts[i].cells) it_102 rfl rfl rfl rfl (fun _ => rfl) (by simp [Hd.cells, ev, (hf _ hm).sl.one', hone, int_one]) ?_
    rintro A_h w2 eA_h b_h hn2 zhn2
    have hc2 := hc.below hn2
    have z1 := hc.size
    have z2 := hc2.size
    have r0 := (ht i hi' (Nat.le_refl _)).bs hn2
    refine Lw.nil ?_
    refine Pw.thenN (Cw.out ?_)
    refine Cw.seq ?_
    refine Cw.region ?_
    refine Lw.val (Ex.fieldAddr (q := 0) Tryz.underlying102 rfl (sz_26 _) rfl) rfl ?_
    refine Lw.val (Ex.ldB (ag_26 _) rfl (by assumption) rfl) rfl ?_
    refine Lw.val (Ex.assign rfl) rfl ?_
    refine Lw.nil ?_
    refine Pw.thenN (Cw.out ?_)
    refine Cw.seq ?_
    refine Cw.seq ?_
    refine Cw.region ?_
    refine Lw.val (Ex.assign rfl) rfl ?_
    refine Lw.nil ?_
    refine Pw.thenN (Cw.out ?_)
    refine Cw.block ?_
    refine Cw.know 4 (v' := hs[i].v) rfl (ev) ?_
    refine Cw.loop (S := (Nat × Value)) (fun s => [(0, .pointer (some ⟨A, 0, none⟩)), (2, .int .i64 (i : Int)), (3, .pointer (some ⟨A_h, 0, none⟩)), (4, s.2), (5, .int .i64 (s.1 : Int))]) (fun s w' => s.1 ≤ 40 ∧ Blk w' A_h 102 ts[i].cells ∧ Chg (fun b => hs[i].v.ownBlock = some b) w2 w' ∧ KRow w' base 3 1 s.2 (hs[i].k + s.1) (marks mkInt (hs[i].k + s.1) hs[i].n) ∧ (∀ b, s.2.ownBlock = some b → hs[i].v.ownBlock = some b ∨ w2.heap.size ≤ b) ∧ Sl w' 1 hs[i].v hs[i].k (marks mkInt hs[i].k hs[i].n)) (fun s => 40 - s.1) ((0, hs[i].v)) ⟨rfl, rfl, rfl, rfl, rfl, trivial⟩ ?_ ?_
    · exact ⟨by simp, b_h, Chg.refl _ _, r0, fun b e => .inl e, r0.sl⟩
    clear b_h
    rintro ⟨k, g⟩ w3 ⟨hk3, b_h, hd3, r3, hgb, l3⟩
    dsimp only at hk3 r3 hgb ⊢
    have z3 := hd3.size
    refine Cw.seq ?_
    refine Cw.seq ?_
    refine Cw.region ?_
    refine Lw.val (Ex.move rfl) rfl ?_
    refine Lw.val (Ex.lss rfl rfl) rfl ?_
    refine Lw.nil ?_
    refine Pw.thenN (Cw.out ?_)
    refine Cw.cond rfl ?_ ?_
    · intro h
      have hk' : k < 40 := by simp at h; omega
      refine Cw.skip ?_
      refine Pw.thenN (Cw.out ?_)
      refine Cw.seq ?_
      refine Cw.block ?_
      refine Cw.region ?_
      refine Lw.val (Ex.move rfl) rfl ?_
      refine Lw.val (Ex.fieldAddr (q := 0) Tryz.underlying102 rfl (sz_3 _) rfl) rfl ?_
      refine Lw.val (Ex.ldB (ag_3 _) rfl (by assumption) rfl) rfl ?_
      refine Lw.know 30 (v' := .int .i64 hs[i].n) rfl (congrArg (Value.int .i64) en) ?_
      refine Lw.callF rfl rfl (markInt_c hs[i].n w3 hnum) ?_
      rintro _ w4 ⟨rfl, hn4⟩
      refine Lw.valW (Xw.lit (vs := [mkInt hs[i].n]) st_26 it_3 rfl rfl rfl rfl rfl) rfl ?_
      rintro nv w5 ⟨o5, -, hn5, -⟩
      have hn35 := bt hn4 hn5
      have z5 := hn35.size
      have r5 := r3.bs hn35
      refine Lw.valW (Xw.appendK (base := base) st_26 it_3 rfl (by decide) rfl rfl r5 (own_sl o5) rfl (by omega) (by omega) (by omega) (Nat.le_refl _)) rfl ?_
      rintro g' w6 ⟨r6, hg6, hcase⟩
      have l5 := l3.bs hn35
      have b5 := b_h.bs hn35
      have e6 : marks mkInt (hs[i].k + k) hs[i].n ++ [mkInt hs[i].n] = marks mkInt (hs[i].k + (k + 1)) hs[i].n := marks_more
      rw [e6] at r6
      have hgA : some A_h ≠ g.ownBlock := fun e => by
        rcases hgb _ e.symm with h2 | h2
        · have := hvb _ h2; omega
        · omega
      have l6 : Sl w6 1 hs[i].v hs[i].k (marks mkInt hs[i].k hs[i].n) := grow_keeps r0 (.inl r6) hg6 hcase l5 (by omega) (by simp [marks])
      have hgb' : ∀ b, g'.ownBlock = some b → hs[i].v.ownBlock = some b ∨ w2.heap.size ≤ b := fun b e => by
        rcases hcase with h2 | ⟨h2, -⟩
        · rw [h2] at e; exact hgb b e
        · exact .inr (by have := h2 b e; omega)
      refine Lw.val (Ex.assign rfl) rfl ?_
      refine Lw.nil ?_
      refine Pw.blkN ?_
      refine Pw.thenN (Cw.out ?_)
      refine Cw.region ?_
      refine Lw.val (Ex.move rfl) rfl ?_
      refine Lw.val (Ex.addI rfl rfl (by omega)) rfl ?_
      refine Lw.val (Ex.assign rfl) rfl ?_
      refine Lw.nil ?_
      exact Pw.thenN (Pw.next ((k + 1, g')) ⟨rfl, rfl, rfl, rfl, rfl, trivial⟩ (⟨hk', b5.by hg6 hgA, (hd3.below hn35).grown hg6 hgb, .inl r6, hgb', l6⟩) (by simp only; omega))
    intro h
    have hk' : k = 40 := by simp at h; omega
    subst hk'
    have hall : Chg (fun b => hs[i].v.ownBlock = some b) w1 w3 := (Chg.of_below hn2).trans hd3
    have hcS : Chg (fun b => blks hs b ∨ u.ownBlock = some b) w w3 := hc.trans (hall.mono fun b e => .inl ⟨_, hm, e⟩)
    have b3 := hA.chg hcS (fun e => e.elim hb1 hb3)
    have o3 := own_chg o1 hall (fun b e1 e2 => hb2 b e1 ⟨_, hm, e2⟩)
    refine Cw.exit ?_
    refine Pw.thenE ?_
    refine Pw.thenE ?_
    refine Pw.blkHit ?_
    refine Pw.thenN (Cw.out ?_)
    refine Cw.region ?_
    refine Lw.val (Ex.move rfl) rfl ?_
    refine Lw.val (Ex.nilCheck rfl) rfl ?_
    refine Lw.val (Ex.fieldAddr (q := 0) Tryz.underlying51 rfl (sz_36 _) rfl) rfl ?_
    refine Lw.val (Ex.ldB (ag_36 _) rfl b3 hu) rfl ?_
    refine Lw.val (Ex.move rfl) rfl ?_
    refine Lw.val (Ex.move rfl) rfl ?_
    refine Lw.val (Ex.idx st_36 rfl rfl (own_sl o3) i rfl hi') rfl ?_
    refine Lw.val (Ex.fieldAddrE Tryz.underlying102 rfl (sz_26 _) rfl (own_some o3 (by omega))) rfl ?_
    refine Lw.unit (Xu.stO (j := i * 3 + 1) (sz_26 _) rfl rfl r3.sl.one' o3 (by rw [hcells_len]; omega)) ?_
    rintro w4 ⟨o4, hg4, -⟩
    have e4 := hcells_set hit g
    have o4 : w4.ownsRow lo 102 3 u hs.length (hcells (ts.set i { ts[i] with g := g })) := by rw [← e4]; exact o4
    have hG4 := hG.set hi' hit (g := g) (fun b e => by
      rcases hgb b e with h2 | h2
      · exact .inl h2
      · exact .inr (by omega))
    have hall4 : Chg (fun b => hs[i].v.ownBlock = some b ∨ u.ownBlock = some b) w1 w4 := (hall.mono fun b e => .inl e).grown hg4 (fun b e => .inl (.inr e))
    have hS4 : Chg (fun b => blks hs b ∨ u.ownBlock = some b) w w4 := hcS.grown hg4 (fun b e => .inl (.inr e))
    have t4 : Tall w4 mkInt { ts[i] with g := g } := by
      refine ⟨?_, ?_⟩
      · simp only; rw [ev, ek, en]
        refine l3.by hg4 ?_
        cases hv : hs[i].v.ownBlock with
        | none => exact .inl rfl
        | some b => exact .inr fun e => hb2 b e.symm ⟨_, hm, hv⟩
      · simp only; rw [ek, en]
        refine r3.sl.by hg4 ?_
        cases hv : g.ownBlock with
        | none => exact .inl rfl
        | some b =>
          refine .inr fun e => ?_
          rcases hgb b hv with h2 | h2
          · exact hb2 b e.symm ⟨_, hm, h2⟩
          · have := (own_block ho b e.symm).2; omega
    have h14 : ∀ t ∈ ts.set i { ts[i] with g := g }, t.g.oneCell' = true := fun t htm => by
      rcases List.mem_or_eq_of_mem_set htm with h2 | h2
      · exact h1 t h2
      · rw [h2]; exact r3.sl.one'
    have hd4 : ∀ j (hj : j < (ts.set i { ts[i] with g := g }).length), j < i + 1 → Tall w4 mkInt (ts.set i { ts[i] with g := g })[j] := fun j hj hji => by
        rw [List.getElem_set]
        split
        · exact t4
        · rename_i hne
          have hj' : j < ts.length := by simpa using hj
          obtain ⟨fv, _, _, fg⟩ := hG.all j (by omega) hj'
          refine (hd j hj' (by omega)).chg hall4 (fun b e1 _ e2 => ?_) (fun b e1 _ e2 => ?_)
          · rw [fv] at e1
            rcases e2 with e2 | e2
            · exact apart_ne hk.apart hi' (show j < hs.length by omega) hne b e2 e1
            · exact hb2 b e2 ⟨_, List.getElem_mem _, e1⟩
          · rcases e2 with e2 | e2
            · rcases fg b e1 with h2 | h2
              · exact apart_ne hk.apart hi' (show j < hs.length by omega) hne b e2 h2
              · have := hvb b e2; omega
            · rcases fg b e1 with h2 | h2
              · exact hb2 b e2 ⟨_, List.getElem_mem _, h2⟩
              · have := (own_block ho b e2).2; omega
    have ht4 : ∀ j (hj : j < hs.length), i + 1 ≤ j → KRow w4 base 3 1 hs[j].v hs[j].k (marks mkInt hs[j].k hs[j].n) := fun j hj hji => (ht j hj (by omega)).chg hall4 (fun b e1 e2 => (by
        rcases e2 with e2 | e2
        · exact apart_ne hk.apart hi' hj (by omega) b e2 e1
        · exact hb2 b e2 ⟨_, List.getElem_mem _, e1⟩))
    refine Lw.nil ?_
    refine Pw.blkN ?_
    refine Pw.thenN (Cw.out ?_)
    refine Cw.region ?_
    refine Lw.val (Ex.move rfl) rfl ?_
    refine Lw.val (Ex.addI rfl rfl (by omega)) rfl ?_
    refine Lw.val (Ex.assign rfl) rfl ?_
    refine Lw.nil ?_
    exact Pw.thenN (Pw.next ((i + 1, ts.set i { ts[i] with g := g })) ⟨rfl, rfl, trivial⟩ (⟨hi', hG4, h14, hS4, o4, hd4, ht4⟩) (by simp only; omega))
  intro h
  have hi' : i = hs.length := by simp at h; omega
  refine Cw.exit ?_
  refine Pw.thenE ?_
  refine Pw.thenE ?_
  refine Pw.blkHit ?_
  refine Pw.end0 rfl ?_
  refine ⟨rfl, hc, ts, hG, o1, fun t htm => ?_⟩
  obtain ⟨j, hj, rfl⟩ := List.mem_iff_getElem.1 htm
  exact hd j hj (by omega)

theorem lookInt_c (A : Nat) (book : List Value) (u : Value) (ts : List Hd) (lo : Nat) (w : World) (hA : Blk w A bookT book) (hu : book[2]? = some u) (ho : w.ownsRow lo 102 3 u ts.length (hcells ts)) (ht : ∀ t ∈ ts, Tall w mkInt t) (hn : ∀ t ∈ ts, (0 ≤ t.n ∧ t.n ≤ 4000000) ∧ t.k ≤ 16777216) :
    Fnc Tryz.prog 76 [.pointer (some ⟨A, 0, none⟩)] w (fun r w' => r = .bool true ∧ Below w.heap.size w w') := by
  have hle := (own_sl ho).le
  refine Fnc.enter (n := 64) Tryz.func76 (by kernel_rfl) rfl rfl rfl ?_
  refine Cw.seq ?_
  refine Cw.region ?_
  refine Lw.val (Ex.assign rfl) rfl ?_
  refine Lw.nil ?_
  refine Pw.thenN (Cw.out ?_)
  refine Cw.seq ?_
  refine Cw.seq ?_
  refine Cw.region ?_
  refine Lw.val (Ex.assign rfl) rfl ?_
  refine Lw.nil ?_
  refine Pw.thenN (Cw.out ?_)
  refine Cw.block ?_
  refine Cw.loop (S := Nat) (fun i => [(0, .pointer (some ⟨A, 0, none⟩)), (2, .bool false), (3, .int .i64 (i : Int))]) (fun i w' => i ≤ ts.length ∧ Below w.heap.size w w') (fun i => ts.length - i) (0) ⟨rfl, rfl, rfl, trivial⟩ ?_ ?_
  · exact ⟨by omega, Below.refl _ _⟩
  rintro i w1 ⟨hi, hw1⟩
  have b1 := hA.bs hw1
  have s1 := (own_sl ho).bs hw1
  refine Cw.seq ?_
  refine Cw.seq ?_
  refine Cw.region ?_
  refine Lw.val (Ex.move rfl) rfl ?_
  refine Lw.val (Ex.move rfl) rfl ?_
  refine Lw.val (Ex.nilCheck rfl) rfl ?_
  refine Lw.val (Ex.fieldAddr (q := 0) Tryz.underlying51 rfl (sz_36 _) rfl) rfl ?_
  refine Lw.val (Ex.ldB (ag_36 _) rfl b1 hu) rfl ?_
  refine Lw.val (Ex.lenS (sz := 3) st_36 rfl s1) rfl ?_
  refine Lw.val (Ex.lss rfl rfl) rfl ?_
  refine Lw.nil ?_
  refine Pw.thenN (Cw.out ?_)
  refine Cw.cond rfl ?_ ?_
  · intro h
    have hi' : i < ts.length := by simp at h; omega
    have hm := List.getElem_mem hi'
    obtain ⟨hnum, hfew⟩ := hn _ hm
    have t1 := ht _ hm
    refine Cw.skip ?_
    refine Pw.thenN (Cw.out ?_)
    refine Cw.seq ?_
    refine Cw.block ?_
    refine Cw.seq ?_
    refine Cw.region ?_
    refine Lw.val (Ex.move rfl) rfl ?_
    refine Lw.val (Ex.nilCheck rfl) rfl ?_
    refine Lw.val (Ex.fieldAddr (q := 0) Tryz.underlying51 rfl (sz_36 _) rfl) rfl ?_
    refine Lw.val (Ex.ldB (ag_36 _) rfl b1 hu) rfl ?_
    refine Lw.val (Ex.move rfl) rfl ?_
    refine Lw.val (Ex.idx st_36 rfl rfl s1 i rfl hi') rfl ?_
    refine Lw.val (Ex.ldE (cs := ts[i].cells) (ag_102 _) (sz_102 _) rfl s1 rfl (by decide) (hcells_three hi')) rfl ?_
    refine Lw.boxed (cs := ts[i].cells) it_102 rfl rfl rfl rfl (fun _ => rfl) (by simp [Hd.cells, t1.l.one', t1.g.one', int_one]) ?_
    rintro A_h w2 eA_h b_h hn2 zhn2
    have hw2 := bt hw1 hn2
    have l2 := t1.l.bs hw2
    have g2 := t1.g.bs hw2
    refine Lw.nil ?_
    refine Pw.thenN (Cw.out ?_)
    refine Cw.seq ?_
    refine Cw.seq ?_
    refine Cw.region ?_
    refine Lw.val (Ex.fieldAddr (q := 0) Tryz.underlying102 rfl (sz_26 _) rfl) rfl ?_
    refine Lw.val (Ex.ldB (ag_26 _) rfl (by assumption) rfl) rfl ?_
    refine Lw.val (Ex.lenS (sz := 1) st_26 rfl g2) rfl ?_
    refine Lw.val (Ex.fieldAddr (q := 0) Tryz.underlying102 rfl (sz_26 _) rfl) rfl ?_
    refine Lw.val (Ex.ldB (ag_26 _) rfl (by assumption) rfl) rfl ?_
    refine Lw.val (Ex.lenS (sz := 1) st_26 rfl l2) rfl ?_
    refine Lw.val (Ex.addI rfl rfl (by omega)) rfl ?_
    refine Lw.val (Ex.neq rfl rfl) rfl ?_
    refine Lw.nil ?_
    refine Pw.thenN (Cw.out ?_)
    refine Cw.condB rfl false (by simp) ?_
    refine Cw.skip ?_
    refine Pw.thenN (Cw.out ?_)
    refine Cw.seq ?_
    refine Cw.region ?_
    refine Lw.val (Ex.assign rfl) rfl ?_
    refine Lw.nil ?_
    refine Pw.thenN (Cw.out ?_)
    refine Cw.block ?_
    refine Cw.loop (S := Nat) (fun k => [(0, .pointer (some ⟨A, 0, none⟩)), (2, .bool false), (3, .int .i64 (i : Int)), (4, .pointer (some ⟨A_h, 0, none⟩)), (5, .int .i64 (k : Int))]) (fun k w' => k ≤ ts[i].k + 40 ∧ Below w2.heap.size w2 w') (fun k => ts[i].k + 40 - k) (0) ⟨rfl, rfl, rfl, rfl, rfl, trivial⟩ ?_ ?_
    · exact ⟨by omega, Below.refl _ _⟩
    rintro k w3 ⟨hk3, hw3⟩
    have l3 := l2.bs hw3
    have g3 := g2.bs hw3
    have b3 := b_h.bs hw3
    refine Cw.seq ?_
    refine Cw.seq ?_
    refine Cw.region ?_
    refine Lw.val (Ex.move rfl) rfl ?_
    refine Lw.val (Ex.fieldAddr (q := 0) Tryz.underlying102 rfl (sz_26 _) rfl) rfl ?_
    refine Lw.val (Ex.ldB (ag_26 _) rfl (by assumption) rfl) rfl ?_
    refine Lw.val (Ex.lenS (sz := 1) st_26 rfl g3) rfl ?_
    refine Lw.val (Ex.lss rfl rfl) rfl ?_
    refine Lw.nil ?_
    refine Pw.thenN (Cw.out ?_)
    refine Cw.cond rfl ?_ ?_
    · intro h
      have hk' : k < ts[i].k + 40 := by simp at h; omega
      refine Cw.skip ?_
      refine Pw.thenN (Cw.out ?_)
      refine Cw.seq ?_
      refine Cw.block ?_
      refine Cw.seq ?_
      refine Cw.quiet mixed (by kernel_rfl) ?_
      refine Qw.val (fun w1 hq => Ex.fieldAddr (q := 0) Tryz.underlying102 rfl (sz_26 _) rfl) rfl ?_
      refine Qw.val (fun w1 hq => Ex.ldB (ag_26 _) rfl (Blk.bs (by assumption) hq) rfl) rfl ?_
      refine Qw.val (fun w1 hq => Ex.move rfl) rfl ?_
      refine Qw.val (fun w1 hq => Ex.idxS st_26 rfl rfl g3.shp k rfl hk') rfl ?_
      refine Qw.val (fun w1 hq => Ex.ld (u := mkInt ts[i].n) (ag_3 _) rfl (g3.bs hq) (marks_get hk')) rfl ?_
      refine Qw.val (fun w1 hq => Ex.fieldAddr (q := 0) Tryz.underlying102 rfl (sz_3 _) rfl) rfl ?_
      refine Qw.val (fun w1 hq => Ex.ldB (ag_3 _) rfl (Blk.bs (by assumption) hq) rfl) rfl ?_
      refine Qw.callF rfl rfl (fun w1 hq => (isInt_c ts[i].n w1 hnum).q hq) ?_
      refine Qw.val (fun w1 hq => Ex.not rfl) rfl ?_
      refine Qw.val (fun w1 hq => Ex.move rfl) rfl ?_
      refine Qw.know 46 (v' := .bool false) rfl (congrArg Value.bool (rfl)) ?_
      refine Qw.take (dj := 46) rfl rfl ?_
      refine Qw.val (fun w1 hq => Ex.move rfl) rfl ?_
      refine Qw.take (dj := 46) rfl rfl ?_
      refine Qw.val (fun w1 hq => Ex.fieldAddr (q := 0) Tryz.underlying102 rfl (sz_26 _) rfl) rfl ?_
      refine Qw.take (dj := 46) rfl rfl ?_
      refine Qw.val (fun w1 hq => Ex.ldB (ag_26 _) rfl (Blk.bs (by assumption) hq) rfl) rfl ?_
      refine Qw.take (dj := 46) rfl rfl ?_
      refine Qw.val (fun w1 hq => Ex.lenS (sz := 1) st_26 rfl (l3.bs hq)) rfl ?_
      refine Qw.take (dj := 46) rfl rfl ?_
      refine Qw.val (fun w1 hq => Ex.lss rfl rfl) rfl ?_
      refine Qw.take (dj := 46) rfl rfl ?_
      refine Qw.val (fun w1 hq => Ex.move rfl) rfl ?_
      refine Qw.part 52 rfl ?_ ?_
      · intro g
        have hkl : k < ts[i].k := by simpa using g
        refine Qw.take (dj := 52) rfl rfl ?_
        refine Qw.val (fun w1 hq => Ex.fieldAddr (q := 0) Tryz.underlying102 rfl (sz_26 _) rfl) rfl ?_
        refine Qw.take (dj := 52) rfl rfl ?_
        refine Qw.val (fun w1 hq => Ex.ldB (ag_26 _) rfl (Blk.bs (by assumption) hq) rfl) rfl ?_
        refine Qw.take (dj := 52) rfl rfl ?_
        refine Qw.val (fun w1 hq => Ex.move rfl) rfl ?_
        refine Qw.take (dj := 52) rfl rfl ?_
        refine Qw.val (fun w1 hq => Ex.idxS st_26 rfl rfl l3.shp k rfl hkl) rfl ?_
        refine Qw.take (dj := 52) rfl rfl ?_
        refine Qw.val (fun w1 hq => Ex.ld (u := mkInt ts[i].n) (ag_3 _) rfl (l3.bs hq) (marks_get hkl)) rfl ?_
        refine Qw.take (dj := 52) rfl rfl ?_
        refine Qw.val (fun w1 hq => Ex.fieldAddr (q := 0) Tryz.underlying102 rfl (sz_3 _) rfl) rfl ?_
        refine Qw.take (dj := 52) rfl rfl ?_
        refine Qw.val (fun w1 hq => Ex.ldB (ag_3 _) rfl (Blk.bs (by assumption) hq) rfl) rfl ?_
        refine Qw.take (dj := 52) rfl rfl ?_
        refine Qw.callF rfl rfl (fun w1 hq => (isInt_c ts[i].n w1 hnum).q hq) ?_
        refine Qw.take (dj := 52) rfl rfl ?_
        refine Qw.val (fun w1 hq => Ex.not rfl) rfl ?_
        refine Qw.take (dj := 46) rfl rfl ?_
        refine Qw.val (fun w1 hq => Ex.pickT rfl rfl) rfl ?_
        refine Qw.val (fun w1 hq => Ex.pickF rfl rfl) rfl ?_
        refine Qw.nil (fun w4 hq => ?_)
        refine Pw.thenN (Cw.out ?_)
        refine Cw.condB rfl false (rfl) ?_
        refine Cw.skip ?_
        refine Pw.blkN ?_
        refine Pw.thenN (Cw.out ?_)
        refine Cw.region ?_
        refine Lw.val (Ex.move rfl) rfl ?_
        refine Lw.val (Ex.addI rfl rfl (by omega)) rfl ?_
        refine Lw.val (Ex.assign rfl) rfl ?_
        refine Lw.nil ?_
        exact Pw.thenN (Pw.next (k + 1) ⟨rfl, rfl, rfl, rfl, rfl, trivial⟩ (⟨hk', bt hw3 hq⟩) (by omega))
      · intro g
        refine Qw.pass (dj := 52) rfl rfl rfl rfl ?_
        refine Qw.pass (dj := 52) rfl rfl rfl rfl ?_
        refine Qw.pass (dj := 52) rfl rfl rfl rfl ?_
        refine Qw.pass (dj := 52) rfl rfl rfl rfl ?_
        refine Qw.pass (dj := 52) rfl rfl rfl rfl ?_
        refine Qw.pass (dj := 52) rfl rfl rfl rfl ?_
        refine Qw.pass (dj := 52) rfl rfl rfl rfl ?_
        refine Qw.pass (dj := 52) rfl rfl rfl rfl ?_
        refine Qw.pass (dj := 52) rfl rfl rfl rfl ?_
        refine Qw.take (dj := 46) rfl rfl ?_
        refine Qw.val (fun w1 hq => Ex.pickF rfl rfl) rfl ?_
        refine Qw.val (fun w1 hq => Ex.pickF rfl rfl) rfl ?_
        refine Qw.nil (fun w4 hq => ?_)
        refine Pw.thenN (Cw.out ?_)
        refine Cw.condF rfl ?_
        refine Cw.skip ?_
        refine Pw.blkN ?_
        refine Pw.thenN (Cw.out ?_)
        refine Cw.region ?_
        refine Lw.val (Ex.move rfl) rfl ?_
        refine Lw.val (Ex.addI rfl rfl (by omega)) rfl ?_
        refine Lw.val (Ex.assign rfl) rfl ?_
        refine Lw.nil ?_
        exact Pw.thenN (Pw.next (k + 1) ⟨rfl, rfl, rfl, rfl, rfl, trivial⟩ (⟨hk', bt hw3 hq⟩) (by omega))
    intro h
    refine Cw.exit ?_
    refine Pw.thenE ?_
    refine Pw.thenE ?_
    refine Pw.blkHit ?_
    refine Pw.blkN ?_
    refine Pw.thenN (Cw.out ?_)
    refine Cw.region ?_
    refine Lw.val (Ex.move rfl) rfl ?_
    refine Lw.val (Ex.addI rfl rfl (by omega)) rfl ?_
    refine Lw.val (Ex.assign rfl) rfl ?_
    refine Lw.nil ?_
    exact Pw.thenN (Pw.next (i + 1) ⟨rfl, rfl, rfl, trivial⟩ (⟨hi', bt hw2 hw3⟩) (by omega))
  intro h
  refine Cw.exit ?_
  refine Pw.thenE ?_
  refine Pw.thenE ?_
  refine Pw.blkHit ?_
  refine Pw.thenN (Cw.out ?_)
  refine Cw.seq ?_
  refine Cw.region ?_
  refine Lw.val (Ex.assign rfl) rfl ?_
  refine Lw.nil ?_
  refine Pw.thenN (Cw.out ?_)
  refine Cw.ret ?_
  refine Pw.ret1 rfl rfl ?_
  exact ⟨rfl, hw1⟩


/-! ### Number -/
abbrev mkNumber (n : Int) : Value := i32 (BitVec.ofInt 32 (-n))
theorem markNumber_c (n : Int) (w : World) (_hn : 0 ≤ n ∧ n ≤ 4000000) : Fnc Tryz.prog 118 [.int .i64 n] w (fun r w' => r = mkNumber n ∧ Below w.heap.size w w') := by
  refine Fnc.enter (n := 6) Tryz.func118 (by kernel_rfl) rfl rfl rfl ?_
  refine Cw.seq ?_
  refine Cw.region ?_
  refine Lw.val (Ex.assign (show _ = some (i32 (0#32)) from rfl)) rfl ?_
  refine Lw.nil ?_
  refine Pw.thenN (Cw.out ?_)
  refine Cw.seq ?_
  refine Cw.region ?_
  refine Lw.val (Ex.move rfl) rfl ?_
  refine Lw.val (Ex.negI rfl (by omega)) rfl ?_
  refine Lw.val (Ex.convi32 us_3 un_21 rfl) rfl ?_
  refine Lw.val (Ex.assign rfl) rfl ?_
  refine Lw.nil ?_
  refine Pw.thenN (Cw.out ?_)
  refine Cw.ret ?_
  refine Pw.ret1 rfl rfl ?_
  exact ⟨rfl, Below.refl _ _⟩
theorem isNumber_c (n : Int) (w : World) (_hn : 0 ≤ n ∧ n ≤ 4000000) : Fnc Tryz.prog 133 [mkNumber n, .int .i64 n] w (fun r w' => r = .bool true ∧ Below w.heap.size w w') := by
  refine Fnc.enter (n := 10) Tryz.func133 (by kernel_rfl) rfl rfl rfl ?_
  refine Cw.seq ?_
  refine Cw.region ?_
  refine Lw.val (Ex.assign rfl) rfl ?_
  refine Lw.nil ?_
  refine Pw.thenN (Cw.out ?_)
  refine Cw.seq ?_
  refine Cw.region ?_
  refine Lw.val (Ex.move rfl) rfl ?_
  refine Lw.val (Ex.move rfl) rfl ?_
  refine Lw.val (Ex.negI rfl (by omega)) rfl ?_
  refine Lw.val (Ex.convi32 us_3 un_21 rfl) rfl ?_
  refine Lw.val (Ex.eqli32 rfl rfl) rfl ?_
  refine Lw.val (Ex.assign rfl) rfl ?_
  refine Lw.nil ?_
  refine Pw.thenN (Cw.out ?_)
  refine Cw.ret ?_
  refine Pw.ret1 rfl rfl ?_
  exact ⟨congrArg Value.bool (by simp), Below.refl _ _⟩

theorem fillNumber_c (A : Nat) (book : List Value) (u : Value) (hs : List Hd) (lo base : Nat) (w : World) (hA : Blk w A bookT book) (hu : book[3]? = some u) (ho : w.ownsRow lo 104 3 u hs.length (hcells hs)) (hk : Kept w base 21 1 hs)
    (hb1 : ¬ blks hs A) (hb2 : ∀ b, u.ownBlock = some b → ¬ blks hs b) :
    Fnc Tryz.prog 47 [.pointer (some ⟨A, 0, none⟩)] w (fun r w' => r = .tuple #[] ∧ Chg (blks hs) w w' ∧ Full w' base 21 mkNumber hs) := by
  have hle := (own_sl ho).le
  refine Fnc.enter (n := 35) Tryz.func47 (by kernel_rfl) rfl rfl rfl ?_
  refine Cw.seq ?_
  refine Cw.region ?_
  refine Lw.val (Ex.assign rfl) rfl ?_
  refine Lw.nil ?_
  refine Pw.thenN (Cw.out ?_)
  refine Cw.block ?_
  refine Cw.loop (S := Nat) (fun i => [(0, .pointer (some ⟨A, 0, none⟩)), (2, .int .i64 (i : Int))]) (fun i w' => i ≤ hs.length ∧ Chg (blks hs) w w' ∧ (∀ j (hj : j < hs.length), j < i → KRow w' base 21 1 hs[j].v hs[j].k (marks mkNumber hs[j].k hs[j].n)) ∧ (∀ j (hj : j < hs.length), i ≤ j → KRow w' base 21 1 hs[j].v hs[j].k hs[j].xs)) (fun i => hs.length - i) (0) ⟨rfl, rfl, trivial⟩ ?_ ?_
  · exact ⟨by omega, Chg.refl _ _, fun j hj h => by omega, fun j hj _ => hk.own _ (List.getElem_mem hj)⟩
  rintro i w1 ⟨hi, hc, hd, ht⟩
  have b1 := hA.chg hc hb1
  have o1 := own_sl (own_chg ho hc hb2)
  refine Cw.seq ?_
  refine Cw.seq ?_
  refine Cw.region ?_
  refine Lw.val (Ex.move rfl) rfl ?_
  refine Lw.val (Ex.move rfl) rfl ?_
  refine Lw.val (Ex.nilCheck rfl) rfl ?_
  refine Lw.val (Ex.fieldAddr (q := 0) Tryz.underlying51 rfl (sz_37 _) rfl) rfl ?_
  refine Lw.val (Ex.ldB (ag_37 _) rfl b1 hu) rfl ?_
  refine Lw.val (Ex.lenS (sz := 3) st_37 rfl o1) rfl ?_
  refine Lw.val (Ex.lss rfl rfl) rfl ?_
  refine Lw.nil ?_
  refine Pw.thenN (Cw.out ?_)
  refine Cw.cond rfl ?_ ?_
  · intro h
    have hi' : i < hs.length := by simp at h; omega
    have hm := List.getElem_mem hi'
    have hfew := hk.few _ hm
    have hnum := hk.num _ hm
    have hone : hs[i].g.oneCell' = true := by rw [hk.new _ hm]; rfl
    have hxl := (hk.own _ hm).len
    have hvb : ∀ b, hs[i].v.ownBlock = some b → b < w.heap.size := fun b e => (hk.blk ⟨_, hm, e⟩).2
    refine Cw.skip ?_
    refine Pw.thenN (Cw.out ?_)
    refine Cw.seq ?_
    refine Cw.block ?_
    refine Cw.seq ?_
    refine Cw.region ?_
    refine Lw.val (Ex.move rfl) rfl ?_
    refine Lw.val (Ex.nilCheck rfl) rfl ?_
    refine Lw.val (Ex.fieldAddr (q := 0) Tryz.underlying51 rfl (sz_37 _) rfl) rfl ?_
    refine Lw.val (Ex.ldB (ag_37 _) rfl b1 hu) rfl ?_
    refine Lw.val (Ex.move rfl) rfl ?_
    refine Lw.val (Ex.idx st_37 rfl rfl o1 i rfl hi') rfl ?_
    refine Lw.val (Ex.ldE (cs := hs[i].cells) (ag_104 _) (sz_104 _) rfl o1 rfl (by decide) (hcells_three hi')) rfl ?_
    refine Lw.boxed (cs := hs[i].cells) it_104 rfl rfl rfl rfl (fun _ => rfl) (by simp [Hd.cells, (hk.own _ hm).sl.one', hone, int_one]) ?_
    rintro A_h w2 eA_h b_h hn2 zhn2
    have hc2 := hc.below hn2
    have z1 := hc.size
    have r0 := (ht i hi' (Nat.le_refl _)).bs hn2
    refine Lw.nil ?_
    refine Pw.thenN (Cw.out ?_)
    refine Cw.seq ?_
    refine Cw.region ?_
    refine Lw.val (Ex.assign rfl) rfl ?_
    refine Lw.nil ?_
    refine Pw.thenN (Cw.out ?_)
    refine Cw.block ?_
    refine Cw.loop (S := Nat) (fun k => [(0, .pointer (some ⟨A, 0, none⟩)), (2, .int .i64 (i : Int)), (3, .pointer (some ⟨A_h, 0, none⟩)), (4, .int .i64 (k : Int))]) (fun k w' => k ≤ hs[i].k ∧ Blk w' A_h 104 hs[i].cells ∧ Chg (blks hs) w w' ∧ Chg (fun b => hs[i].v.ownBlock = some b) w2 w' ∧ KRow w' base 21 1 hs[i].v hs[i].k (marks mkNumber k hs[i].n ++ hs[i].xs.drop k)) (fun k => hs[i].k - k) (0) ⟨rfl, rfl, rfl, rfl, trivial⟩ ?_ ?_
    · exact ⟨by omega, b_h, hc2, Chg.refl _ _, by simpa [marks] using r0⟩
    clear b_h r0
    rintro k w3 ⟨hk3, b_h, hc3, hd3, r3⟩
    refine Cw.seq ?_
    refine Cw.seq ?_
    refine Cw.region ?_
    refine Lw.val (Ex.move rfl) rfl ?_
    refine Lw.val (Ex.fieldAddr (q := 0) Tryz.underlying104 rfl (sz_27 _) rfl) rfl ?_
    refine Lw.val (Ex.ldB (ag_27 _) rfl (by assumption) rfl) rfl ?_
    refine Lw.val (Ex.lenS (sz := 1) st_27 rfl r3.sl) rfl ?_
    refine Lw.val (Ex.lss rfl rfl) rfl ?_
    refine Lw.nil ?_
    refine Pw.thenN (Cw.out ?_)
    refine Cw.cond rfl ?_ ?_
    · intro h
      have hk' : k < hs[i].k := by simp at h; omega
      refine Cw.skip ?_
      refine Pw.thenN (Cw.out ?_)
      refine Cw.seq ?_
      refine Cw.block ?_
      refine Cw.tail 7 mixed (by kernel_rfl) ?_
      refine Qw.val (fun w1 hq => Ex.fieldAddr (q := 0) Tryz.underlying104 rfl (sz_27 _) rfl) rfl ?_
      refine Qw.val (fun w1 hq => Ex.ldB (ag_27 _) rfl (Blk.bs (by assumption) hq) rfl) rfl ?_
      refine Qw.val (fun w1 hq => Ex.move rfl) rfl ?_
      refine Qw.val (fun w1 hq => Ex.fieldAddr (q := 0) Tryz.underlying104 rfl (sz_3 _) rfl) rfl ?_
      refine Qw.val (fun w1 hq => Ex.ldB (ag_3 _) rfl (Blk.bs (by assumption) hq) rfl) rfl ?_
      refine Qw.callF rfl rfl (fun w1 hq => (markNumber_c hs[i].n w1 hnum).q hq) ?_
      refine Qw.val (fun w1 hq => Ex.idxS st_27 rfl rfl r3.sl.shp k rfl hk') rfl ?_
      refine Qw.done (fun w4 hq => ?_)
      refine Lw.unit (Xu.stK (sz_21 _) rfl rfl rfl (r3.bs hq) (by rw [marks_len (by simpa using hxl) hk3]; exact hk')) ?_
      rintro w5 ⟨r5, hg5, -⟩
      rw [marks_step (by simpa using hxl) hk'] at r5
      have b5 := (b_h.bs hq).by hg5 (fun e => by have := hvb _ e.symm; omega)
      refine Lw.nil ?_
      refine Pw.blkN ?_
      refine Pw.thenN (Cw.out ?_)
      refine Cw.region ?_
      refine Lw.val (Ex.move rfl) rfl ?_
      refine Lw.val (Ex.addI rfl rfl (by omega)) rfl ?_
      refine Lw.val (Ex.assign rfl) rfl ?_
      refine Lw.nil ?_
      exact Pw.thenN (Pw.next (k + 1) ⟨rfl, rfl, rfl, rfl, trivial⟩ (⟨hk', b5, (hc3.below hq).grown hg5 (fun b e => .inl ⟨_, hm, e⟩), (hd3.below hq).grown hg5 (fun b e => .inl e), r5⟩) (by omega))
    intro h
    have hk' : k = hs[i].k := by simp at h; omega
    rw [List.drop_of_length_le (by omega), List.append_nil, hk'] at r3
    have hall : Chg (fun b => hs[i].v.ownBlock = some b) w1 w3 := (Chg.of_below hn2).trans hd3
    refine Cw.exit ?_
    refine Pw.thenE ?_
    refine Pw.thenE ?_
    refine Pw.blkHit ?_
    refine Pw.blkN ?_
    refine Pw.thenN (Cw.out ?_)
    refine Cw.region ?_
    refine Lw.val (Ex.move rfl) rfl ?_
    refine Lw.val (Ex.addI rfl rfl (by omega)) rfl ?_
    refine Lw.val (Ex.assign rfl) rfl ?_
    refine Lw.nil ?_
    exact Pw.thenN (Pw.next (i + 1) ⟨rfl, rfl, trivial⟩ (⟨hi', hc3, fun j hj hji => (if e : j = i then by subst e; exact r3 else (hd j hj (by omega)).chg hall fun b e1 e2 => apart_ne hk.apart hi' hj (Ne.symm e) b e2 e1), fun j hj hji => (ht j hj (by omega)).chg hall fun b e1 e2 => apart_ne hk.apart hi' hj (by omega) b e2 e1⟩) (by omega))
  intro h
  have hi' : i = hs.length := by simp at h; omega
  refine Cw.exit ?_
  refine Pw.thenE ?_
  refine Pw.thenE ?_
  refine Pw.blkHit ?_
  refine Pw.end0 rfl ?_
  refine ⟨rfl, hc, fun x hx => ?_⟩
  obtain ⟨j, hj, rfl⟩ := List.mem_iff_getElem.1 hx
  exact hd j hj (by omega)

theorem growNumber_c (A : Nat) (book : List Value) (u : Value) (hs : List Hd) (lo base : Nat) (w : World) (hA : Blk w A bookT book) (hu : book[3]? = some u) (ho : w.ownsRow lo 104 3 u hs.length (hcells hs)) (hk : KOk hs) (hf : Full w base 21 mkNumber hs)
    (hb1 : ¬ blks hs A) (hb2 : ∀ b, u.ownBlock = some b → ¬ blks hs b) (hb3 : u.ownBlock ≠ some A) (hbase : base ≤ w.heap.size) :
    Fnc Tryz.prog 62 [.pointer (some ⟨A, 0, none⟩)] w (fun r w' => r = .tuple #[] ∧ Chg (fun b => blks hs b ∨ u.ownBlock = some b) w w' ∧ ∃ ts, Grown w hs ts ∧ w'.ownsRow lo 104 3 u hs.length (hcells ts) ∧ ∀ t ∈ ts, Tall w' mkNumber t) := by
  have hle := (own_sl ho).le
  refine Fnc.enter (n := 42) Tryz.func62 (by kernel_rfl) rfl rfl rfl ?_
  refine Cw.seq ?_
  refine Cw.region ?_
  refine Lw.val (Ex.assign rfl) rfl ?_
  refine Lw.nil ?_
  refine Pw.thenN (Cw.out ?_)
  refine Cw.block ?_
  refine Cw.loop (S := (Nat × List Hd)) (fun s => [(0, .pointer (some ⟨A, 0, none⟩)), (2, .int .i64 (s.1 : Int))]) (fun s w' => s.1 ≤ hs.length ∧ Grown w hs s.2 ∧ (∀ t ∈ s.2, t.g.oneCell' = true) ∧ Chg (fun b => blks hs b ∨ u.ownBlock = some b) w w' ∧ w'.ownsRow lo 104 3 u hs.length (hcells s.2) ∧ (∀ j (hj : j < s.2.length), j < s.1 → Tall w' mkNumber s.2[j]) ∧ (∀ j (hj : j < hs.length), s.1 ≤ j → KRow w' base 21 1 hs[j].v hs[j].k (marks mkNumber hs[j].k hs[j].n))) (fun s => hs.length - s.1) ((0, hs)) ⟨rfl, rfl, trivial⟩ ?_ ?_
  · exact ⟨by simp, Grown.refl w hk.new, fun t ht => (by rw [hk.new t ht]; rfl), Chg.refl _ _, ho, fun j hj h => by simp at h, fun j hj _ => hf _ (List.getElem_mem hj)⟩
  rintro ⟨i, ts⟩ w1 ⟨hi, hG, h1, hc, o1, hd, ht⟩
  dsimp only at hi hG h1 hc o1 hd ht ⊢
  have b1 := hA.chg hc (fun e => e.elim hb1 hb3)
  have s1 := own_sl o1
  have hlen := hG.len
  refine Cw.seq ?_
  refine Cw.seq ?_
  refine Cw.region ?_
  refine Lw.val (Ex.move rfl) rfl ?_
  refine Lw.val (Ex.move rfl) rfl ?_
  refine Lw.val (Ex.nilCheck rfl) rfl ?_
  refine Lw.val (Ex.fieldAddr (q := 0) Tryz.underlying51 rfl (sz_37 _) rfl) rfl ?_
  refine Lw.val (Ex.ldB (ag_37 _) rfl b1 hu) rfl ?_
  refine Lw.val (Ex.lenS (sz := 3) st_37 rfl s1) rfl ?_
  refine Lw.val (Ex.lss rfl rfl) rfl ?_
  refine Lw.nil ?_
  refine Pw.thenN (Cw.out ?_)
  refine Cw.cond rfl ?_ ?_
  · intro h
    have hi' : i < hs.length := by simp at h; omega
    have hit : i < ts.length := by omega
    obtain ⟨ev, ek, en, eg⟩ := hG.all i hi' hit
    have hm := List.getElem_mem hi'
    have hmt := List.getElem_mem hit
    have hfew := hk.few _ hm
    have hnum := hk.num _ hm
    have hone := h1 _ hmt
    have hvb : ∀ b, hs[i].v.ownBlock = some b → b < w.heap.size := fun b e => (hf.blk ⟨_, hm, e⟩).2
    refine Cw.skip ?_
    refine Pw.thenN (Cw.out ?_)
    refine Cw.seq ?_
    refine Cw.block ?_
    refine Cw.seq ?_
    refine Cw.region ?_
    refine Lw.val (Ex.move rfl) rfl ?_
    refine Lw.val (Ex.nilCheck rfl) rfl ?_
    refine Lw.val (Ex.fieldAddr (q := 0) Tryz.underlying51 rfl (sz_37 _) rfl) rfl ?_
    refine Lw.val (Ex.ldB (ag_37 _) rfl b1 hu) rfl ?_
    refine Lw.val (Ex.move rfl) rfl ?_
    refine Lw.val (Ex.idx st_37 rfl rfl s1 i rfl hi') rfl ?_
    refine Lw.val (Ex.ldE (cs := ts[i].cells) (ag_104 _) (sz_104 _) rfl s1 rfl (by decide) (hcells_three hit)) rfl ?_
    refine Lw.boxed (cs := ts[i].cells) it_104 rfl rfl rfl rfl (fun _ => rfl) (by simp [Hd.cells, ev, (hf _ hm).sl.one', hone, int_one]) ?_
    rintro A_h w2 eA_h b_h hn2 zhn2
    have hc2 := hc.below hn2
    have z1 := hc.size
    have z2 := hc2.size
    have r0 := (ht i hi' (Nat.le_refl _)).bs hn2
    refine Lw.nil ?_
    refine Pw.thenN (Cw.out ?_)
    refine Cw.seq ?_
    refine Cw.region ?_
    refine Lw.val (Ex.fieldAddr (q := 0) Tryz.underlying104 rfl (sz_27 _) rfl) rfl ?_
    refine Lw.val (Ex.ldB (ag_27 _) rfl (by assumption) rfl) rfl ?_
    refine Lw.val (Ex.assign rfl) rfl ?_
    refine Lw.nil ?_
    refine Pw.thenN (Cw.out ?_)
    refine Cw.seq ?_
    refine Cw.seq ?_
    refine Cw.region ?_
    refine Lw.val (Ex.assign rfl) rfl ?_
    refine Lw.nil ?_
    refine Pw.thenN (Cw.out ?_)
    refine Cw.block ?_
    refine Cw.know 4 (v' := hs[i].v) rfl (ev) ?_
    refine Cw.loop (S := (Nat × Value)) (fun s => [(0, .pointer (some ⟨A, 0, none⟩)), (2, .int .i64 (i : Int)), (3, .pointer (some ⟨A_h, 0, none⟩)), (4, s.2), (5, .int .i64 (s.1 : Int))]) (fun s w' => s.1 ≤ 40 ∧ Blk w' A_h 104 ts[i].cells ∧ Chg (fun b => hs[i].v.ownBlock = some b) w2 w' ∧ KRow w' base 21 1 s.2 (hs[i].k + s.1) (marks mkNumber (hs[i].k + s.1) hs[i].n) ∧ (∀ b, s.2.ownBlock = some b → hs[i].v.ownBlock = some b ∨ w2.heap.size ≤ b) ∧ Sl w' 1 hs[i].v hs[i].k (marks mkNumber hs[i].k hs[i].n)) (fun s => 40 - s.1) ((0, hs[i].v)) ⟨rfl, rfl, rfl, rfl, rfl, trivial⟩ ?_ ?_
    · exact ⟨by simp, b_h, Chg.refl _ _, r0, fun b e => .inl e, r0.sl⟩
    clear b_h
    rintro ⟨k, g⟩ w3 ⟨hk3, b_h, hd3, r3, hgb, l3⟩
    dsimp only at hk3 r3 hgb ⊢
    have z3 := hd3.size
    refine Cw.seq ?_
    refine Cw.seq ?_
    refine Cw.region ?_
    refine Lw.val (Ex.move rfl) rfl ?_
    refine Lw.val (Ex.lss rfl rfl) rfl ?_
    refine Lw.nil ?_
    refine Pw.thenN (Cw.out ?_)
    refine Cw.cond rfl ?_ ?_
    · intro h
      have hk' : k < 40 := by simp at h; omega
      refine Cw.skip ?_
      refine Pw.thenN (Cw.out ?_)
      refine Cw.seq ?_
      refine Cw.block ?_
      refine Cw.region ?_
      refine Lw.val (Ex.move rfl) rfl ?_
      refine Lw.val (Ex.fieldAddr (q := 0) Tryz.underlying104 rfl (sz_3 _) rfl) rfl ?_
      refine Lw.val (Ex.ldB (ag_3 _) rfl (by assumption) rfl) rfl ?_
      refine Lw.know 30 (v' := .int .i64 hs[i].n) rfl (congrArg (Value.int .i64) en) ?_
      refine Lw.callF rfl rfl (markNumber_c hs[i].n w3 hnum) ?_
      rintro _ w4 ⟨rfl, hn4⟩
      refine Lw.valW (Xw.lit (vs := [mkNumber hs[i].n]) st_27 it_21 rfl rfl rfl rfl rfl) rfl ?_
      rintro nv w5 ⟨o5, -, hn5, -⟩
      have hn35 := bt hn4 hn5
      have z5 := hn35.size
      have r5 := r3.bs hn35
      refine Lw.valW (Xw.appendK (base := base) st_27 it_21 rfl (by decide) rfl rfl r5 (own_sl o5) rfl (by omega) (by omega) (by omega) (Nat.le_refl _)) rfl ?_
      rintro g' w6 ⟨r6, hg6, hcase⟩
      have l5 := l3.bs hn35
      have b5 := b_h.bs hn35
      have e6 : marks mkNumber (hs[i].k + k) hs[i].n ++ [mkNumber hs[i].n] = marks mkNumber (hs[i].k + (k + 1)) hs[i].n := marks_more
      rw [e6] at r6
      have hgA : some A_h ≠ g.ownBlock := fun e => by
        rcases hgb _ e.symm with h2 | h2
        · have := hvb _ h2; omega
        · omega
      have l6 : Sl w6 1 hs[i].v hs[i].k (marks mkNumber hs[i].k hs[i].n) := grow_keeps r0 (.inl r6) hg6 hcase l5 (by omega) (by simp [marks])
      have hgb' : ∀ b, g'.ownBlock = some b → hs[i].v.ownBlock = some b ∨ w2.heap.size ≤ b := fun b e => by
        rcases hcase with h2 | ⟨h2, -⟩
        · rw [h2] at e; exact hgb b e
        · exact .inr (by have := h2 b e; omega)
      refine Lw.val (Ex.assign rfl) rfl ?_
      refine Lw.nil ?_
      refine Pw.blkN ?_
      refine Pw.thenN (Cw.out ?_)
      refine Cw.region ?_
      refine Lw.val (Ex.move rfl) rfl ?_
      refine Lw.val (Ex.addI rfl rfl (by omega)) rfl ?_
      refine Lw.val (Ex.assign rfl) rfl ?_
      refine Lw.nil ?_
      exact Pw.thenN (Pw.next ((k + 1, g')) ⟨rfl, rfl, rfl, rfl, rfl, trivial⟩ (⟨hk', b5.by hg6 hgA, (hd3.below hn35).grown hg6 hgb, .inl r6, hgb', l6⟩) (by simp only; omega))
    intro h
    have hk' : k = 40 := by simp at h; omega
    subst hk'
    have hall : Chg (fun b => hs[i].v.ownBlock = some b) w1 w3 := (Chg.of_below hn2).trans hd3
    have hcS : Chg (fun b => blks hs b ∨ u.ownBlock = some b) w w3 := hc.trans (hall.mono fun b e => .inl ⟨_, hm, e⟩)
    have b3 := hA.chg hcS (fun e => e.elim hb1 hb3)
    have o3 := own_chg o1 hall (fun b e1 e2 => hb2 b e1 ⟨_, hm, e2⟩)
    refine Cw.exit ?_
    refine Pw.thenE ?_
    refine Pw.thenE ?_
    refine Pw.blkHit ?_
    refine Pw.thenN (Cw.out ?_)
    refine Cw.region ?_
    refine Lw.val (Ex.move rfl) rfl ?_
    refine Lw.val (Ex.nilCheck rfl) rfl ?_
    refine Lw.val (Ex.fieldAddr (q := 0) Tryz.underlying51 rfl (sz_37 _) rfl) rfl ?_
    refine Lw.val (Ex.ldB (ag_37 _) rfl b3 hu) rfl ?_
    refine Lw.val (Ex.move rfl) rfl ?_
    refine Lw.val (Ex.move rfl) rfl ?_
    refine Lw.val (Ex.idx st_37 rfl rfl (own_sl o3) i rfl hi') rfl ?_
    refine Lw.val (Ex.fieldAddrE Tryz.underlying104 rfl (sz_27 _) rfl (own_some o3 (by omega))) rfl ?_
    refine Lw.unit (Xu.stO (j := i * 3 + 1) (sz_27 _) rfl rfl r3.sl.one' o3 (by rw [hcells_len]; omega)) ?_
    rintro w4 ⟨o4, hg4, -⟩
    have e4 := hcells_set hit g
    have o4 : w4.ownsRow lo 104 3 u hs.length (hcells (ts.set i { ts[i] with g := g })) := by rw [← e4]; exact o4
    have hG4 := hG.set hi' hit (g := g) (fun b e => by
      rcases hgb b e with h2 | h2
      · exact .inl h2
      · exact .inr (by omega))
    have hall4 : Chg (fun b => hs[i].v.ownBlock = some b ∨ u.ownBlock = some b) w1 w4 := (hall.mono fun b e => .inl e).grown hg4 (fun b e => .inl (.inr e))
    have hS4 : Chg (fun b => blks hs b ∨ u.ownBlock = some b) w w4 := hcS.grown hg4 (fun b e => .inl (.inr e))
    have t4 : Tall w4 mkNumber { ts[i] with g := g } := by
      refine ⟨?_, ?_⟩
      · simp only; rw [ev, ek, en]
        refine l3.by hg4 ?_
        cases hv : hs[i].v.ownBlock with
        | none => exact .inl rfl
        | some b => exact .inr fun e => hb2 b e.symm ⟨_, hm, hv⟩
      · simp only; rw [ek, en]
        refine r3.sl.by hg4 ?_
        cases hv : g.ownBlock with
        | none => exact .inl rfl
        | some b =>
          refine .inr fun e => ?_
          rcases hgb b hv with h2 | h2
          · exact hb2 b e.symm ⟨_, hm, h2⟩
          · have := (own_block ho b e.symm).2; omega
    have h14 : ∀ t ∈ ts.set i { ts[i] with g := g }, t.g.oneCell' = true := fun t htm => by
      rcases List.mem_or_eq_of_mem_set htm with h2 | h2
      · exact h1 t h2
      · rw [h2]; exact r3.sl.one'
    have hd4 : ∀ j (hj : j < (ts.set i { ts[i] with g := g }).length), j < i + 1 → Tall w4 mkNumber (ts.set i { ts[i] with g := g })[j] := fun j hj hji => by
        rw [List.getElem_set]
        split
        · exact t4
        · rename_i hne
          have hj' : j < ts.length := by simpa using hj
          obtain ⟨fv, _, _, fg⟩ := hG.all j (by omega) hj'
          refine (hd j hj' (by omega)).chg hall4 (fun b e1 _ e2 => ?_) (fun b e1 _ e2 => ?_)
          · rw [fv] at e1
            rcases e2 with e2 | e2
            · exact apart_ne hk.apart hi' (show j < hs.length by omega) hne b e2 e1
            · exact hb2 b e2 ⟨_, List.getElem_mem _, e1⟩
          · rcases e2 with e2 | e2
            · rcases fg b e1 with h2 | h2
              · exact apart_ne hk.apart hi' (show j < hs.length by omega) hne b e2 h2
              · have := hvb b e2; omega
            · rcases fg b e1 with h2 | h2
              · exact hb2 b e2 ⟨_, List.getElem_mem _, h2⟩
              · have := (own_block ho b e2).2; omega
    have ht4 : ∀ j (hj : j < hs.length), i + 1 ≤ j → KRow w4 base 21 1 hs[j].v hs[j].k (marks mkNumber hs[j].k hs[j].n) := fun j hj hji => (ht j hj (by omega)).chg hall4 (fun b e1 e2 => (by
        rcases e2 with e2 | e2
        · exact apart_ne hk.apart hi' hj (by omega) b e2 e1
        · exact hb2 b e2 ⟨_, List.getElem_mem _, e1⟩))
    refine Lw.nil ?_
    refine Pw.blkN ?_
    refine Pw.thenN (Cw.out ?_)
    refine Cw.region ?_
    refine Lw.val (Ex.move rfl) rfl ?_
    refine Lw.val (Ex.addI rfl rfl (by omega)) rfl ?_
    refine Lw.val (Ex.assign rfl) rfl ?_
    refine Lw.nil ?_
    exact Pw.thenN (Pw.next ((i + 1, ts.set i { ts[i] with g := g })) ⟨rfl, rfl, trivial⟩ (⟨hi', hG4, h14, hS4, o4, hd4, ht4⟩) (by simp only; omega))
  intro h
  have hi' : i = hs.length := by simp at h; omega
  refine Cw.exit ?_
  refine Pw.thenE ?_
  refine Pw.thenE ?_
  refine Pw.blkHit ?_
  refine Pw.end0 rfl ?_
  refine ⟨rfl, hc, ts, hG, o1, fun t htm => ?_⟩
  obtain ⟨j, hj, rfl⟩ := List.mem_iff_getElem.1 htm
  exact hd j hj (by omega)

theorem lookNumber_c (A : Nat) (book : List Value) (u : Value) (ts : List Hd) (lo : Nat) (w : World) (hA : Blk w A bookT book) (hu : book[3]? = some u) (ho : w.ownsRow lo 104 3 u ts.length (hcells ts)) (ht : ∀ t ∈ ts, Tall w mkNumber t) (hn : ∀ t ∈ ts, (0 ≤ t.n ∧ t.n ≤ 4000000) ∧ t.k ≤ 16777216) :
    Fnc Tryz.prog 77 [.pointer (some ⟨A, 0, none⟩)] w (fun r w' => r = .bool true ∧ Below w.heap.size w w') := by
  have hle := (own_sl ho).le
  refine Fnc.enter (n := 64) Tryz.func77 (by kernel_rfl) rfl rfl rfl ?_
  refine Cw.seq ?_
  refine Cw.region ?_
  refine Lw.val (Ex.assign rfl) rfl ?_
  refine Lw.nil ?_
  refine Pw.thenN (Cw.out ?_)
  refine Cw.seq ?_
  refine Cw.seq ?_
  refine Cw.region ?_
  refine Lw.val (Ex.assign rfl) rfl ?_
  refine Lw.nil ?_
  refine Pw.thenN (Cw.out ?_)
  refine Cw.block ?_
  refine Cw.loop (S := Nat) (fun i => [(0, .pointer (some ⟨A, 0, none⟩)), (2, .bool false), (3, .int .i64 (i : Int))]) (fun i w' => i ≤ ts.length ∧ Below w.heap.size w w') (fun i => ts.length - i) (0) ⟨rfl, rfl, rfl, trivial⟩ ?_ ?_
  · exact ⟨by omega, Below.refl _ _⟩
  rintro i w1 ⟨hi, hw1⟩
  have b1 := hA.bs hw1
  have s1 := (own_sl ho).bs hw1
  refine Cw.seq ?_
  refine Cw.seq ?_
  refine Cw.region ?_
  refine Lw.val (Ex.move rfl) rfl ?_
  refine Lw.val (Ex.move rfl) rfl ?_
  refine Lw.val (Ex.nilCheck rfl) rfl ?_
  refine Lw.val (Ex.fieldAddr (q := 0) Tryz.underlying51 rfl (sz_37 _) rfl) rfl ?_
  refine Lw.val (Ex.ldB (ag_37 _) rfl b1 hu) rfl ?_
  refine Lw.val (Ex.lenS (sz := 3) st_37 rfl s1) rfl ?_
  refine Lw.val (Ex.lss rfl rfl) rfl ?_
  refine Lw.nil ?_
  refine Pw.thenN (Cw.out ?_)
  refine Cw.cond rfl ?_ ?_
  · intro h
    have hi' : i < ts.length := by simp at h; omega
    have hm := List.getElem_mem hi'
    obtain ⟨hnum, hfew⟩ := hn _ hm
    have t1 := ht _ hm
    refine Cw.skip ?_
    refine Pw.thenN (Cw.out ?_)
    refine Cw.seq ?_
    refine Cw.block ?_
    refine Cw.seq ?_
    refine Cw.region ?_
    refine Lw.val (Ex.move rfl) rfl ?_
    refine Lw.val (Ex.nilCheck rfl) rfl ?_
    refine Lw.val (Ex.fieldAddr (q := 0) Tryz.underlying51 rfl (sz_37 _) rfl) rfl ?_
    refine Lw.val (Ex.ldB (ag_37 _) rfl b1 hu) rfl ?_
    refine Lw.val (Ex.move rfl) rfl ?_
    refine Lw.val (Ex.idx st_37 rfl rfl s1 i rfl hi') rfl ?_
    refine Lw.val (Ex.ldE (cs := ts[i].cells) (ag_104 _) (sz_104 _) rfl s1 rfl (by decide) (hcells_three hi')) rfl ?_
    refine Lw.boxed (cs := ts[i].cells) it_104 rfl rfl rfl rfl (fun _ => rfl) (by simp [Hd.cells, t1.l.one', t1.g.one', int_one]) ?_
    rintro A_h w2 eA_h b_h hn2 zhn2
    have hw2 := bt hw1 hn2
    have l2 := t1.l.bs hw2
    have g2 := t1.g.bs hw2
    refine Lw.nil ?_
    refine Pw.thenN (Cw.out ?_)
    refine Cw.seq ?_
    refine Cw.seq ?_
    refine Cw.region ?_
    refine Lw.val (Ex.fieldAddr (q := 0) Tryz.underlying104 rfl (sz_27 _) rfl) rfl ?_
    refine Lw.val (Ex.ldB (ag_27 _) rfl (by assumption) rfl) rfl ?_
    refine Lw.val (Ex.lenS (sz := 1) st_27 rfl g2) rfl ?_
    refine Lw.val (Ex.fieldAddr (q := 0) Tryz.underlying104 rfl (sz_27 _) rfl) rfl ?_
    refine Lw.val (Ex.ldB (ag_27 _) rfl (by assumption) rfl) rfl ?_
    refine Lw.val (Ex.lenS (sz := 1) st_27 rfl l2) rfl ?_
    refine Lw.val (Ex.addI rfl rfl (by omega)) rfl ?_
    refine Lw.val (Ex.neq rfl rfl) rfl ?_
    refine Lw.nil ?_
    refine Pw.thenN (Cw.out ?_)
    refine Cw.condB rfl false (by simp) ?_
    refine Cw.skip ?_
    refine Pw.thenN (Cw.out ?_)
    refine Cw.seq ?_
    refine Cw.region ?_
    refine Lw.val (Ex.assign rfl) rfl ?_
    refine Lw.nil ?_
    refine Pw.thenN (Cw.out ?_)
    refine Cw.block ?_
    refine Cw.loop (S := Nat) (fun k => [(0, .pointer (some ⟨A, 0, none⟩)), (2, .bool false), (3, .int .i64 (i : Int)), (4, .pointer (some ⟨A_h, 0, none⟩)), (5, .int .i64 (k : Int))]) (fun k w' => k ≤ ts[i].k + 40 ∧ Below w2.heap.size w2 w') (fun k => ts[i].k + 40 - k) (0) ⟨rfl, rfl, rfl, rfl, rfl, trivial⟩ ?_ ?_
    · exact ⟨by omega, Below.refl _ _⟩
    rintro k w3 ⟨hk3, hw3⟩
    have l3 := l2.bs hw3
    have g3 := g2.bs hw3
    have b3 := b_h.bs hw3
    refine Cw.seq ?_
    refine Cw.seq ?_
    refine Cw.region ?_
    refine Lw.val (Ex.move rfl) rfl ?_
    refine Lw.val (Ex.fieldAddr (q := 0) Tryz.underlying104 rfl (sz_27 _) rfl) rfl ?_
    refine Lw.val (Ex.ldB (ag_27 _) rfl (by assumption) rfl) rfl ?_
    refine Lw.val (Ex.lenS (sz := 1) st_27 rfl g3) rfl ?_
    refine Lw.val (Ex.lss rfl rfl) rfl ?_
    refine Lw.nil ?_
    refine Pw.thenN (Cw.out ?_)
    refine Cw.cond rfl ?_ ?_
    · intro h
      have hk' : k < ts[i].k + 40 := by simp at h; omega
      refine Cw.skip ?_
      refine Pw.thenN (Cw.out ?_)
      refine Cw.seq ?_
      refine Cw.block ?_
      refine Cw.seq ?_
      refine Cw.quiet mixed (by kernel_rfl) ?_
      refine Qw.val (fun w1 hq => Ex.fieldAddr (q := 0) Tryz.underlying104 rfl (sz_27 _) rfl) rfl ?_
      refine Qw.val (fun w1 hq => Ex.ldB (ag_27 _) rfl (Blk.bs (by assumption) hq) rfl) rfl ?_
      refine Qw.val (fun w1 hq => Ex.move rfl) rfl ?_
      refine Qw.val (fun w1 hq => Ex.idxS st_27 rfl rfl g3.shp k rfl hk') rfl ?_
      refine Qw.val (fun w1 hq => Ex.ld (u := mkNumber ts[i].n) (ag_21 _) rfl (g3.bs hq) (marks_get hk')) rfl ?_
      refine Qw.val (fun w1 hq => Ex.fieldAddr (q := 0) Tryz.underlying104 rfl (sz_3 _) rfl) rfl ?_
      refine Qw.val (fun w1 hq => Ex.ldB (ag_3 _) rfl (Blk.bs (by assumption) hq) rfl) rfl ?_
      refine Qw.callF rfl rfl (fun w1 hq => (isNumber_c ts[i].n w1 hnum).q hq) ?_
      refine Qw.val (fun w1 hq => Ex.not rfl) rfl ?_
      refine Qw.val (fun w1 hq => Ex.move rfl) rfl ?_
      refine Qw.know 46 (v' := .bool false) rfl (congrArg Value.bool (rfl)) ?_
      refine Qw.take (dj := 46) rfl rfl ?_
      refine Qw.val (fun w1 hq => Ex.move rfl) rfl ?_
      refine Qw.take (dj := 46) rfl rfl ?_
      refine Qw.val (fun w1 hq => Ex.fieldAddr (q := 0) Tryz.underlying104 rfl (sz_27 _) rfl) rfl ?_
      refine Qw.take (dj := 46) rfl rfl ?_
      refine Qw.val (fun w1 hq => Ex.ldB (ag_27 _) rfl (Blk.bs (by assumption) hq) rfl) rfl ?_
      refine Qw.take (dj := 46) rfl rfl ?_
      refine Qw.val (fun w1 hq => Ex.lenS (sz := 1) st_27 rfl (l3.bs hq)) rfl ?_
      refine Qw.take (dj := 46) rfl rfl ?_
      refine Qw.val (fun w1 hq => Ex.lss rfl rfl) rfl ?_
      refine Qw.take (dj := 46) rfl rfl ?_
      refine Qw.val (fun w1 hq => Ex.move rfl) rfl ?_
      refine Qw.part 52 rfl ?_ ?_
      · intro g
        have hkl : k < ts[i].k := by simpa using g
        refine Qw.take (dj := 52) rfl rfl ?_
        refine Qw.val (fun w1 hq => Ex.fieldAddr (q := 0) Tryz.underlying104 rfl (sz_27 _) rfl) rfl ?_
        refine Qw.take (dj := 52) rfl rfl ?_
        refine Qw.val (fun w1 hq => Ex.ldB (ag_27 _) rfl (Blk.bs (by assumption) hq) rfl) rfl ?_
        refine Qw.take (dj := 52) rfl rfl ?_
        refine Qw.val (fun w1 hq => Ex.move rfl) rfl ?_
        refine Qw.take (dj := 52) rfl rfl ?_
        refine Qw.val (fun w1 hq => Ex.idxS st_27 rfl rfl l3.shp k rfl hkl) rfl ?_
        refine Qw.take (dj := 52) rfl rfl ?_
        refine Qw.val (fun w1 hq => Ex.ld (u := mkNumber ts[i].n) (ag_21 _) rfl (l3.bs hq) (marks_get hkl)) rfl ?_
        refine Qw.take (dj := 52) rfl rfl ?_
        refine Qw.val (fun w1 hq => Ex.fieldAddr (q := 0) Tryz.underlying104 rfl (sz_3 _) rfl) rfl ?_
        refine Qw.take (dj := 52) rfl rfl ?_
        refine Qw.val (fun w1 hq => Ex.ldB (ag_3 _) rfl (Blk.bs (by assumption) hq) rfl) rfl ?_
        refine Qw.take (dj := 52) rfl rfl ?_
        refine Qw.callF rfl rfl (fun w1 hq => (isNumber_c ts[i].n w1 hnum).q hq) ?_
        refine Qw.take (dj := 52) rfl rfl ?_
        refine Qw.val (fun w1 hq => Ex.not rfl) rfl ?_
        refine Qw.take (dj := 46) rfl rfl ?_
        refine Qw.val (fun w1 hq => Ex.pickT rfl rfl) rfl ?_
        refine Qw.val (fun w1 hq => Ex.pickF rfl rfl) rfl ?_
        refine Qw.nil (fun w4 hq => ?_)
        refine Pw.thenN (Cw.out ?_)
        refine Cw.condB rfl false (rfl) ?_
        refine Cw.skip ?_
        refine Pw.blkN ?_
        refine Pw.thenN (Cw.out ?_)
        refine Cw.region ?_
        refine Lw.val (Ex.move rfl) rfl ?_
        refine Lw.val (Ex.addI rfl rfl (by omega)) rfl ?_
        refine Lw.val (Ex.assign rfl) rfl ?_
        refine Lw.nil ?_
        exact Pw.thenN (Pw.next (k + 1) ⟨rfl, rfl, rfl, rfl, rfl, trivial⟩ (⟨hk', bt hw3 hq⟩) (by omega))
      · intro g
        refine Qw.pass (dj := 52) rfl rfl rfl rfl ?_
        refine Qw.pass (dj := 52) rfl rfl rfl rfl ?_
        refine Qw.pass (dj := 52) rfl rfl rfl rfl ?_
        refine Qw.pass (dj := 52) rfl rfl rfl rfl ?_
        refine Qw.pass (dj := 52) rfl rfl rfl rfl ?_
        refine Qw.pass (dj := 52) rfl rfl rfl rfl ?_
        refine Qw.pass (dj := 52) rfl rfl rfl rfl ?_
        refine Qw.pass (dj := 52) rfl rfl rfl rfl ?_
        refine Qw.pass (dj := 52) rfl rfl rfl rfl ?_
        refine Qw.take (dj := 46) rfl rfl ?_
        refine Qw.val (fun w1 hq => Ex.pickF rfl rfl) rfl ?_
        refine Qw.val (fun w1 hq => Ex.pickF rfl rfl) rfl ?_
        refine Qw.nil (fun w4 hq => ?_)
        refine Pw.thenN (Cw.out ?_)
        refine Cw.condF rfl ?_
        refine Cw.skip ?_
        refine Pw.blkN ?_
        refine Pw.thenN (Cw.out ?_)
        refine Cw.region ?_
        refine Lw.val (Ex.move rfl) rfl ?_
        refine Lw.val (Ex.addI rfl rfl (by omega)) rfl ?_
        refine Lw.val (Ex.assign rfl) rfl ?_
        refine Lw.nil ?_
        exact Pw.thenN (Pw.next (k + 1) ⟨rfl, rfl, rfl, rfl, rfl, trivial⟩ (⟨hk', bt hw3 hq⟩) (by omega))
    intro h
    refine Cw.exit ?_
    refine Pw.thenE ?_
    refine Pw.thenE ?_
    refine Pw.blkHit ?_
    refine Pw.blkN ?_
    refine Pw.thenN (Cw.out ?_)
    refine Cw.region ?_
    refine Lw.val (Ex.move rfl) rfl ?_
    refine Lw.val (Ex.addI rfl rfl (by omega)) rfl ?_
    refine Lw.val (Ex.assign rfl) rfl ?_
    refine Lw.nil ?_
    exact Pw.thenN (Pw.next (i + 1) ⟨rfl, rfl, rfl, trivial⟩ (⟨hi', bt hw2 hw3⟩) (by omega))
  intro h
  refine Cw.exit ?_
  refine Pw.thenE ?_
  refine Pw.thenE ?_
  refine Pw.blkHit ?_
  refine Pw.thenN (Cw.out ?_)
  refine Cw.seq ?_
  refine Cw.region ?_
  refine Lw.val (Ex.assign rfl) rfl ?_
  refine Lw.nil ?_
  refine Pw.thenN (Cw.out ?_)
  refine Cw.ret ?_
  refine Pw.ret1 rfl rfl ?_
  exact ⟨rfl, hw1⟩

theorem fillId_c (A : Nat) (book : List Value) (w : World) (hA : Blk w A bookT book) (hu : book[4]? = some (.slice none 0 0)) : Fnc Tryz.prog 48 [.pointer (some ⟨A, 0, none⟩)] w (fun r w' => r = .tuple #[] ∧ w = w') := by
  refine Fnc.enter (n := 35) Tryz.func48 (by kernel_rfl) rfl rfl rfl ?_
  refine Cw.seq ?_
  refine Cw.region ?_
  refine Lw.val (Ex.assign rfl) rfl ?_
  refine Lw.nil ?_
  refine Pw.thenN (Cw.out ?_)
  refine Cw.block ?_
  refine Cw.loop (S := Unit) (fun s => [(0, .pointer (some ⟨A, 0, none⟩)), (2, .int .i64 0)]) (fun s w' => w = w') (fun s => 0) (()) ⟨rfl, rfl, trivial⟩ ?_ ?_
  · rfl
  rintro _ _ rfl
  refine Cw.seq ?_
  refine Cw.seq ?_
  refine Cw.region ?_
  refine Lw.val (Ex.move rfl) rfl ?_
  refine Lw.val (Ex.move rfl) rfl ?_
  refine Lw.val (Ex.nilCheck rfl) rfl ?_
  refine Lw.val (Ex.fieldAddr (q := 0) Tryz.underlying51 rfl (sz_38 _) rfl) rfl ?_
  refine Lw.val (Ex.ldB (ag_38 _) rfl hA hu) rfl ?_
  refine Lw.val (Ex.lenS (sz := 3) st_38 rfl (Sl.nil _ _)) rfl ?_
  refine Lw.val (Ex.lss rfl rfl) rfl ?_
  refine Lw.nil ?_
  refine Pw.thenN (Cw.out ?_)
  refine Cw.condB rfl false (rfl) ?_
  refine Cw.exit ?_
  refine Pw.thenE ?_
  refine Pw.thenE ?_
  refine Pw.blkHit ?_
  refine Pw.end0 rfl ?_
  exact ⟨rfl, rfl⟩
theorem growId_c (A : Nat) (book : List Value) (w : World) (hA : Blk w A bookT book) (hu : book[4]? = some (.slice none 0 0)) : Fnc Tryz.prog 63 [.pointer (some ⟨A, 0, none⟩)] w (fun r w' => r = .tuple #[] ∧ w = w') := by
  refine Fnc.enter (n := 42) Tryz.func63 (by kernel_rfl) rfl rfl rfl ?_
  refine Cw.seq ?_
  refine Cw.region ?_
  refine Lw.val (Ex.assign rfl) rfl ?_
  refine Lw.nil ?_
  refine Pw.thenN (Cw.out ?_)
  refine Cw.block ?_
  refine Cw.loop (S := Unit) (fun s => [(0, .pointer (some ⟨A, 0, none⟩)), (2, .int .i64 0)]) (fun s w' => w = w') (fun s => 0) (()) ⟨rfl, rfl, trivial⟩ ?_ ?_
  · rfl
  rintro _ _ rfl
  refine Cw.seq ?_
  refine Cw.seq ?_
  refine Cw.region ?_
  refine Lw.val (Ex.move rfl) rfl ?_
  refine Lw.val (Ex.move rfl) rfl ?_
  refine Lw.val (Ex.nilCheck rfl) rfl ?_
  refine Lw.val (Ex.fieldAddr (q := 0) Tryz.underlying51 rfl (sz_38 _) rfl) rfl ?_
  refine Lw.val (Ex.ldB (ag_38 _) rfl hA hu) rfl ?_
  refine Lw.val (Ex.lenS (sz := 3) st_38 rfl (Sl.nil _ _)) rfl ?_
  refine Lw.val (Ex.lss rfl rfl) rfl ?_
  refine Lw.nil ?_
  refine Pw.thenN (Cw.out ?_)
  refine Cw.condB rfl false (rfl) ?_
  refine Cw.exit ?_
  refine Pw.thenE ?_
  refine Pw.thenE ?_
  refine Pw.blkHit ?_
  refine Pw.end0 rfl ?_
  exact ⟨rfl, rfl⟩
theorem lookId_c (A : Nat) (book : List Value) (w : World) (hA : Blk w A bookT book) (hu : book[4]? = some (.slice none 0 0)) : Fnc Tryz.prog 78 [.pointer (some ⟨A, 0, none⟩)] w (fun r w' => r = .bool true ∧ w = w') := by
  refine Fnc.enter (n := 64) Tryz.func78 (by kernel_rfl) rfl rfl rfl ?_
  refine Cw.seq ?_
  refine Cw.region ?_
  refine Lw.val (Ex.assign rfl) rfl ?_
  refine Lw.nil ?_
  refine Pw.thenN (Cw.out ?_)
  refine Cw.seq ?_
  refine Cw.seq ?_
  refine Cw.region ?_
  refine Lw.val (Ex.assign rfl) rfl ?_
  refine Lw.nil ?_
  refine Pw.thenN (Cw.out ?_)
  refine Cw.block ?_
  refine Cw.loop (S := Unit) (fun s => [(0, .pointer (some ⟨A, 0, none⟩)), (2, .bool false), (3, .int .i64 0)]) (fun s w' => w = w') (fun s => 0) (()) ⟨rfl, rfl, rfl, trivial⟩ ?_ ?_
  · rfl
  rintro _ _ rfl
  refine Cw.seq ?_
  refine Cw.seq ?_
  refine Cw.region ?_
  refine Lw.val (Ex.move rfl) rfl ?_
  refine Lw.val (Ex.move rfl) rfl ?_
  refine Lw.val (Ex.nilCheck rfl) rfl ?_
  refine Lw.val (Ex.fieldAddr (q := 0) Tryz.underlying51 rfl (sz_38 _) rfl) rfl ?_
  refine Lw.val (Ex.ldB (ag_38 _) rfl hA hu) rfl ?_
  refine Lw.val (Ex.lenS (sz := 3) st_38 rfl (Sl.nil _ _)) rfl ?_
  refine Lw.val (Ex.lss rfl rfl) rfl ?_
  refine Lw.nil ?_
  refine Pw.thenN (Cw.out ?_)
  refine Cw.condB rfl false (rfl) ?_
  refine Cw.exit ?_
  refine Pw.thenE ?_
  refine Pw.thenE ?_
  refine Pw.blkHit ?_
  refine Pw.thenN (Cw.out ?_)
  refine Cw.seq ?_
  refine Cw.region ?_
  refine Lw.val (Ex.assign rfl) rfl ?_
  refine Lw.nil ?_
  refine Pw.thenN (Cw.out ?_)
  refine Cw.ret ?_
  refine Pw.ret1 rfl rfl ?_
  exact ⟨rfl, rfl⟩
theorem fillText_c (A : Nat) (book : List Value) (w : World) (hA : Blk w A bookT book) (hu : book[5]? = some (.slice none 0 0)) : Fnc Tryz.prog 49 [.pointer (some ⟨A, 0, none⟩)] w (fun r w' => r = .tuple #[] ∧ w = w') := by
  refine Fnc.enter (n := 35) Tryz.func49 (by kernel_rfl) rfl rfl rfl ?_
  refine Cw.seq ?_
  refine Cw.region ?_
  refine Lw.val (Ex.assign rfl) rfl ?_
  refine Lw.nil ?_
  refine Pw.thenN (Cw.out ?_)
  refine Cw.block ?_
  refine Cw.loop (S := Unit) (fun s => [(0, .pointer (some ⟨A, 0, none⟩)), (2, .int .i64 0)]) (fun s w' => w = w') (fun s => 0) (()) ⟨rfl, rfl, trivial⟩ ?_ ?_
  · rfl
  rintro _ _ rfl
  refine Cw.seq ?_
  refine Cw.seq ?_
  refine Cw.region ?_
  refine Lw.val (Ex.move rfl) rfl ?_
  refine Lw.val (Ex.move rfl) rfl ?_
  refine Lw.val (Ex.nilCheck rfl) rfl ?_
  refine Lw.val (Ex.fieldAddr (q := 0) Tryz.underlying51 rfl (sz_39 _) rfl) rfl ?_
  refine Lw.val (Ex.ldB (ag_39 _) rfl hA hu) rfl ?_
  refine Lw.val (Ex.lenS (sz := 3) st_39 rfl (Sl.nil _ _)) rfl ?_
  refine Lw.val (Ex.lss rfl rfl) rfl ?_
  refine Lw.nil ?_
  refine Pw.thenN (Cw.out ?_)
  refine Cw.condB rfl false (rfl) ?_
  refine Cw.exit ?_
  refine Pw.thenE ?_
  refine Pw.thenE ?_
  refine Pw.blkHit ?_
  refine Pw.end0 rfl ?_
  exact ⟨rfl, rfl⟩
theorem growText_c (A : Nat) (book : List Value) (w : World) (hA : Blk w A bookT book) (hu : book[5]? = some (.slice none 0 0)) : Fnc Tryz.prog 64 [.pointer (some ⟨A, 0, none⟩)] w (fun r w' => r = .tuple #[] ∧ w = w') := by
  refine Fnc.enter (n := 42) Tryz.func64 (by kernel_rfl) rfl rfl rfl ?_
  refine Cw.seq ?_
  refine Cw.region ?_
  refine Lw.val (Ex.assign rfl) rfl ?_
  refine Lw.nil ?_
  refine Pw.thenN (Cw.out ?_)
  refine Cw.block ?_
  refine Cw.loop (S := Unit) (fun s => [(0, .pointer (some ⟨A, 0, none⟩)), (2, .int .i64 0)]) (fun s w' => w = w') (fun s => 0) (()) ⟨rfl, rfl, trivial⟩ ?_ ?_
  · rfl
  rintro _ _ rfl
  refine Cw.seq ?_
  refine Cw.seq ?_
  refine Cw.region ?_
  refine Lw.val (Ex.move rfl) rfl ?_
  refine Lw.val (Ex.move rfl) rfl ?_
  refine Lw.val (Ex.nilCheck rfl) rfl ?_
  refine Lw.val (Ex.fieldAddr (q := 0) Tryz.underlying51 rfl (sz_39 _) rfl) rfl ?_
  refine Lw.val (Ex.ldB (ag_39 _) rfl hA hu) rfl ?_
  refine Lw.val (Ex.lenS (sz := 3) st_39 rfl (Sl.nil _ _)) rfl ?_
  refine Lw.val (Ex.lss rfl rfl) rfl ?_
  refine Lw.nil ?_
  refine Pw.thenN (Cw.out ?_)
  refine Cw.condB rfl false (rfl) ?_
  refine Cw.exit ?_
  refine Pw.thenE ?_
  refine Pw.thenE ?_
  refine Pw.blkHit ?_
  refine Pw.end0 rfl ?_
  exact ⟨rfl, rfl⟩
theorem lookText_c (A : Nat) (book : List Value) (w : World) (hA : Blk w A bookT book) (hu : book[5]? = some (.slice none 0 0)) : Fnc Tryz.prog 79 [.pointer (some ⟨A, 0, none⟩)] w (fun r w' => r = .bool true ∧ w = w') := by
  refine Fnc.enter (n := 64) Tryz.func79 (by kernel_rfl) rfl rfl rfl ?_
  refine Cw.seq ?_
  refine Cw.region ?_
  refine Lw.val (Ex.assign rfl) rfl ?_
  refine Lw.nil ?_
  refine Pw.thenN (Cw.out ?_)
  refine Cw.seq ?_
  refine Cw.seq ?_
  refine Cw.region ?_
  refine Lw.val (Ex.assign rfl) rfl ?_
  refine Lw.nil ?_
  refine Pw.thenN (Cw.out ?_)
  refine Cw.block ?_
  refine Cw.loop (S := Unit) (fun s => [(0, .pointer (some ⟨A, 0, none⟩)), (2, .bool false), (3, .int .i64 0)]) (fun s w' => w = w') (fun s => 0) (()) ⟨rfl, rfl, rfl, trivial⟩ ?_ ?_
  · rfl
  rintro _ _ rfl
  refine Cw.seq ?_
  refine Cw.seq ?_
  refine Cw.region ?_
  refine Lw.val (Ex.move rfl) rfl ?_
  refine Lw.val (Ex.move rfl) rfl ?_
  refine Lw.val (Ex.nilCheck rfl) rfl ?_
  refine Lw.val (Ex.fieldAddr (q := 0) Tryz.underlying51 rfl (sz_39 _) rfl) rfl ?_
  refine Lw.val (Ex.ldB (ag_39 _) rfl hA hu) rfl ?_
  refine Lw.val (Ex.lenS (sz := 3) st_39 rfl (Sl.nil _ _)) rfl ?_
  refine Lw.val (Ex.lss rfl rfl) rfl ?_
  refine Lw.nil ?_
  refine Pw.thenN (Cw.out ?_)
  refine Cw.condB rfl false (rfl) ?_
  refine Cw.exit ?_
  refine Pw.thenE ?_
  refine Pw.thenE ?_
  refine Pw.blkHit ?_
  refine Pw.thenN (Cw.out ?_)
  refine Cw.seq ?_
  refine Cw.region ?_
  refine Lw.val (Ex.assign rfl) rfl ?_
  refine Lw.nil ?_
  refine Pw.thenN (Cw.out ?_)
  refine Cw.ret ?_
  refine Pw.ret1 rfl rfl ?_
  exact ⟨rfl, rfl⟩
theorem fillTensor_c (A : Nat) (book : List Value) (w : World) (hA : Blk w A bookT book) (hu : book[6]? = some (.slice none 0 0)) : Fnc Tryz.prog 50 [.pointer (some ⟨A, 0, none⟩)] w (fun r w' => r = .tuple #[] ∧ w = w') := by
  refine Fnc.enter (n := 35) Tryz.func50 (by kernel_rfl) rfl rfl rfl ?_
  refine Cw.seq ?_
  refine Cw.region ?_
  refine Lw.val (Ex.assign rfl) rfl ?_
  refine Lw.nil ?_
  refine Pw.thenN (Cw.out ?_)
  refine Cw.block ?_
  refine Cw.loop (S := Unit) (fun s => [(0, .pointer (some ⟨A, 0, none⟩)), (2, .int .i64 0)]) (fun s w' => w = w') (fun s => 0) (()) ⟨rfl, rfl, trivial⟩ ?_ ?_
  · rfl
  rintro _ _ rfl
  refine Cw.seq ?_
  refine Cw.seq ?_
  refine Cw.region ?_
  refine Lw.val (Ex.move rfl) rfl ?_
  refine Lw.val (Ex.move rfl) rfl ?_
  refine Lw.val (Ex.nilCheck rfl) rfl ?_
  refine Lw.val (Ex.fieldAddr (q := 0) Tryz.underlying51 rfl (sz_40 _) rfl) rfl ?_
  refine Lw.val (Ex.ldB (ag_40 _) rfl hA hu) rfl ?_
  refine Lw.val (Ex.lenS (sz := 3) st_40 rfl (Sl.nil _ _)) rfl ?_
  refine Lw.val (Ex.lss rfl rfl) rfl ?_
  refine Lw.nil ?_
  refine Pw.thenN (Cw.out ?_)
  refine Cw.condB rfl false (rfl) ?_
  refine Cw.exit ?_
  refine Pw.thenE ?_
  refine Pw.thenE ?_
  refine Pw.blkHit ?_
  refine Pw.end0 rfl ?_
  exact ⟨rfl, rfl⟩
theorem growTensor_c (A : Nat) (book : List Value) (w : World) (hA : Blk w A bookT book) (hu : book[6]? = some (.slice none 0 0)) : Fnc Tryz.prog 65 [.pointer (some ⟨A, 0, none⟩)] w (fun r w' => r = .tuple #[] ∧ w = w') := by
  refine Fnc.enter (n := 42) Tryz.func65 (by kernel_rfl) rfl rfl rfl ?_
  refine Cw.seq ?_
  refine Cw.region ?_
  refine Lw.val (Ex.assign rfl) rfl ?_
  refine Lw.nil ?_
  refine Pw.thenN (Cw.out ?_)
  refine Cw.block ?_
  refine Cw.loop (S := Unit) (fun s => [(0, .pointer (some ⟨A, 0, none⟩)), (2, .int .i64 0)]) (fun s w' => w = w') (fun s => 0) (()) ⟨rfl, rfl, trivial⟩ ?_ ?_
  · rfl
  rintro _ _ rfl
  refine Cw.seq ?_
  refine Cw.seq ?_
  refine Cw.region ?_
  refine Lw.val (Ex.move rfl) rfl ?_
  refine Lw.val (Ex.move rfl) rfl ?_
  refine Lw.val (Ex.nilCheck rfl) rfl ?_
  refine Lw.val (Ex.fieldAddr (q := 0) Tryz.underlying51 rfl (sz_40 _) rfl) rfl ?_
  refine Lw.val (Ex.ldB (ag_40 _) rfl hA hu) rfl ?_
  refine Lw.val (Ex.lenS (sz := 3) st_40 rfl (Sl.nil _ _)) rfl ?_
  refine Lw.val (Ex.lss rfl rfl) rfl ?_
  refine Lw.nil ?_
  refine Pw.thenN (Cw.out ?_)
  refine Cw.condB rfl false (rfl) ?_
  refine Cw.exit ?_
  refine Pw.thenE ?_
  refine Pw.thenE ?_
  refine Pw.blkHit ?_
  refine Pw.end0 rfl ?_
  exact ⟨rfl, rfl⟩
theorem lookTensor_c (A : Nat) (book : List Value) (w : World) (hA : Blk w A bookT book) (hu : book[6]? = some (.slice none 0 0)) : Fnc Tryz.prog 80 [.pointer (some ⟨A, 0, none⟩)] w (fun r w' => r = .bool true ∧ w = w') := by
  refine Fnc.enter (n := 64) Tryz.func80 (by kernel_rfl) rfl rfl rfl ?_
  refine Cw.seq ?_
  refine Cw.region ?_
  refine Lw.val (Ex.assign rfl) rfl ?_
  refine Lw.nil ?_
  refine Pw.thenN (Cw.out ?_)
  refine Cw.seq ?_
  refine Cw.seq ?_
  refine Cw.region ?_
  refine Lw.val (Ex.assign rfl) rfl ?_
  refine Lw.nil ?_
  refine Pw.thenN (Cw.out ?_)
  refine Cw.block ?_
  refine Cw.loop (S := Unit) (fun s => [(0, .pointer (some ⟨A, 0, none⟩)), (2, .bool false), (3, .int .i64 0)]) (fun s w' => w = w') (fun s => 0) (()) ⟨rfl, rfl, rfl, trivial⟩ ?_ ?_
  · rfl
  rintro _ _ rfl
  refine Cw.seq ?_
  refine Cw.seq ?_
  refine Cw.region ?_
  refine Lw.val (Ex.move rfl) rfl ?_
  refine Lw.val (Ex.move rfl) rfl ?_
  refine Lw.val (Ex.nilCheck rfl) rfl ?_
  refine Lw.val (Ex.fieldAddr (q := 0) Tryz.underlying51 rfl (sz_40 _) rfl) rfl ?_
  refine Lw.val (Ex.ldB (ag_40 _) rfl hA hu) rfl ?_
  refine Lw.val (Ex.lenS (sz := 3) st_40 rfl (Sl.nil _ _)) rfl ?_
  refine Lw.val (Ex.lss rfl rfl) rfl ?_
  refine Lw.nil ?_
  refine Pw.thenN (Cw.out ?_)
  refine Cw.condB rfl false (rfl) ?_
  refine Cw.exit ?_
  refine Pw.thenE ?_
  refine Pw.thenE ?_
  refine Pw.blkHit ?_
  refine Pw.thenN (Cw.out ?_)
  refine Cw.seq ?_
  refine Cw.region ?_
  refine Lw.val (Ex.assign rfl) rfl ?_
  refine Lw.nil ?_
  refine Pw.thenN (Cw.out ?_)
  refine Cw.ret ?_
  refine Pw.ret1 rfl rfl ?_
  exact ⟨rfl, rfl⟩
theorem fillNode_c (A : Nat) (book : List Value) (w : World) (hA : Blk w A bookT book) (hu : book[7]? = some (.slice none 0 0)) : Fnc Tryz.prog 51 [.pointer (some ⟨A, 0, none⟩)] w (fun r w' => r = .tuple #[] ∧ w = w') := by
  refine Fnc.enter (n := 35) Tryz.func51 (by kernel_rfl) rfl rfl rfl ?_
  refine Cw.seq ?_
  refine Cw.region ?_
  refine Lw.val (Ex.assign rfl) rfl ?_
  refine Lw.nil ?_
  refine Pw.thenN (Cw.out ?_)
  refine Cw.block ?_
  refine Cw.loop (S := Unit) (fun s => [(0, .pointer (some ⟨A, 0, none⟩)), (2, .int .i64 0)]) (fun s w' => w = w') (fun s => 0) (()) ⟨rfl, rfl, trivial⟩ ?_ ?_
  · rfl
  rintro _ _ rfl
  refine Cw.seq ?_
  refine Cw.seq ?_
  refine Cw.region ?_
  refine Lw.val (Ex.move rfl) rfl ?_
  refine Lw.val (Ex.move rfl) rfl ?_
  refine Lw.val (Ex.nilCheck rfl) rfl ?_
  refine Lw.val (Ex.fieldAddr (q := 0) Tryz.underlying51 rfl (sz_41 _) rfl) rfl ?_
  refine Lw.val (Ex.ldB (ag_41 _) rfl hA hu) rfl ?_
  refine Lw.val (Ex.lenS (sz := 3) st_41 rfl (Sl.nil _ _)) rfl ?_
  refine Lw.val (Ex.lss rfl rfl) rfl ?_
  refine Lw.nil ?_
  refine Pw.thenN (Cw.out ?_)
  refine Cw.condB rfl false (rfl) ?_
  refine Cw.exit ?_
  refine Pw.thenE ?_
  refine Pw.thenE ?_
  refine Pw.blkHit ?_
  refine Pw.end0 rfl ?_
  exact ⟨rfl, rfl⟩
theorem growNode_c (A : Nat) (book : List Value) (w : World) (hA : Blk w A bookT book) (hu : book[7]? = some (.slice none 0 0)) : Fnc Tryz.prog 66 [.pointer (some ⟨A, 0, none⟩)] w (fun r w' => r = .tuple #[] ∧ w = w') := by
  refine Fnc.enter (n := 42) Tryz.func66 (by kernel_rfl) rfl rfl rfl ?_
  refine Cw.seq ?_
  refine Cw.region ?_
  refine Lw.val (Ex.assign rfl) rfl ?_
  refine Lw.nil ?_
  refine Pw.thenN (Cw.out ?_)
  refine Cw.block ?_
  refine Cw.loop (S := Unit) (fun s => [(0, .pointer (some ⟨A, 0, none⟩)), (2, .int .i64 0)]) (fun s w' => w = w') (fun s => 0) (()) ⟨rfl, rfl, trivial⟩ ?_ ?_
  · rfl
  rintro _ _ rfl
  refine Cw.seq ?_
  refine Cw.seq ?_
  refine Cw.region ?_
  refine Lw.val (Ex.move rfl) rfl ?_
  refine Lw.val (Ex.move rfl) rfl ?_
  refine Lw.val (Ex.nilCheck rfl) rfl ?_
  refine Lw.val (Ex.fieldAddr (q := 0) Tryz.underlying51 rfl (sz_41 _) rfl) rfl ?_
  refine Lw.val (Ex.ldB (ag_41 _) rfl hA hu) rfl ?_
  refine Lw.val (Ex.lenS (sz := 3) st_41 rfl (Sl.nil _ _)) rfl ?_
  refine Lw.val (Ex.lss rfl rfl) rfl ?_
  refine Lw.nil ?_
  refine Pw.thenN (Cw.out ?_)
  refine Cw.condB rfl false (rfl) ?_
  refine Cw.exit ?_
  refine Pw.thenE ?_
  refine Pw.thenE ?_
  refine Pw.blkHit ?_
  refine Pw.end0 rfl ?_
  exact ⟨rfl, rfl⟩
theorem lookNode_c (A : Nat) (book : List Value) (w : World) (hA : Blk w A bookT book) (hu : book[7]? = some (.slice none 0 0)) : Fnc Tryz.prog 81 [.pointer (some ⟨A, 0, none⟩)] w (fun r w' => r = .bool true ∧ w = w') := by
  refine Fnc.enter (n := 64) Tryz.func81 (by kernel_rfl) rfl rfl rfl ?_
  refine Cw.seq ?_
  refine Cw.region ?_
  refine Lw.val (Ex.assign rfl) rfl ?_
  refine Lw.nil ?_
  refine Pw.thenN (Cw.out ?_)
  refine Cw.seq ?_
  refine Cw.seq ?_
  refine Cw.region ?_
  refine Lw.val (Ex.assign rfl) rfl ?_
  refine Lw.nil ?_
  refine Pw.thenN (Cw.out ?_)
  refine Cw.block ?_
  refine Cw.loop (S := Unit) (fun s => [(0, .pointer (some ⟨A, 0, none⟩)), (2, .bool false), (3, .int .i64 0)]) (fun s w' => w = w') (fun s => 0) (()) ⟨rfl, rfl, rfl, trivial⟩ ?_ ?_
  · rfl
  rintro _ _ rfl
  refine Cw.seq ?_
  refine Cw.seq ?_
  refine Cw.region ?_
  refine Lw.val (Ex.move rfl) rfl ?_
  refine Lw.val (Ex.move rfl) rfl ?_
  refine Lw.val (Ex.nilCheck rfl) rfl ?_
  refine Lw.val (Ex.fieldAddr (q := 0) Tryz.underlying51 rfl (sz_41 _) rfl) rfl ?_
  refine Lw.val (Ex.ldB (ag_41 _) rfl hA hu) rfl ?_
  refine Lw.val (Ex.lenS (sz := 3) st_41 rfl (Sl.nil _ _)) rfl ?_
  refine Lw.val (Ex.lss rfl rfl) rfl ?_
  refine Lw.nil ?_
  refine Pw.thenN (Cw.out ?_)
  refine Cw.condB rfl false (rfl) ?_
  refine Cw.exit ?_
  refine Pw.thenE ?_
  refine Pw.thenE ?_
  refine Pw.blkHit ?_
  refine Pw.thenN (Cw.out ?_)
  refine Cw.seq ?_
  refine Cw.region ?_
  refine Lw.val (Ex.assign rfl) rfl ?_
  refine Lw.nil ?_
  refine Pw.thenN (Cw.out ?_)
  refine Cw.ret ?_
  refine Pw.ret1 rfl rfl ?_
  exact ⟨rfl, rfl⟩
theorem fillStep_c (A : Nat) (book : List Value) (w : World) (hA : Blk w A bookT book) (hu : book[8]? = some (.slice none 0 0)) : Fnc Tryz.prog 52 [.pointer (some ⟨A, 0, none⟩)] w (fun r w' => r = .tuple #[] ∧ w = w') := by
  refine Fnc.enter (n := 35) Tryz.func52 (by kernel_rfl) rfl rfl rfl ?_
  refine Cw.seq ?_
  refine Cw.region ?_
  refine Lw.val (Ex.assign rfl) rfl ?_
  refine Lw.nil ?_
  refine Pw.thenN (Cw.out ?_)
  refine Cw.block ?_
  refine Cw.loop (S := Unit) (fun s => [(0, .pointer (some ⟨A, 0, none⟩)), (2, .int .i64 0)]) (fun s w' => w = w') (fun s => 0) (()) ⟨rfl, rfl, trivial⟩ ?_ ?_
  · rfl
  rintro _ _ rfl
  refine Cw.seq ?_
  refine Cw.seq ?_
  refine Cw.region ?_
  refine Lw.val (Ex.move rfl) rfl ?_
  refine Lw.val (Ex.move rfl) rfl ?_
  refine Lw.val (Ex.nilCheck rfl) rfl ?_
  refine Lw.val (Ex.fieldAddr (q := 0) Tryz.underlying51 rfl (sz_42 _) rfl) rfl ?_
  refine Lw.val (Ex.ldB (ag_42 _) rfl hA hu) rfl ?_
  refine Lw.val (Ex.lenS (sz := 3) st_42 rfl (Sl.nil _ _)) rfl ?_
  refine Lw.val (Ex.lss rfl rfl) rfl ?_
  refine Lw.nil ?_
  refine Pw.thenN (Cw.out ?_)
  refine Cw.condB rfl false (rfl) ?_
  refine Cw.exit ?_
  refine Pw.thenE ?_
  refine Pw.thenE ?_
  refine Pw.blkHit ?_
  refine Pw.end0 rfl ?_
  exact ⟨rfl, rfl⟩
theorem growStep_c (A : Nat) (book : List Value) (w : World) (hA : Blk w A bookT book) (hu : book[8]? = some (.slice none 0 0)) : Fnc Tryz.prog 67 [.pointer (some ⟨A, 0, none⟩)] w (fun r w' => r = .tuple #[] ∧ w = w') := by
  refine Fnc.enter (n := 42) Tryz.func67 (by kernel_rfl) rfl rfl rfl ?_
  refine Cw.seq ?_
  refine Cw.region ?_
  refine Lw.val (Ex.assign rfl) rfl ?_
  refine Lw.nil ?_
  refine Pw.thenN (Cw.out ?_)
  refine Cw.block ?_
  refine Cw.loop (S := Unit) (fun s => [(0, .pointer (some ⟨A, 0, none⟩)), (2, .int .i64 0)]) (fun s w' => w = w') (fun s => 0) (()) ⟨rfl, rfl, trivial⟩ ?_ ?_
  · rfl
  rintro _ _ rfl
  refine Cw.seq ?_
  refine Cw.seq ?_
  refine Cw.region ?_
  refine Lw.val (Ex.move rfl) rfl ?_
  refine Lw.val (Ex.move rfl) rfl ?_
  refine Lw.val (Ex.nilCheck rfl) rfl ?_
  refine Lw.val (Ex.fieldAddr (q := 0) Tryz.underlying51 rfl (sz_42 _) rfl) rfl ?_
  refine Lw.val (Ex.ldB (ag_42 _) rfl hA hu) rfl ?_
  refine Lw.val (Ex.lenS (sz := 3) st_42 rfl (Sl.nil _ _)) rfl ?_
  refine Lw.val (Ex.lss rfl rfl) rfl ?_
  refine Lw.nil ?_
  refine Pw.thenN (Cw.out ?_)
  refine Cw.condB rfl false (rfl) ?_
  refine Cw.exit ?_
  refine Pw.thenE ?_
  refine Pw.thenE ?_
  refine Pw.blkHit ?_
  refine Pw.end0 rfl ?_
  exact ⟨rfl, rfl⟩
theorem lookStep_c (A : Nat) (book : List Value) (w : World) (hA : Blk w A bookT book) (hu : book[8]? = some (.slice none 0 0)) : Fnc Tryz.prog 82 [.pointer (some ⟨A, 0, none⟩)] w (fun r w' => r = .bool true ∧ w = w') := by
  refine Fnc.enter (n := 64) Tryz.func82 (by kernel_rfl) rfl rfl rfl ?_
  refine Cw.seq ?_
  refine Cw.region ?_
  refine Lw.val (Ex.assign rfl) rfl ?_
  refine Lw.nil ?_
  refine Pw.thenN (Cw.out ?_)
  refine Cw.seq ?_
  refine Cw.seq ?_
  refine Cw.region ?_
  refine Lw.val (Ex.assign rfl) rfl ?_
  refine Lw.nil ?_
  refine Pw.thenN (Cw.out ?_)
  refine Cw.block ?_
  refine Cw.loop (S := Unit) (fun s => [(0, .pointer (some ⟨A, 0, none⟩)), (2, .bool false), (3, .int .i64 0)]) (fun s w' => w = w') (fun s => 0) (()) ⟨rfl, rfl, rfl, trivial⟩ ?_ ?_
  · rfl
  rintro _ _ rfl
  refine Cw.seq ?_
  refine Cw.seq ?_
  refine Cw.region ?_
  refine Lw.val (Ex.move rfl) rfl ?_
  refine Lw.val (Ex.move rfl) rfl ?_
  refine Lw.val (Ex.nilCheck rfl) rfl ?_
  refine Lw.val (Ex.fieldAddr (q := 0) Tryz.underlying51 rfl (sz_42 _) rfl) rfl ?_
  refine Lw.val (Ex.ldB (ag_42 _) rfl hA hu) rfl ?_
  refine Lw.val (Ex.lenS (sz := 3) st_42 rfl (Sl.nil _ _)) rfl ?_
  refine Lw.val (Ex.lss rfl rfl) rfl ?_
  refine Lw.nil ?_
  refine Pw.thenN (Cw.out ?_)
  refine Cw.condB rfl false (rfl) ?_
  refine Cw.exit ?_
  refine Pw.thenE ?_
  refine Pw.thenE ?_
  refine Pw.blkHit ?_
  refine Pw.thenN (Cw.out ?_)
  refine Cw.seq ?_
  refine Cw.region ?_
  refine Lw.val (Ex.assign rfl) rfl ?_
  refine Lw.nil ?_
  refine Pw.thenN (Cw.out ?_)
  refine Cw.ret ?_
  refine Pw.ret1 rfl rfl ?_
  exact ⟨rfl, rfl⟩
theorem fillCost_c (A : Nat) (book : List Value) (w : World) (hA : Blk w A bookT book) (hu : book[9]? = some (.slice none 0 0)) : Fnc Tryz.prog 53 [.pointer (some ⟨A, 0, none⟩)] w (fun r w' => r = .tuple #[] ∧ w = w') := by
  refine Fnc.enter (n := 35) Tryz.func53 (by kernel_rfl) rfl rfl rfl ?_
  refine Cw.seq ?_
  refine Cw.region ?_
  refine Lw.val (Ex.assign rfl) rfl ?_
  refine Lw.nil ?_
  refine Pw.thenN (Cw.out ?_)
  refine Cw.block ?_
  refine Cw.loop (S := Unit) (fun s => [(0, .pointer (some ⟨A, 0, none⟩)), (2, .int .i64 0)]) (fun s w' => w = w') (fun s => 0) (()) ⟨rfl, rfl, trivial⟩ ?_ ?_
  · rfl
  rintro _ _ rfl
  refine Cw.seq ?_
  refine Cw.seq ?_
  refine Cw.region ?_
  refine Lw.val (Ex.move rfl) rfl ?_
  refine Lw.val (Ex.move rfl) rfl ?_
  refine Lw.val (Ex.nilCheck rfl) rfl ?_
  refine Lw.val (Ex.fieldAddr (q := 0) Tryz.underlying51 rfl (sz_43 _) rfl) rfl ?_
  refine Lw.val (Ex.ldB (ag_43 _) rfl hA hu) rfl ?_
  refine Lw.val (Ex.lenS (sz := 3) st_43 rfl (Sl.nil _ _)) rfl ?_
  refine Lw.val (Ex.lss rfl rfl) rfl ?_
  refine Lw.nil ?_
  refine Pw.thenN (Cw.out ?_)
  refine Cw.condB rfl false (rfl) ?_
  refine Cw.exit ?_
  refine Pw.thenE ?_
  refine Pw.thenE ?_
  refine Pw.blkHit ?_
  refine Pw.end0 rfl ?_
  exact ⟨rfl, rfl⟩
theorem growCost_c (A : Nat) (book : List Value) (w : World) (hA : Blk w A bookT book) (hu : book[9]? = some (.slice none 0 0)) : Fnc Tryz.prog 68 [.pointer (some ⟨A, 0, none⟩)] w (fun r w' => r = .tuple #[] ∧ w = w') := by
  refine Fnc.enter (n := 42) Tryz.func68 (by kernel_rfl) rfl rfl rfl ?_
  refine Cw.seq ?_
  refine Cw.region ?_
  refine Lw.val (Ex.assign rfl) rfl ?_
  refine Lw.nil ?_
  refine Pw.thenN (Cw.out ?_)
  refine Cw.block ?_
  refine Cw.loop (S := Unit) (fun s => [(0, .pointer (some ⟨A, 0, none⟩)), (2, .int .i64 0)]) (fun s w' => w = w') (fun s => 0) (()) ⟨rfl, rfl, trivial⟩ ?_ ?_
  · rfl
  rintro _ _ rfl
  refine Cw.seq ?_
  refine Cw.seq ?_
  refine Cw.region ?_
  refine Lw.val (Ex.move rfl) rfl ?_
  refine Lw.val (Ex.move rfl) rfl ?_
  refine Lw.val (Ex.nilCheck rfl) rfl ?_
  refine Lw.val (Ex.fieldAddr (q := 0) Tryz.underlying51 rfl (sz_43 _) rfl) rfl ?_
  refine Lw.val (Ex.ldB (ag_43 _) rfl hA hu) rfl ?_
  refine Lw.val (Ex.lenS (sz := 3) st_43 rfl (Sl.nil _ _)) rfl ?_
  refine Lw.val (Ex.lss rfl rfl) rfl ?_
  refine Lw.nil ?_
  refine Pw.thenN (Cw.out ?_)
  refine Cw.condB rfl false (rfl) ?_
  refine Cw.exit ?_
  refine Pw.thenE ?_
  refine Pw.thenE ?_
  refine Pw.blkHit ?_
  refine Pw.end0 rfl ?_
  exact ⟨rfl, rfl⟩
theorem lookCost_c (A : Nat) (book : List Value) (w : World) (hA : Blk w A bookT book) (hu : book[9]? = some (.slice none 0 0)) : Fnc Tryz.prog 83 [.pointer (some ⟨A, 0, none⟩)] w (fun r w' => r = .bool true ∧ w = w') := by
  refine Fnc.enter (n := 64) Tryz.func83 (by kernel_rfl) rfl rfl rfl ?_
  refine Cw.seq ?_
  refine Cw.region ?_
  refine Lw.val (Ex.assign rfl) rfl ?_
  refine Lw.nil ?_
  refine Pw.thenN (Cw.out ?_)
  refine Cw.seq ?_
  refine Cw.seq ?_
  refine Cw.region ?_
  refine Lw.val (Ex.assign rfl) rfl ?_
  refine Lw.nil ?_
  refine Pw.thenN (Cw.out ?_)
  refine Cw.block ?_
  refine Cw.loop (S := Unit) (fun s => [(0, .pointer (some ⟨A, 0, none⟩)), (2, .bool false), (3, .int .i64 0)]) (fun s w' => w = w') (fun s => 0) (()) ⟨rfl, rfl, rfl, trivial⟩ ?_ ?_
  · rfl
  rintro _ _ rfl
  refine Cw.seq ?_
  refine Cw.seq ?_
  refine Cw.region ?_
  refine Lw.val (Ex.move rfl) rfl ?_
  refine Lw.val (Ex.move rfl) rfl ?_
  refine Lw.val (Ex.nilCheck rfl) rfl ?_
  refine Lw.val (Ex.fieldAddr (q := 0) Tryz.underlying51 rfl (sz_43 _) rfl) rfl ?_
  refine Lw.val (Ex.ldB (ag_43 _) rfl hA hu) rfl ?_
  refine Lw.val (Ex.lenS (sz := 3) st_43 rfl (Sl.nil _ _)) rfl ?_
  refine Lw.val (Ex.lss rfl rfl) rfl ?_
  refine Lw.nil ?_
  refine Pw.thenN (Cw.out ?_)
  refine Cw.condB rfl false (rfl) ?_
  refine Cw.exit ?_
  refine Pw.thenE ?_
  refine Pw.thenE ?_
  refine Pw.blkHit ?_
  refine Pw.thenN (Cw.out ?_)
  refine Cw.seq ?_
  refine Cw.region ?_
  refine Lw.val (Ex.assign rfl) rfl ?_
  refine Lw.nil ?_
  refine Pw.thenN (Cw.out ?_)
  refine Cw.ret ?_
  refine Pw.ret1 rfl rfl ?_
  exact ⟨rfl, rfl⟩
theorem fillRecord_c (A : Nat) (book : List Value) (w : World) (hA : Blk w A bookT book) (hu : book[10]? = some (.slice none 0 0)) : Fnc Tryz.prog 54 [.pointer (some ⟨A, 0, none⟩)] w (fun r w' => r = .tuple #[] ∧ w = w') := by
  refine Fnc.enter (n := 35) Tryz.func54 (by kernel_rfl) rfl rfl rfl ?_
  refine Cw.seq ?_
  refine Cw.region ?_
  refine Lw.val (Ex.assign rfl) rfl ?_
  refine Lw.nil ?_
  refine Pw.thenN (Cw.out ?_)
  refine Cw.block ?_
  refine Cw.loop (S := Unit) (fun s => [(0, .pointer (some ⟨A, 0, none⟩)), (2, .int .i64 0)]) (fun s w' => w = w') (fun s => 0) (()) ⟨rfl, rfl, trivial⟩ ?_ ?_
  · rfl
  rintro _ _ rfl
  refine Cw.seq ?_
  refine Cw.seq ?_
  refine Cw.region ?_
  refine Lw.val (Ex.move rfl) rfl ?_
  refine Lw.val (Ex.move rfl) rfl ?_
  refine Lw.val (Ex.nilCheck rfl) rfl ?_
  refine Lw.val (Ex.fieldAddr (q := 0) Tryz.underlying51 rfl (sz_44 _) rfl) rfl ?_
  refine Lw.val (Ex.ldB (ag_44 _) rfl hA hu) rfl ?_
  refine Lw.val (Ex.lenS (sz := 3) st_44 rfl (Sl.nil _ _)) rfl ?_
  refine Lw.val (Ex.lss rfl rfl) rfl ?_
  refine Lw.nil ?_
  refine Pw.thenN (Cw.out ?_)
  refine Cw.condB rfl false (rfl) ?_
  refine Cw.exit ?_
  refine Pw.thenE ?_
  refine Pw.thenE ?_
  refine Pw.blkHit ?_
  refine Pw.end0 rfl ?_
  exact ⟨rfl, rfl⟩
theorem growRecord_c (A : Nat) (book : List Value) (w : World) (hA : Blk w A bookT book) (hu : book[10]? = some (.slice none 0 0)) : Fnc Tryz.prog 69 [.pointer (some ⟨A, 0, none⟩)] w (fun r w' => r = .tuple #[] ∧ w = w') := by
  refine Fnc.enter (n := 42) Tryz.func69 (by kernel_rfl) rfl rfl rfl ?_
  refine Cw.seq ?_
  refine Cw.region ?_
  refine Lw.val (Ex.assign rfl) rfl ?_
  refine Lw.nil ?_
  refine Pw.thenN (Cw.out ?_)
  refine Cw.block ?_
  refine Cw.loop (S := Unit) (fun s => [(0, .pointer (some ⟨A, 0, none⟩)), (2, .int .i64 0)]) (fun s w' => w = w') (fun s => 0) (()) ⟨rfl, rfl, trivial⟩ ?_ ?_
  · rfl
  rintro _ _ rfl
  refine Cw.seq ?_
  refine Cw.seq ?_
  refine Cw.region ?_
  refine Lw.val (Ex.move rfl) rfl ?_
  refine Lw.val (Ex.move rfl) rfl ?_
  refine Lw.val (Ex.nilCheck rfl) rfl ?_
  refine Lw.val (Ex.fieldAddr (q := 0) Tryz.underlying51 rfl (sz_44 _) rfl) rfl ?_
  refine Lw.val (Ex.ldB (ag_44 _) rfl hA hu) rfl ?_
  refine Lw.val (Ex.lenS (sz := 3) st_44 rfl (Sl.nil _ _)) rfl ?_
  refine Lw.val (Ex.lss rfl rfl) rfl ?_
  refine Lw.nil ?_
  refine Pw.thenN (Cw.out ?_)
  refine Cw.condB rfl false (rfl) ?_
  refine Cw.exit ?_
  refine Pw.thenE ?_
  refine Pw.thenE ?_
  refine Pw.blkHit ?_
  refine Pw.end0 rfl ?_
  exact ⟨rfl, rfl⟩
theorem lookRecord_c (A : Nat) (book : List Value) (w : World) (hA : Blk w A bookT book) (hu : book[10]? = some (.slice none 0 0)) : Fnc Tryz.prog 84 [.pointer (some ⟨A, 0, none⟩)] w (fun r w' => r = .bool true ∧ w = w') := by
  refine Fnc.enter (n := 64) Tryz.func84 (by kernel_rfl) rfl rfl rfl ?_
  refine Cw.seq ?_
  refine Cw.region ?_
  refine Lw.val (Ex.assign rfl) rfl ?_
  refine Lw.nil ?_
  refine Pw.thenN (Cw.out ?_)
  refine Cw.seq ?_
  refine Cw.seq ?_
  refine Cw.region ?_
  refine Lw.val (Ex.assign rfl) rfl ?_
  refine Lw.nil ?_
  refine Pw.thenN (Cw.out ?_)
  refine Cw.block ?_
  refine Cw.loop (S := Unit) (fun s => [(0, .pointer (some ⟨A, 0, none⟩)), (2, .bool false), (3, .int .i64 0)]) (fun s w' => w = w') (fun s => 0) (()) ⟨rfl, rfl, rfl, trivial⟩ ?_ ?_
  · rfl
  rintro _ _ rfl
  refine Cw.seq ?_
  refine Cw.seq ?_
  refine Cw.region ?_
  refine Lw.val (Ex.move rfl) rfl ?_
  refine Lw.val (Ex.move rfl) rfl ?_
  refine Lw.val (Ex.nilCheck rfl) rfl ?_
  refine Lw.val (Ex.fieldAddr (q := 0) Tryz.underlying51 rfl (sz_44 _) rfl) rfl ?_
  refine Lw.val (Ex.ldB (ag_44 _) rfl hA hu) rfl ?_
  refine Lw.val (Ex.lenS (sz := 3) st_44 rfl (Sl.nil _ _)) rfl ?_
  refine Lw.val (Ex.lss rfl rfl) rfl ?_
  refine Lw.nil ?_
  refine Pw.thenN (Cw.out ?_)
  refine Cw.condB rfl false (rfl) ?_
  refine Cw.exit ?_
  refine Pw.thenE ?_
  refine Pw.thenE ?_
  refine Pw.blkHit ?_
  refine Pw.thenN (Cw.out ?_)
  refine Cw.seq ?_
  refine Cw.region ?_
  refine Lw.val (Ex.assign rfl) rfl ?_
  refine Lw.nil ?_
  refine Pw.thenN (Cw.out ?_)
  refine Cw.ret ?_
  refine Pw.ret1 rfl rfl ?_
  exact ⟨rfl, rfl⟩
theorem fillPlace_c (A : Nat) (book : List Value) (w : World) (hA : Blk w A bookT book) (hu : book[11]? = some (.slice none 0 0)) : Fnc Tryz.prog 55 [.pointer (some ⟨A, 0, none⟩)] w (fun r w' => r = .tuple #[] ∧ w = w') := by
  refine Fnc.enter (n := 35) Tryz.func55 (by kernel_rfl) rfl rfl rfl ?_
  refine Cw.seq ?_
  refine Cw.region ?_
  refine Lw.val (Ex.assign rfl) rfl ?_
  refine Lw.nil ?_
  refine Pw.thenN (Cw.out ?_)
  refine Cw.block ?_
  refine Cw.loop (S := Unit) (fun s => [(0, .pointer (some ⟨A, 0, none⟩)), (2, .int .i64 0)]) (fun s w' => w = w') (fun s => 0) (()) ⟨rfl, rfl, trivial⟩ ?_ ?_
  · rfl
  rintro _ _ rfl
  refine Cw.seq ?_
  refine Cw.seq ?_
  refine Cw.region ?_
  refine Lw.val (Ex.move rfl) rfl ?_
  refine Lw.val (Ex.move rfl) rfl ?_
  refine Lw.val (Ex.nilCheck rfl) rfl ?_
  refine Lw.val (Ex.fieldAddr (q := 0) Tryz.underlying51 rfl (sz_45 _) rfl) rfl ?_
  refine Lw.val (Ex.ldB (ag_45 _) rfl hA hu) rfl ?_
  refine Lw.val (Ex.lenS (sz := 3) st_45 rfl (Sl.nil _ _)) rfl ?_
  refine Lw.val (Ex.lss rfl rfl) rfl ?_
  refine Lw.nil ?_
  refine Pw.thenN (Cw.out ?_)
  refine Cw.condB rfl false (rfl) ?_
  refine Cw.exit ?_
  refine Pw.thenE ?_
  refine Pw.thenE ?_
  refine Pw.blkHit ?_
  refine Pw.end0 rfl ?_
  exact ⟨rfl, rfl⟩
theorem growPlace_c (A : Nat) (book : List Value) (w : World) (hA : Blk w A bookT book) (hu : book[11]? = some (.slice none 0 0)) : Fnc Tryz.prog 70 [.pointer (some ⟨A, 0, none⟩)] w (fun r w' => r = .tuple #[] ∧ w = w') := by
  refine Fnc.enter (n := 42) Tryz.func70 (by kernel_rfl) rfl rfl rfl ?_
  refine Cw.seq ?_
  refine Cw.region ?_
  refine Lw.val (Ex.assign rfl) rfl ?_
  refine Lw.nil ?_
  refine Pw.thenN (Cw.out ?_)
  refine Cw.block ?_
  refine Cw.loop (S := Unit) (fun s => [(0, .pointer (some ⟨A, 0, none⟩)), (2, .int .i64 0)]) (fun s w' => w = w') (fun s => 0) (()) ⟨rfl, rfl, trivial⟩ ?_ ?_
  · rfl
  rintro _ _ rfl
  refine Cw.seq ?_
  refine Cw.seq ?_
  refine Cw.region ?_
  refine Lw.val (Ex.move rfl) rfl ?_
  refine Lw.val (Ex.move rfl) rfl ?_
  refine Lw.val (Ex.nilCheck rfl) rfl ?_
  refine Lw.val (Ex.fieldAddr (q := 0) Tryz.underlying51 rfl (sz_45 _) rfl) rfl ?_
  refine Lw.val (Ex.ldB (ag_45 _) rfl hA hu) rfl ?_
  refine Lw.val (Ex.lenS (sz := 3) st_45 rfl (Sl.nil _ _)) rfl ?_
  refine Lw.val (Ex.lss rfl rfl) rfl ?_
  refine Lw.nil ?_
  refine Pw.thenN (Cw.out ?_)
  refine Cw.condB rfl false (rfl) ?_
  refine Cw.exit ?_
  refine Pw.thenE ?_
  refine Pw.thenE ?_
  refine Pw.blkHit ?_
  refine Pw.end0 rfl ?_
  exact ⟨rfl, rfl⟩
theorem lookPlace_c (A : Nat) (book : List Value) (w : World) (hA : Blk w A bookT book) (hu : book[11]? = some (.slice none 0 0)) : Fnc Tryz.prog 85 [.pointer (some ⟨A, 0, none⟩)] w (fun r w' => r = .bool true ∧ w = w') := by
  refine Fnc.enter (n := 64) Tryz.func85 (by kernel_rfl) rfl rfl rfl ?_
  refine Cw.seq ?_
  refine Cw.region ?_
  refine Lw.val (Ex.assign rfl) rfl ?_
  refine Lw.nil ?_
  refine Pw.thenN (Cw.out ?_)
  refine Cw.seq ?_
  refine Cw.seq ?_
  refine Cw.region ?_
  refine Lw.val (Ex.assign rfl) rfl ?_
  refine Lw.nil ?_
  refine Pw.thenN (Cw.out ?_)
  refine Cw.block ?_
  refine Cw.loop (S := Unit) (fun s => [(0, .pointer (some ⟨A, 0, none⟩)), (2, .bool false), (3, .int .i64 0)]) (fun s w' => w = w') (fun s => 0) (()) ⟨rfl, rfl, rfl, trivial⟩ ?_ ?_
  · rfl
  rintro _ _ rfl
  refine Cw.seq ?_
  refine Cw.seq ?_
  refine Cw.region ?_
  refine Lw.val (Ex.move rfl) rfl ?_
  refine Lw.val (Ex.move rfl) rfl ?_
  refine Lw.val (Ex.nilCheck rfl) rfl ?_
  refine Lw.val (Ex.fieldAddr (q := 0) Tryz.underlying51 rfl (sz_45 _) rfl) rfl ?_
  refine Lw.val (Ex.ldB (ag_45 _) rfl hA hu) rfl ?_
  refine Lw.val (Ex.lenS (sz := 3) st_45 rfl (Sl.nil _ _)) rfl ?_
  refine Lw.val (Ex.lss rfl rfl) rfl ?_
  refine Lw.nil ?_
  refine Pw.thenN (Cw.out ?_)
  refine Cw.condB rfl false (rfl) ?_
  refine Cw.exit ?_
  refine Pw.thenE ?_
  refine Pw.thenE ?_
  refine Pw.blkHit ?_
  refine Pw.thenN (Cw.out ?_)
  refine Cw.seq ?_
  refine Cw.region ?_
  refine Lw.val (Ex.assign rfl) rfl ?_
  refine Lw.nil ?_
  refine Pw.thenN (Cw.out ?_)
  refine Cw.ret ?_
  refine Pw.ret1 rfl rfl ?_
  exact ⟨rfl, rfl⟩
theorem fillAsk_c (A : Nat) (book : List Value) (w : World) (hA : Blk w A bookT book) (hu : book[12]? = some (.slice none 0 0)) : Fnc Tryz.prog 56 [.pointer (some ⟨A, 0, none⟩)] w (fun r w' => r = .tuple #[] ∧ w = w') := by
  refine Fnc.enter (n := 35) Tryz.func56 (by kernel_rfl) rfl rfl rfl ?_
  refine Cw.seq ?_
  refine Cw.region ?_
  refine Lw.val (Ex.assign rfl) rfl ?_
  refine Lw.nil ?_
  refine Pw.thenN (Cw.out ?_)
  refine Cw.block ?_
  refine Cw.loop (S := Unit) (fun s => [(0, .pointer (some ⟨A, 0, none⟩)), (2, .int .i64 0)]) (fun s w' => w = w') (fun s => 0) (()) ⟨rfl, rfl, trivial⟩ ?_ ?_
  · rfl
  rintro _ _ rfl
  refine Cw.seq ?_
  refine Cw.seq ?_
  refine Cw.region ?_
  refine Lw.val (Ex.move rfl) rfl ?_
  refine Lw.val (Ex.move rfl) rfl ?_
  refine Lw.val (Ex.nilCheck rfl) rfl ?_
  refine Lw.val (Ex.fieldAddr (q := 0) Tryz.underlying51 rfl (sz_46 _) rfl) rfl ?_
  refine Lw.val (Ex.ldB (ag_46 _) rfl hA hu) rfl ?_
  refine Lw.val (Ex.lenS (sz := 3) st_46 rfl (Sl.nil _ _)) rfl ?_
  refine Lw.val (Ex.lss rfl rfl) rfl ?_
  refine Lw.nil ?_
  refine Pw.thenN (Cw.out ?_)
  refine Cw.condB rfl false (rfl) ?_
  refine Cw.exit ?_
  refine Pw.thenE ?_
  refine Pw.thenE ?_
  refine Pw.blkHit ?_
  refine Pw.end0 rfl ?_
  exact ⟨rfl, rfl⟩
theorem growAsk_c (A : Nat) (book : List Value) (w : World) (hA : Blk w A bookT book) (hu : book[12]? = some (.slice none 0 0)) : Fnc Tryz.prog 71 [.pointer (some ⟨A, 0, none⟩)] w (fun r w' => r = .tuple #[] ∧ w = w') := by
  refine Fnc.enter (n := 42) Tryz.func71 (by kernel_rfl) rfl rfl rfl ?_
  refine Cw.seq ?_
  refine Cw.region ?_
  refine Lw.val (Ex.assign rfl) rfl ?_
  refine Lw.nil ?_
  refine Pw.thenN (Cw.out ?_)
  refine Cw.block ?_
  refine Cw.loop (S := Unit) (fun s => [(0, .pointer (some ⟨A, 0, none⟩)), (2, .int .i64 0)]) (fun s w' => w = w') (fun s => 0) (()) ⟨rfl, rfl, trivial⟩ ?_ ?_
  · rfl
  rintro _ _ rfl
  refine Cw.seq ?_
  refine Cw.seq ?_
  refine Cw.region ?_
  refine Lw.val (Ex.move rfl) rfl ?_
  refine Lw.val (Ex.move rfl) rfl ?_
  refine Lw.val (Ex.nilCheck rfl) rfl ?_
  refine Lw.val (Ex.fieldAddr (q := 0) Tryz.underlying51 rfl (sz_46 _) rfl) rfl ?_
  refine Lw.val (Ex.ldB (ag_46 _) rfl hA hu) rfl ?_
  refine Lw.val (Ex.lenS (sz := 3) st_46 rfl (Sl.nil _ _)) rfl ?_
  refine Lw.val (Ex.lss rfl rfl) rfl ?_
  refine Lw.nil ?_
  refine Pw.thenN (Cw.out ?_)
  refine Cw.condB rfl false (rfl) ?_
  refine Cw.exit ?_
  refine Pw.thenE ?_
  refine Pw.thenE ?_
  refine Pw.blkHit ?_
  refine Pw.end0 rfl ?_
  exact ⟨rfl, rfl⟩
theorem lookAsk_c (A : Nat) (book : List Value) (w : World) (hA : Blk w A bookT book) (hu : book[12]? = some (.slice none 0 0)) : Fnc Tryz.prog 86 [.pointer (some ⟨A, 0, none⟩)] w (fun r w' => r = .bool true ∧ w = w') := by
  refine Fnc.enter (n := 64) Tryz.func86 (by kernel_rfl) rfl rfl rfl ?_
  refine Cw.seq ?_
  refine Cw.region ?_
  refine Lw.val (Ex.assign rfl) rfl ?_
  refine Lw.nil ?_
  refine Pw.thenN (Cw.out ?_)
  refine Cw.seq ?_
  refine Cw.seq ?_
  refine Cw.region ?_
  refine Lw.val (Ex.assign rfl) rfl ?_
  refine Lw.nil ?_
  refine Pw.thenN (Cw.out ?_)
  refine Cw.block ?_
  refine Cw.loop (S := Unit) (fun s => [(0, .pointer (some ⟨A, 0, none⟩)), (2, .bool false), (3, .int .i64 0)]) (fun s w' => w = w') (fun s => 0) (()) ⟨rfl, rfl, rfl, trivial⟩ ?_ ?_
  · rfl
  rintro _ _ rfl
  refine Cw.seq ?_
  refine Cw.seq ?_
  refine Cw.region ?_
  refine Lw.val (Ex.move rfl) rfl ?_
  refine Lw.val (Ex.move rfl) rfl ?_
  refine Lw.val (Ex.nilCheck rfl) rfl ?_
  refine Lw.val (Ex.fieldAddr (q := 0) Tryz.underlying51 rfl (sz_46 _) rfl) rfl ?_
  refine Lw.val (Ex.ldB (ag_46 _) rfl hA hu) rfl ?_
  refine Lw.val (Ex.lenS (sz := 3) st_46 rfl (Sl.nil _ _)) rfl ?_
  refine Lw.val (Ex.lss rfl rfl) rfl ?_
  refine Lw.nil ?_
  refine Pw.thenN (Cw.out ?_)
  refine Cw.condB rfl false (rfl) ?_
  refine Cw.exit ?_
  refine Pw.thenE ?_
  refine Pw.thenE ?_
  refine Pw.blkHit ?_
  refine Pw.thenN (Cw.out ?_)
  refine Cw.seq ?_
  refine Cw.region ?_
  refine Lw.val (Ex.assign rfl) rfl ?_
  refine Lw.nil ?_
  refine Pw.thenN (Cw.out ?_)
  refine Cw.ret ?_
  refine Pw.ret1 rfl rfl ?_
  exact ⟨rfl, rfl⟩
theorem fillDone_c (A : Nat) (book : List Value) (w : World) (hA : Blk w A bookT book) (hu : book[13]? = some (.slice none 0 0)) : Fnc Tryz.prog 57 [.pointer (some ⟨A, 0, none⟩)] w (fun r w' => r = .tuple #[] ∧ w = w') := by
  refine Fnc.enter (n := 35) Tryz.func57 (by kernel_rfl) rfl rfl rfl ?_
  refine Cw.seq ?_
  refine Cw.region ?_
  refine Lw.val (Ex.assign rfl) rfl ?_
  refine Lw.nil ?_
  refine Pw.thenN (Cw.out ?_)
  refine Cw.block ?_
  refine Cw.loop (S := Unit) (fun s => [(0, .pointer (some ⟨A, 0, none⟩)), (2, .int .i64 0)]) (fun s w' => w = w') (fun s => 0) (()) ⟨rfl, rfl, trivial⟩ ?_ ?_
  · rfl
  rintro _ _ rfl
  refine Cw.seq ?_
  refine Cw.seq ?_
  refine Cw.region ?_
  refine Lw.val (Ex.move rfl) rfl ?_
  refine Lw.val (Ex.move rfl) rfl ?_
  refine Lw.val (Ex.nilCheck rfl) rfl ?_
  refine Lw.val (Ex.fieldAddr (q := 0) Tryz.underlying51 rfl (sz_47 _) rfl) rfl ?_
  refine Lw.val (Ex.ldB (ag_47 _) rfl hA hu) rfl ?_
  refine Lw.val (Ex.lenS (sz := 3) st_47 rfl (Sl.nil _ _)) rfl ?_
  refine Lw.val (Ex.lss rfl rfl) rfl ?_
  refine Lw.nil ?_
  refine Pw.thenN (Cw.out ?_)
  refine Cw.condB rfl false (rfl) ?_
  refine Cw.exit ?_
  refine Pw.thenE ?_
  refine Pw.thenE ?_
  refine Pw.blkHit ?_
  refine Pw.end0 rfl ?_
  exact ⟨rfl, rfl⟩
theorem growDone_c (A : Nat) (book : List Value) (w : World) (hA : Blk w A bookT book) (hu : book[13]? = some (.slice none 0 0)) : Fnc Tryz.prog 72 [.pointer (some ⟨A, 0, none⟩)] w (fun r w' => r = .tuple #[] ∧ w = w') := by
  refine Fnc.enter (n := 42) Tryz.func72 (by kernel_rfl) rfl rfl rfl ?_
  refine Cw.seq ?_
  refine Cw.region ?_
  refine Lw.val (Ex.assign rfl) rfl ?_
  refine Lw.nil ?_
  refine Pw.thenN (Cw.out ?_)
  refine Cw.block ?_
  refine Cw.loop (S := Unit) (fun s => [(0, .pointer (some ⟨A, 0, none⟩)), (2, .int .i64 0)]) (fun s w' => w = w') (fun s => 0) (()) ⟨rfl, rfl, trivial⟩ ?_ ?_
  · rfl
  rintro _ _ rfl
  refine Cw.seq ?_
  refine Cw.seq ?_
  refine Cw.region ?_
  refine Lw.val (Ex.move rfl) rfl ?_
  refine Lw.val (Ex.move rfl) rfl ?_
  refine Lw.val (Ex.nilCheck rfl) rfl ?_
  refine Lw.val (Ex.fieldAddr (q := 0) Tryz.underlying51 rfl (sz_47 _) rfl) rfl ?_
  refine Lw.val (Ex.ldB (ag_47 _) rfl hA hu) rfl ?_
  refine Lw.val (Ex.lenS (sz := 3) st_47 rfl (Sl.nil _ _)) rfl ?_
  refine Lw.val (Ex.lss rfl rfl) rfl ?_
  refine Lw.nil ?_
  refine Pw.thenN (Cw.out ?_)
  refine Cw.condB rfl false (rfl) ?_
  refine Cw.exit ?_
  refine Pw.thenE ?_
  refine Pw.thenE ?_
  refine Pw.blkHit ?_
  refine Pw.end0 rfl ?_
  exact ⟨rfl, rfl⟩
theorem lookDone_c (A : Nat) (book : List Value) (w : World) (hA : Blk w A bookT book) (hu : book[13]? = some (.slice none 0 0)) : Fnc Tryz.prog 87 [.pointer (some ⟨A, 0, none⟩)] w (fun r w' => r = .bool true ∧ w = w') := by
  refine Fnc.enter (n := 64) Tryz.func87 (by kernel_rfl) rfl rfl rfl ?_
  refine Cw.seq ?_
  refine Cw.region ?_
  refine Lw.val (Ex.assign rfl) rfl ?_
  refine Lw.nil ?_
  refine Pw.thenN (Cw.out ?_)
  refine Cw.seq ?_
  refine Cw.seq ?_
  refine Cw.region ?_
  refine Lw.val (Ex.assign rfl) rfl ?_
  refine Lw.nil ?_
  refine Pw.thenN (Cw.out ?_)
  refine Cw.block ?_
  refine Cw.loop (S := Unit) (fun s => [(0, .pointer (some ⟨A, 0, none⟩)), (2, .bool false), (3, .int .i64 0)]) (fun s w' => w = w') (fun s => 0) (()) ⟨rfl, rfl, rfl, trivial⟩ ?_ ?_
  · rfl
  rintro _ _ rfl
  refine Cw.seq ?_
  refine Cw.seq ?_
  refine Cw.region ?_
  refine Lw.val (Ex.move rfl) rfl ?_
  refine Lw.val (Ex.move rfl) rfl ?_
  refine Lw.val (Ex.nilCheck rfl) rfl ?_
  refine Lw.val (Ex.fieldAddr (q := 0) Tryz.underlying51 rfl (sz_47 _) rfl) rfl ?_
  refine Lw.val (Ex.ldB (ag_47 _) rfl hA hu) rfl ?_
  refine Lw.val (Ex.lenS (sz := 3) st_47 rfl (Sl.nil _ _)) rfl ?_
  refine Lw.val (Ex.lss rfl rfl) rfl ?_
  refine Lw.nil ?_
  refine Pw.thenN (Cw.out ?_)
  refine Cw.condB rfl false (rfl) ?_
  refine Cw.exit ?_
  refine Pw.thenE ?_
  refine Pw.thenE ?_
  refine Pw.blkHit ?_
  refine Pw.thenN (Cw.out ?_)
  refine Cw.seq ?_
  refine Cw.region ?_
  refine Lw.val (Ex.assign rfl) rfl ?_
  refine Lw.nil ?_
  refine Pw.thenN (Cw.out ?_)
  refine Cw.ret ?_
  refine Pw.ret1 rfl rfl ?_
  exact ⟨rfl, rfl⟩
theorem fillGrid_c (A : Nat) (book : List Value) (w : World) (hA : Blk w A bookT book) (hu : book[14]? = some (.slice none 0 0)) : Fnc Tryz.prog 58 [.pointer (some ⟨A, 0, none⟩)] w (fun r w' => r = .tuple #[] ∧ w = w') := by
  refine Fnc.enter (n := 35) Tryz.func58 (by kernel_rfl) rfl rfl rfl ?_
  refine Cw.seq ?_
  refine Cw.region ?_
  refine Lw.val (Ex.assign rfl) rfl ?_
  refine Lw.nil ?_
  refine Pw.thenN (Cw.out ?_)
  refine Cw.block ?_
  refine Cw.loop (S := Unit) (fun s => [(0, .pointer (some ⟨A, 0, none⟩)), (2, .int .i64 0)]) (fun s w' => w = w') (fun s => 0) (()) ⟨rfl, rfl, trivial⟩ ?_ ?_
  · rfl
  rintro _ _ rfl
  refine Cw.seq ?_
  refine Cw.seq ?_
  refine Cw.region ?_
  refine Lw.val (Ex.move rfl) rfl ?_
  refine Lw.val (Ex.move rfl) rfl ?_
  refine Lw.val (Ex.nilCheck rfl) rfl ?_
  refine Lw.val (Ex.fieldAddr (q := 0) Tryz.underlying51 rfl (sz_48 _) rfl) rfl ?_
  refine Lw.val (Ex.ldB (ag_48 _) rfl hA hu) rfl ?_
  refine Lw.val (Ex.lenS (sz := 3) st_48 rfl (Sl.nil _ _)) rfl ?_
  refine Lw.val (Ex.lss rfl rfl) rfl ?_
  refine Lw.nil ?_
  refine Pw.thenN (Cw.out ?_)
  refine Cw.condB rfl false (rfl) ?_
  refine Cw.exit ?_
  refine Pw.thenE ?_
  refine Pw.thenE ?_
  refine Pw.blkHit ?_
  refine Pw.end0 rfl ?_
  exact ⟨rfl, rfl⟩
theorem growGrid_c (A : Nat) (book : List Value) (w : World) (hA : Blk w A bookT book) (hu : book[14]? = some (.slice none 0 0)) : Fnc Tryz.prog 73 [.pointer (some ⟨A, 0, none⟩)] w (fun r w' => r = .tuple #[] ∧ w = w') := by
  refine Fnc.enter (n := 42) Tryz.func73 (by kernel_rfl) rfl rfl rfl ?_
  refine Cw.seq ?_
  refine Cw.region ?_
  refine Lw.val (Ex.assign rfl) rfl ?_
  refine Lw.nil ?_
  refine Pw.thenN (Cw.out ?_)
  refine Cw.block ?_
  refine Cw.loop (S := Unit) (fun s => [(0, .pointer (some ⟨A, 0, none⟩)), (2, .int .i64 0)]) (fun s w' => w = w') (fun s => 0) (()) ⟨rfl, rfl, trivial⟩ ?_ ?_
  · rfl
  rintro _ _ rfl
  refine Cw.seq ?_
  refine Cw.seq ?_
  refine Cw.region ?_
  refine Lw.val (Ex.move rfl) rfl ?_
  refine Lw.val (Ex.move rfl) rfl ?_
  refine Lw.val (Ex.nilCheck rfl) rfl ?_
  refine Lw.val (Ex.fieldAddr (q := 0) Tryz.underlying51 rfl (sz_48 _) rfl) rfl ?_
  refine Lw.val (Ex.ldB (ag_48 _) rfl hA hu) rfl ?_
  refine Lw.val (Ex.lenS (sz := 3) st_48 rfl (Sl.nil _ _)) rfl ?_
  refine Lw.val (Ex.lss rfl rfl) rfl ?_
  refine Lw.nil ?_
  refine Pw.thenN (Cw.out ?_)
  refine Cw.condB rfl false (rfl) ?_
  refine Cw.exit ?_
  refine Pw.thenE ?_
  refine Pw.thenE ?_
  refine Pw.blkHit ?_
  refine Pw.end0 rfl ?_
  exact ⟨rfl, rfl⟩
theorem lookGrid_c (A : Nat) (book : List Value) (w : World) (hA : Blk w A bookT book) (hu : book[14]? = some (.slice none 0 0)) : Fnc Tryz.prog 88 [.pointer (some ⟨A, 0, none⟩)] w (fun r w' => r = .bool true ∧ w = w') := by
  refine Fnc.enter (n := 64) Tryz.func88 (by kernel_rfl) rfl rfl rfl ?_
  refine Cw.seq ?_
  refine Cw.region ?_
  refine Lw.val (Ex.assign rfl) rfl ?_
  refine Lw.nil ?_
  refine Pw.thenN (Cw.out ?_)
  refine Cw.seq ?_
  refine Cw.seq ?_
  refine Cw.region ?_
  refine Lw.val (Ex.assign rfl) rfl ?_
  refine Lw.nil ?_
  refine Pw.thenN (Cw.out ?_)
  refine Cw.block ?_
  refine Cw.loop (S := Unit) (fun s => [(0, .pointer (some ⟨A, 0, none⟩)), (2, .bool false), (3, .int .i64 0)]) (fun s w' => w = w') (fun s => 0) (()) ⟨rfl, rfl, rfl, trivial⟩ ?_ ?_
  · rfl
  rintro _ _ rfl
  refine Cw.seq ?_
  refine Cw.seq ?_
  refine Cw.region ?_
  refine Lw.val (Ex.move rfl) rfl ?_
  refine Lw.val (Ex.move rfl) rfl ?_
  refine Lw.val (Ex.nilCheck rfl) rfl ?_
  refine Lw.val (Ex.fieldAddr (q := 0) Tryz.underlying51 rfl (sz_48 _) rfl) rfl ?_
  refine Lw.val (Ex.ldB (ag_48 _) rfl hA hu) rfl ?_
  refine Lw.val (Ex.lenS (sz := 3) st_48 rfl (Sl.nil _ _)) rfl ?_
  refine Lw.val (Ex.lss rfl rfl) rfl ?_
  refine Lw.nil ?_
  refine Pw.thenN (Cw.out ?_)
  refine Cw.condB rfl false (rfl) ?_
  refine Cw.exit ?_
  refine Pw.thenE ?_
  refine Pw.thenE ?_
  refine Pw.blkHit ?_
  refine Pw.thenN (Cw.out ?_)
  refine Cw.seq ?_
  refine Cw.region ?_
  refine Lw.val (Ex.assign rfl) rfl ?_
  refine Lw.nil ?_
  refine Pw.thenN (Cw.out ?_)
  refine Cw.ret ?_
  refine Pw.ret1 rfl rfl ?_
  exact ⟨rfl, rfl⟩
theorem fillList_c (A : Nat) (book : List Value) (w : World) (hA : Blk w A bookT book) (hu : book[15]? = some (.slice none 0 0)) : Fnc Tryz.prog 59 [.pointer (some ⟨A, 0, none⟩)] w (fun r w' => r = .tuple #[] ∧ w = w') := by
  refine Fnc.enter (n := 35) Tryz.func59 (by kernel_rfl) rfl rfl rfl ?_
  refine Cw.seq ?_
  refine Cw.region ?_
  refine Lw.val (Ex.assign rfl) rfl ?_
  refine Lw.nil ?_
  refine Pw.thenN (Cw.out ?_)
  refine Cw.block ?_
  refine Cw.loop (S := Unit) (fun s => [(0, .pointer (some ⟨A, 0, none⟩)), (2, .int .i64 0)]) (fun s w' => w = w') (fun s => 0) (()) ⟨rfl, rfl, trivial⟩ ?_ ?_
  · rfl
  rintro _ _ rfl
  refine Cw.seq ?_
  refine Cw.seq ?_
  refine Cw.region ?_
  refine Lw.val (Ex.move rfl) rfl ?_
  refine Lw.val (Ex.move rfl) rfl ?_
  refine Lw.val (Ex.nilCheck rfl) rfl ?_
  refine Lw.val (Ex.fieldAddr (q := 0) Tryz.underlying51 rfl (sz_49 _) rfl) rfl ?_
  refine Lw.val (Ex.ldB (ag_49 _) rfl hA hu) rfl ?_
  refine Lw.val (Ex.lenS (sz := 3) st_49 rfl (Sl.nil _ _)) rfl ?_
  refine Lw.val (Ex.lss rfl rfl) rfl ?_
  refine Lw.nil ?_
  refine Pw.thenN (Cw.out ?_)
  refine Cw.condB rfl false (rfl) ?_
  refine Cw.exit ?_
  refine Pw.thenE ?_
  refine Pw.thenE ?_
  refine Pw.blkHit ?_
  refine Pw.end0 rfl ?_
  exact ⟨rfl, rfl⟩
theorem growList_c (A : Nat) (book : List Value) (w : World) (hA : Blk w A bookT book) (hu : book[15]? = some (.slice none 0 0)) : Fnc Tryz.prog 74 [.pointer (some ⟨A, 0, none⟩)] w (fun r w' => r = .tuple #[] ∧ w = w') := by
  refine Fnc.enter (n := 42) Tryz.func74 (by kernel_rfl) rfl rfl rfl ?_
  refine Cw.seq ?_
  refine Cw.region ?_
  refine Lw.val (Ex.assign rfl) rfl ?_
  refine Lw.nil ?_
  refine Pw.thenN (Cw.out ?_)
  refine Cw.block ?_
  refine Cw.loop (S := Unit) (fun s => [(0, .pointer (some ⟨A, 0, none⟩)), (2, .int .i64 0)]) (fun s w' => w = w') (fun s => 0) (()) ⟨rfl, rfl, trivial⟩ ?_ ?_
  · rfl
  rintro _ _ rfl
  refine Cw.seq ?_
  refine Cw.seq ?_
  refine Cw.region ?_
  refine Lw.val (Ex.move rfl) rfl ?_
  refine Lw.val (Ex.move rfl) rfl ?_
  refine Lw.val (Ex.nilCheck rfl) rfl ?_
  refine Lw.val (Ex.fieldAddr (q := 0) Tryz.underlying51 rfl (sz_49 _) rfl) rfl ?_
  refine Lw.val (Ex.ldB (ag_49 _) rfl hA hu) rfl ?_
  refine Lw.val (Ex.lenS (sz := 3) st_49 rfl (Sl.nil _ _)) rfl ?_
  refine Lw.val (Ex.lss rfl rfl) rfl ?_
  refine Lw.nil ?_
  refine Pw.thenN (Cw.out ?_)
  refine Cw.condB rfl false (rfl) ?_
  refine Cw.exit ?_
  refine Pw.thenE ?_
  refine Pw.thenE ?_
  refine Pw.blkHit ?_
  refine Pw.end0 rfl ?_
  exact ⟨rfl, rfl⟩
theorem lookList_c (A : Nat) (book : List Value) (w : World) (hA : Blk w A bookT book) (hu : book[15]? = some (.slice none 0 0)) : Fnc Tryz.prog 89 [.pointer (some ⟨A, 0, none⟩)] w (fun r w' => r = .bool true ∧ w = w') := by
  refine Fnc.enter (n := 64) Tryz.func89 (by kernel_rfl) rfl rfl rfl ?_
  refine Cw.seq ?_
  refine Cw.region ?_
  refine Lw.val (Ex.assign rfl) rfl ?_
  refine Lw.nil ?_
  refine Pw.thenN (Cw.out ?_)
  refine Cw.seq ?_
  refine Cw.seq ?_
  refine Cw.region ?_
  refine Lw.val (Ex.assign rfl) rfl ?_
  refine Lw.nil ?_
  refine Pw.thenN (Cw.out ?_)
  refine Cw.block ?_
  refine Cw.loop (S := Unit) (fun s => [(0, .pointer (some ⟨A, 0, none⟩)), (2, .bool false), (3, .int .i64 0)]) (fun s w' => w = w') (fun s => 0) (()) ⟨rfl, rfl, rfl, trivial⟩ ?_ ?_
  · rfl
  rintro _ _ rfl
  refine Cw.seq ?_
  refine Cw.seq ?_
  refine Cw.region ?_
  refine Lw.val (Ex.move rfl) rfl ?_
  refine Lw.val (Ex.move rfl) rfl ?_
  refine Lw.val (Ex.nilCheck rfl) rfl ?_
  refine Lw.val (Ex.fieldAddr (q := 0) Tryz.underlying51 rfl (sz_49 _) rfl) rfl ?_
  refine Lw.val (Ex.ldB (ag_49 _) rfl hA hu) rfl ?_
  refine Lw.val (Ex.lenS (sz := 3) st_49 rfl (Sl.nil _ _)) rfl ?_
  refine Lw.val (Ex.lss rfl rfl) rfl ?_
  refine Lw.nil ?_
  refine Pw.thenN (Cw.out ?_)
  refine Cw.condB rfl false (rfl) ?_
  refine Cw.exit ?_
  refine Pw.thenE ?_
  refine Pw.thenE ?_
  refine Pw.blkHit ?_
  refine Pw.thenN (Cw.out ?_)
  refine Cw.seq ?_
  refine Cw.region ?_
  refine Lw.val (Ex.assign rfl) rfl ?_
  refine Lw.nil ?_
  refine Pw.thenN (Cw.out ?_)
  refine Cw.ret ?_
  refine Pw.ret1 rfl rfl ?_
  exact ⟨rfl, rfl⟩
end Go.Proofs.YtkhndfaampkbnaaGreatDoor
