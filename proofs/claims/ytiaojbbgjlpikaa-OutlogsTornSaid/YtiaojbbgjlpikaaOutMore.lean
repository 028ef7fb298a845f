/- Contracts: a log is cut, opened. -/
import Derived.Test.YtiaojbbgjlpikaaOutAdd
namespace Go.Proofs.Ytiaojbbgjlpikaa
open Go Go.Dd Go.RowKit
set_option maxRecDepth 100000

theorem gro_lt {S : Nat → Prop} {w w' : World} (h : ∀ b, S b → b < w.heap.size) (hz : w.heap.size ≤ w'.heap.size) : ∀ b, gro S w w' b → b < w'.heap.size := fun b e => e.elim (fun e => by have := h b e; omega) (fun e => e.2)
theorem cutNo_c (L A : Nat) (S : Nat → Prop) (D : Dsk) (es : List Nat) (n : Int) (w : World) (h : LogAt w S L A D es) (hn : n < 0 ∨ (es.length : Int) < n) : Fnc Try.prog 17 [.pointer (some ⟨L, 0, none⟩), .int .i64 n] w (fun r w' => r = .int .i64 1 ∧ w' = w) := by
  have h0 := h
  obtain ⟨u, T, h⟩ := h
  refine Fnc.enter (n := 33) Try.func17 (by kernel_rfl) rfl rfl rfl ?_
  refine Cw.seq ?_
  refine Cw.region ?_
  refine Lw.val (Ex.assign rfl) rfl ?_
  refine Lw.nil ?_
  refine Pw.thenN (Cw.out ?_)
  refine Cw.seq ?_
  refine Cw.block ?_
  refine Cw.seq ?_
  refine Cw.region ?_
  refine Lw.val (Ex.move rfl) rfl ?_
  refine Lw.callF rfl rfl (there_c L A S D es w h0) ?_
  rintro _ w ⟨rfl, rfl⟩
  have b_L := h.box
  have s_u : SlT encN w u es := own_sl h.oe
  refine Lw.val (Ex.not rfl) rfl ?_
  refine Lw.val (Ex.assign rfl) rfl ?_
  refine Lw.nil ?_
  refine Pw.thenN (Cw.out ?_)
  refine Cw.condB rfl false (rfl) ?_
  refine Cw.seq ?_
  refine Cw.region ?_
  refine Lw.val (Ex.move rfl) rfl ?_
  refine Lw.val (Ex.lss rfl rfl) rfl ?_
  refine Lw.val (Ex.move rfl) rfl ?_
  refine Lw.part 12 rfl ?_ ?_
  · intro g
    refine Lw.pass (dj := 12) rfl rfl rfl rfl ?_
    refine Lw.pass (dj := 12) rfl rfl rfl rfl ?_
    refine Lw.pass (dj := 12) rfl rfl rfl rfl ?_
    refine Lw.pass (dj := 12) rfl rfl rfl rfl ?_
    refine Lw.pass (dj := 12) rfl rfl rfl rfl ?_
    refine Lw.pass (dj := 12) rfl rfl rfl rfl ?_
    refine Lw.pass (dj := 12) rfl rfl rfl rfl ?_
    refine Lw.val (Ex.pickT rfl rfl) rfl ?_
    refine Lw.val (Ex.assign rfl) rfl ?_
    refine Lw.nil ?_
    refine Pw.thenN (Cw.out ?_)
    refine Cw.condT rfl ?_
    refine Cw.seq ?_
    refine Cw.region ?_
    refine Lw.val (Ex.assign rfl) rfl ?_
    refine Lw.nil ?_
    refine Pw.thenN (Cw.out ?_)
    refine Cw.ret ?_
    refine Pw.blkR ?_
    refine Pw.thenR ?_
    refine Pw.ret1 rfl rfl ?_
    exact ⟨rfl, rfl⟩
  intro g
  have g1 := of_decide_eq_false g
  refine Lw.take (dj := 12) rfl rfl ?_
  refine Lw.val (Ex.move rfl) rfl ?_
  refine Lw.take (dj := 12) rfl rfl ?_
  refine Lw.val (Ex.move rfl) rfl ?_
  refine Lw.take (dj := 12) rfl rfl ?_
  refine Lw.val (Ex.nilCheck rfl) rfl ?_
  refine Lw.take (dj := 12) rfl rfl ?_
  refine Lw.val (Ex.fieldAddr (q := 0) Try.underlying72 rfl (sz_33 _) rfl) rfl ?_
  refine Lw.take (dj := 12) rfl rfl ?_
  refine Lw.val (Ex.ldB (ag_33 _) rfl (by assumption) rfl) rfl ?_
  refine Lw.take (dj := 12) rfl rfl ?_
  refine Lw.val (Ex.lenS st_33 rfl (by assumption)) rfl ?_
  refine Lw.take (dj := 12) rfl rfl ?_
  refine Lw.val (Ex.gtr rfl rfl) rfl ?_
  refine Lw.val (Ex.pickF rfl rfl) rfl ?_
  refine Lw.val (Ex.assign rfl) rfl ?_
  refine Lw.nil ?_
  refine Pw.thenN (Cw.out ?_)
  refine Cw.condB rfl true ((by rw [decide_eq_true]; omega)) ?_
  refine Cw.seq ?_
  refine Cw.region ?_
  refine Lw.val (Ex.assign rfl) rfl ?_
  refine Lw.nil ?_
  refine Pw.thenN (Cw.out ?_)
  refine Cw.ret ?_
  refine Pw.blkR ?_
  refine Pw.thenR ?_
  refine Pw.ret1 rfl rfl ?_
  exact ⟨rfl, rfl⟩
theorem cut_c (L A : Nat) (S : Nat → Prop) (D : Dsk) (es : List Nat) (n : Nat) (w : World) (h : LogAt w S L A D es) (hw : D.waits = []) (hn : n ≤ es.length) (hl : es.length ≤ 100000) (he : 1 ≤ endN (es.take n) n ∧ endN (es.take n) n ≤ 1000000) :
    Fnc Try.prog 17 [.pointer (some ⟨L, 0, none⟩), .int .i64 (n : Int)] w (fun r w' => r = .int .i64 0 ∧ Chg S w w' ∧ ∃ F, F = D.seen.set 0 (cntB n (endN (es.take n) n - 1)) ∧ LogAt w' (gro S w w') L A ⟨F, F, []⟩ (es.take n)) := by
  have h0 := h
  obtain ⟨u, T, h⟩ := h
  have ln : (es.take n).length = n := by rw [List.length_take]; omega
  refine Fnc.enter (n := 33) Try.func17 (by kernel_rfl) rfl rfl rfl ?_
  refine Cw.seq ?_
  refine Cw.region ?_
  refine Lw.val (Ex.assign rfl) rfl ?_
  refine Lw.nil ?_
  refine Pw.thenN (Cw.out ?_)
  refine Cw.seq ?_
  refine Cw.block ?_
  refine Cw.seq ?_
  refine Cw.region ?_
  refine Lw.val (Ex.move rfl) rfl ?_
  refine Lw.callF rfl rfl (there_c L A S D es w h0) ?_
  rintro _ w ⟨rfl, rfl⟩
  have b_L := h.box
  have s_u : SlT encN w u es := own_sl h.oe
  refine Lw.val (Ex.not rfl) rfl ?_
  refine Lw.val (Ex.assign rfl) rfl ?_
  refine Lw.nil ?_
  refine Pw.thenN (Cw.out ?_)
  refine Cw.condB rfl false (rfl) ?_
  refine Cw.seq ?_
  refine Cw.region ?_
  refine Lw.val (Ex.move rfl) rfl ?_
  refine Lw.val (Ex.lss rfl rfl) rfl ?_
  refine Lw.val (Ex.move rfl) rfl ?_
  refine Lw.know 12 (v' := .bool false) rfl (congrArg Value.bool ((by rw [decide_eq_false]; omega))) ?_
  refine Lw.take (dj := 12) rfl rfl ?_
  refine Lw.val (Ex.move rfl) rfl ?_
  refine Lw.take (dj := 12) rfl rfl ?_
  refine Lw.val (Ex.move rfl) rfl ?_
  refine Lw.take (dj := 12) rfl rfl ?_
  refine Lw.val (Ex.nilCheck rfl) rfl ?_
  refine Lw.take (dj := 12) rfl rfl ?_
  refine Lw.val (Ex.fieldAddr (q := 0) Try.underlying72 rfl (sz_33 _) rfl) rfl ?_
  refine Lw.take (dj := 12) rfl rfl ?_
  refine Lw.val (Ex.ldB (ag_33 _) rfl (by assumption) rfl) rfl ?_
  refine Lw.take (dj := 12) rfl rfl ?_
  refine Lw.val (Ex.lenS st_33 rfl (by assumption)) rfl ?_
  refine Lw.take (dj := 12) rfl rfl ?_
  refine Lw.val (Ex.gtr rfl rfl) rfl ?_
  refine Lw.val (Ex.pickF rfl rfl) rfl ?_
  refine Lw.val (Ex.assign rfl) rfl ?_
  refine Lw.nil ?_
  refine Pw.thenN (Cw.out ?_)
  refine Cw.condB rfl false ((by rw [decide_eq_false]; omega)) ?_
  refine Cw.skip ?_
  refine Pw.blkN ?_
  refine Pw.thenN (Cw.out ?_)
  refine Cw.seq ?_
  refine Cw.region ?_
  refine Lw.val (Ex.move rfl) rfl ?_
  refine Lw.val (Ex.move rfl) rfl ?_
  refine Lw.val (Ex.nilCheck rfl) rfl ?_
  refine Lw.val (Ex.fieldAddr (q := 0) Try.underlying72 rfl (sz_33 _) rfl) rfl ?_
  refine Lw.val (Ex.ldB (ag_33 _) rfl (by assumption) rfl) rfl ?_
  refine Lw.val (Ex.move rfl) rfl ?_
  refine Lw.val (Ex.cutH st_33 rfl rfl (by assumption) (by omega)) rfl ?_
  have s_c : SlT (Value.int .i64) w (cut u 1 0 n) ((es.take n).map fun k : Nat => (k : Int)) := by
    have := SlT.take s_u hn
    unfold SlT
    rw [List.length_map, List.map_map]
    exact this
  refine Lw.callF rfl rfl (clone_c _ _ w s_c (by rw [List.length_map, ln]; omega)) ?_
  rintro x w1 ⟨o_x, hn1⟩
  rw [List.length_map, List.map_map] at o_x
  have hV := h.bs hn1
  have b_L := hV.box
  have xb := own_block o_x
  have z1 := hn1.size
  refine Lw.val (Ex.nilCheck rfl) rfl ?_
  refine Lw.val (Ex.fieldAddr (q := 0) Try.underlying72 rfl (sz_33 _) rfl) rfl ?_
  refine Lw.unit (Xu.stB (u := x) (sz_33 _) rfl rfl (own_sl o_x).one' b_L Nat.one_lt_two) ?_
  rintro w2 ⟨b_L, hg, hz⟩
  have ltS := h.lt
  have C2 : Chg (fun i => i = L) w1 w2 := (Chg.refl _ _).grown hg (fun i e => .inl (Option.some.inj e).symm)
  have zL := ltS L h.sL
  have o_x2 := own_chg o_x C2 (fun i e => by have := xb i e; omega)
  have hd2 := hV.d.chg C2 (fun i e e2 => h.tL (e2 ▸ e))
  have hLog : LogAt w2 (gro S w w2) L A D (es.take n) := ⟨x, T, b_L, own_mono o_x2 (Nat.zero_le _), hd2, fun i e => .inl (h.sT i e), .inl h.sL, fun i e => .inr (by have := xb i e; omega), h.tL, fun i e e2 => by have := xb i e; have := ltS i (h.sT i e2); omega, fun e => by have := xb L e; omega, gro_lt ltS (by omega)⟩
  have CC : Chg S w w2 := (Chg.of_below hn1).into C2 (fun i e => .inl (e ▸ h.sL))
  refine Lw.nil ?_
  refine Pw.thenN (Cw.out ?_)
  refine Cw.seq ?_
  refine Cw.region ?_
  refine Lw.val (Ex.move rfl) rfl ?_
  refine Lw.callF rfl rfl (tells_c L A _ D (es.take n) w2 hLog hw (by rw [ln]; exact he)) ?_
  rintro _ w3 ⟨rfl, hC3, hL3⟩
  rw [ln] at hL3
  have z2 := CC.size
  have z3 := hC3.size
  refine Lw.nil ?_
  refine Pw.thenN (Cw.out ?_)
  refine Cw.seq ?_
  refine Cw.region ?_
  refine Lw.val (Ex.assign rfl) rfl ?_
  refine Lw.nil ?_
  refine Pw.thenN (Cw.out ?_)
  refine Cw.ret ?_
  refine Pw.ret1 rfl rfl ?_
  exact ⟨rfl, CC.into hC3 (gro_into (Nat.le_refl _)), _, rfl, hL3.wide (fun i e => e.elim (fun e => e.elim .inl (fun e => .inr (by omega))) (fun e => .inr (by omega))) (gro_lt ltS (by omega))⟩

/-! ### What reading comes to -/
/-- A record is there, told by what. -/
def RdOk (l : List By) (a : Nat) (ix : BitVec 32) (s : List Int) (t : List (BitVec 32)) (nx : Nat) : Prop :=
  ∃ j, (∀ i, i < j → secE l (a + i) = 0) ∧ recM l a ≤ 65536 ∧ 8 + recM l a ≤ 60 * j ∧ 60 * (j - 1) < 8 + recM l a ∧ recF (catS l a j) (8 + recM l a) = true ∧ gf (catS l a j) = ix ∧
    gtS (((catS l a j).drop 8).take (recM l a)) = s ∧ gtL (((catS l a j).drop 8).take (recM l a)) = t ∧ a + j = nx
/-- A sector of it can't be told. -/
def RdBad (l : List By) (a : Nat) (e : Int) : Prop := e ≠ 0 ∧ ∃ j, (∀ i, i < j → secE l (a + i) = 0) ∧ (j = 0 ∨ (recM l a ≤ 65536 ∧ 60 * j < 8 + recM l a)) ∧ secE l (a + j) = e
theorem recR_ok {W w : World} {l : List By} {a nx : Nat} {ix : BitVec 32} {s : List Int} {t : List (BitVec 32)} {v : Value} (h : RdOk l a ix s t nx) (k : RecR W w l a v) : ∃ x y, v = .tuple #[.agg [u32 ix, x, y].toArray, .int .i64 (nx : Int), .int .i64 0] ∧ Made1 W w x y s t := by
  obtain ⟨j, h1, h2, h3, h4, h5, rfl, rfl, rfl, rfl⟩ := h
  cases k with
  | bad j' k1 k2 k3 =>
    exfalso
    have : j' < j := by rcases k2 with k2 | k2 <;> omega
    exact k3 (h1 j' this)
  | many k1 k2 => omega
  | none j' k1 k2 k3 k4 k5 =>
    obtain rfl : j' = j := by omega
    rw [h5] at k5; cases k5
  | one j' x y k1 k2 k3 k4 k5 k6 =>
    obtain rfl : j' = j := by omega
    exact ⟨x, y, rfl, k6⟩
theorem recR_bad {W w : World} {l : List By} {a : Nat} {e : Int} {v : Value} (h : RdBad l a e) (k : RecR W w l a v) : v = .tuple #[noRec, .int .i64 0, .int .i64 e] := by
  obtain ⟨h0, j, h1, h2, rfl⟩ := h
  cases k with
  | bad j' k1 k2 k3 =>
    have : j' = j := by
      rcases Nat.lt_trichotomy j' j with h | h | h
      · exact absurd (h1 j' h) k3
      · exact h
      · exact absurd (k1 j h) h0
    subst this; rfl
  | many k1 k2 =>
    exfalso
    rcases h2 with h2 | h2
    · subst h2; exact h0 (by simpa using k1)
    · omega
  | none j' k1 k2 k3 k4 k5 =>
    exfalso
    have : j < j' := by rcases h2 with h2 | h2 <;> omega
    exact h0 (k1 j this)
  | one j' x y k1 k2 k3 k4 k5 k6 =>
    exfalso
    have : j < j' := by rcases h2 with h2 | h2 <;> omega
    exact h0 (k1 j this)
/-- Records, one behind the other, each where the one ahead of it ends. -/
def Chain (l : List By) (es : List Nat) : Prop := ∀ k, k < es.length → ∃ s t, RdOk l (endN es k) (BitVec.ofNat 32 k) s t (es.getD k 0)
def cM (l : List By) : Nat := (gf ((l.getD 0 []).drop 5)).toNat
def cS (l : List By) : Nat := (gf ((l.getD 0 []).drop 9)).toNat
/-- What opening a disk comes to. -/
inductive OpenH (l : List By) : Int → List Nat → Prop
  | zero (h : nzB (l.getD 0 []) = true) : OpenH l 0 []
  | cnt (e : Int) (h : nzB (l.getD 0 []) = false) (h1 : cntE (l.getD 0 []) = e) (h2 : e ≠ 0) : OpenH l e []
  | ok (es : List Nat) (h : nzB (l.getD 0 []) = false) (h1 : cntE (l.getD 0 []) = 0) (h2 : Chain l es) (h3 : es.length = cM l) (h4 : endN es es.length = cS l + 1) : OpenH l 0 es
  | bad (es : List Nat) (e : Int) (h : nzB (l.getD 0 []) = false) (h1 : cntE (l.getD 0 []) = 0) (h2 : Chain l es) (h3 : es.length < cM l) (h4 : RdBad l (endN es es.length) e) : OpenH l e es
theorem endN_take {es : List Nat} {k i : Nat} (h : k ≤ i) : endN (es.take i) k = endN es k := by
  unfold endN
  split
  · rfl
  · rw [List.getD_eq_getElem?_getD, List.getD_eq_getElem?_getD, List.getElem?_take, if_pos (by omega)]
theorem bt_log (v : Value) (hv : v.cells = [v].toArray) : Try.prog.built logT [(0, v)] = some [v, .slice none 0 0].toArray := by
  have h1 : Try.prog.info? 72 = some Try.t72 := by kernel_rfl
  have h2 : Try.prog.info? 25 = some Try.t25 := by kernel_rfl
  have h3 : Try.prog.info? 33 = some Try.t33 := by kernel_rfl
  simp [Program.built, h1, Try.underlying72, h2, h3, Instr.fill, hv]
  rfl
theorem open_c (A : Nat) (S : Nat → Prop) (D : Dsk) (e : Int) (es : List Nat) (w : World) (h : DiskAt w S A D) (h2 : 2 ≤ D.seen.length) (hO : OpenH D.seen e es) (hb : ∀ k, k ≤ es.length → endN es k ≤ 100000) :
    Fnc Try.prog 11 [.pointer (some ⟨A, 0, none⟩)] w (fun r w' => Below w.heap.size w w' ∧ (e = 0 → ∃ L, r = .tuple #[.pointer (some ⟨L, 0, none⟩), .int .i64 0] ∧ LogAt w' (gro S w w') L A D es) ∧ (e ≠ 0 → r = .tuple #[.pointer none, .int .i64 e])) := by
  obtain ⟨l, hl⟩ : ∃ l, l = D.seen := ⟨_, rfl⟩
  rw [← hl] at hO h2
  have h64 : ∀ b ∈ l, b.length = 64 := by rw [hl]; exact h.ok.f2
  obtain ⟨b, hb0⟩ : ∃ b, b = l.getD 0 [] := ⟨_, rfl⟩
  have eb : l[0] = b := by rw [hb0, List.getD_eq_getElem?_getD, List.getElem?_eq_getElem (by omega)]; rfl
  have l64 : b.length = 64 := by rw [← eb]; exact h64 _ (List.getElem_mem _)
  have hB := Below.refl w.heap.size w
  refine Fnc.enter (n := 95) Try.func11 (by kernel_rfl) rfl rfl rfl ?_
  refine Cw.seq ?_
  refine Cw.region ?_
  refine Lw.val (Ex.assign rfl) rfl ?_
  refine Lw.val (Ex.assign rfl) rfl ?_
  refine Lw.nil ?_
  refine Pw.thenN (Cw.out ?_)
  refine Cw.seq ?_
  refine Cw.seq ?_
  refine Cw.region ?_
  refine Lw.val (Ex.move rfl) rfl ?_
  refine Lw.callF rfl rfl (dlen_c A S D w h) ?_
  rintro _ w ⟨rfl, rfl⟩
  rw [← hl]
  refine Lw.val (Ex.assign rfl) rfl ?_
  refine Lw.nil ?_
  refine Pw.thenN (Cw.out ?_)
  refine Cw.block ?_
  refine Cw.seq ?_
  refine Cw.region ?_
  refine Lw.val (Ex.move rfl) rfl ?_
  refine Lw.val (Ex.eql rfl rfl) rfl ?_
  refine Lw.val (Ex.assign rfl) rfl ?_
  refine Lw.nil ?_
  refine Pw.thenN (Cw.out ?_)
  refine Cw.condB rfl false ((by rw [decide_eq_false]; omega)) ?_
  refine Cw.seq ?_
  refine Cw.region ?_
  refine Lw.val (Ex.move rfl) rfl ?_
  refine Lw.val (Ex.lss rfl rfl) rfl ?_
  refine Lw.val (Ex.assign rfl) rfl ?_
  refine Lw.nil ?_
  refine Pw.thenN (Cw.out ?_)
  refine Cw.condB rfl false ((by rw [decide_eq_false]; omega)) ?_
  refine Cw.skip ?_
  refine Pw.blkN ?_
  refine Pw.thenN (Cw.out ?_)
  refine Cw.seq ?_
  refine Cw.region ?_
  refine Lw.val (Ex.move rfl) rfl ?_
  refine Lw.callF rfl rfl (read_c A S D 0 w h (by rw [← hl]; omega)) ?_
  rintro _ w1 ⟨hn, x, rfl, hx⟩
  have hB1 := hB.trans hn
  have ex : D.seen[0]'(by rw [← hl]; omega) = b := by rw [← eb]; congr 1; exact hl.symm
  rw [ex] at hx
  have s_x : SlT b8 w1 x b := by have := hx.sl; unfold SlT; rwa [l64]
  refine Lw.val (Ex.move rfl) rfl ?_
  refine Lw.val (Ex.extract (i := 0) rfl rfl) rfl ?_
  refine Lw.val (Ex.extract (i := 1) rfl rfl) rfl ?_
  refine Lw.val (Ex.assign rfl) rfl ?_
  refine Lw.val (Ex.assign rfl) rfl ?_
  refine Lw.nil ?_
  refine Pw.thenN (Cw.out ?_)
  refine Cw.seq ?_
  refine Cw.seq ?_
  refine Cw.region ?_
  refine Lw.val (Ex.move rfl) rfl ?_
  refine Lw.val (Ex.neq rfl rfl) rfl ?_
  refine Lw.nil ?_
  refine Pw.thenN (Cw.out ?_)
  refine Cw.condB rfl false (rfl) ?_
  refine Cw.skip ?_
  refine Pw.thenN (Cw.out ?_)
  refine Cw.seq ?_
  refine Cw.region ?_
  refine Lw.val (Ex.move rfl) rfl ?_
  refine Lw.val (Ex.build (vs := [(0, .pointer (some ⟨A, 0, none⟩))]) (cs := [.pointer (some ⟨A, 0, none⟩), .slice none 0 0]) rfl (bt_log _ rfl)) rfl ?_
  refine Lw.valW (Xw.box (cs := [.pointer (some ⟨A, 0, none⟩), .slice none 0 0]) rfl rfl) rfl ?_
  rintro _ w2 ⟨rfl, b_L, hn2, hz2⟩
  obtain ⟨L, hL⟩ : ∃ L, L = w1.heap.size := ⟨_, rfl⟩
  rw [← hL] at b_L ⊢
  have s_x := s_x.bs hn2
  have z1 := below_size hB1
  have hB2 := hB1.trans (hn2.mono z1)
  have ltS := h.lt
  refine Lw.val (Ex.assign rfl) rfl ?_
  refine Lw.nil ?_
  refine Pw.thenN (Cw.out ?_)
  refine Cw.seq ?_
  refine Cw.seq ?_
  refine Cw.region ?_
  refine Lw.val (Ex.move rfl) rfl ?_
  refine Lw.callF rfl rfl (nought_c x b w2 s_x) ?_
  rintro _ w3 ⟨rfl, hn3⟩
  have s_x := s_x.bs hn3
  have b_L := b_L.bs hn3
  have z2 := below_size hB2
  have hB3 := hB2.trans (hn3.mono z2)
  have z3 := hn3.size
  have zL := blk_lt b_L
  refine Lw.nil ?_
  refine Pw.thenN (Cw.out ?_)
  refine Cw.cond rfl ?_ ?_
  · intro g
    have hLog : LogAt w3 (gro S w w3) L A D [] := ⟨.slice none 0 0, S, b_L, ⟨rfl, .inl ⟨rfl, rfl⟩⟩, h.bs hB3, fun i e => .inl e, .inr (by omega), (fun i e => by cases e), (fun e => by have := ltS L e; omega), (fun i e => by cases e), (fun e => by cases e), gro_lt ltS (by omega)⟩
    refine Cw.seq ?_
    refine Cw.region ?_
    refine Lw.val (Ex.move rfl) rfl ?_
    refine Lw.val (Ex.assign rfl) rfl ?_
    refine Lw.val (Ex.assign rfl) rfl ?_
    refine Lw.nil ?_
    refine Pw.thenN (Cw.out ?_)
    refine Cw.ret ?_
    refine Pw.thenR ?_
    refine Pw.ret2 rfl rfl rfl ?_
    cases hO with
    | zero k => exact ⟨hB3, fun _ => ⟨L, rfl, hLog⟩, fun k => absurd rfl k⟩
    | cnt _ k => rw [← hb0, g] at k; cases k
    | ok _ k => rw [← hb0, g] at k; cases k
    | bad _ _ k => rw [← hb0, g] at k; cases k
  intro g
  refine Cw.skip ?_
  refine Pw.thenN (Cw.out ?_)
  refine Cw.seq ?_
  refine Cw.region ?_
  refine Lw.val (Ex.move rfl) rfl ?_
  refine Lw.callF rfl rfl (counts_c x b w3 s_x l64) ?_
  rintro _ w4 ⟨⟨m, q, rfl, hmq⟩, hn4⟩
  have b_L := b_L.bs hn4
  have z3 := below_size hB3
  have hB4 := hB3.trans (hn4.mono z3)
  refine Lw.val (Ex.move rfl) rfl ?_
  refine Lw.val (Ex.extract (i := 0) rfl rfl) rfl ?_
  refine Lw.val (Ex.extract (i := 1) rfl rfl) rfl ?_
  refine Lw.val (Ex.extract (i := 2) rfl rfl) rfl ?_
  refine Lw.val (Ex.assign rfl) rfl ?_
  refine Lw.val (Ex.assign rfl) rfl ?_
  refine Lw.val (Ex.assign rfl) rfl ?_
  refine Lw.nil ?_
  refine Pw.thenN (Cw.out ?_)
  refine Cw.seq ?_
  refine Cw.seq ?_
  refine Cw.region ?_
  refine Lw.val (Ex.move rfl) rfl ?_
  refine Lw.val (Ex.neq rfl rfl) rfl ?_
  refine Lw.nil ?_
  refine Pw.thenN (Cw.out ?_)
  refine Cw.cond rfl ?_ ?_
  · intro g2
    have g3 : cntE b ≠ 0 := by simpa using g2
    refine Cw.seq ?_
    refine Cw.region ?_
    refine Lw.val (Ex.move rfl) rfl ?_
    refine Lw.val (Ex.assign rfl) rfl ?_
    refine Lw.val (Ex.assign rfl) rfl ?_
    refine Lw.nil ?_
    refine Pw.thenN (Cw.out ?_)
    refine Cw.ret ?_
    refine Pw.thenR ?_
    refine Pw.ret2 rfl rfl rfl ?_
    cases hO with
    | zero k => rw [← hb0, g] at k; cases k
    | cnt _ k k1 k2 => rw [← hb0] at k1; exact ⟨hB4, fun k => absurd k k2, fun _ => by rw [k1]⟩
    | ok _ k k1 => rw [← hb0] at k1; exact absurd k1 g3
    | bad _ _ k k1 => rw [← hb0] at k1; exact absurd k1 g3
  intro g2
  have g3 : cntE b = 0 := by simpa using g2
  obtain ⟨rfl, rfl⟩ := hmq g3
  obtain ⟨M, hM⟩ : ∃ M, M = gf (b.drop 5) := ⟨_, rfl⟩
  rw [← hM]
  have hMc : M.toNat = cM l := by rw [hM, hb0]; rfl
  have hch : Chain l es ∧ es.length ≤ M.toNat ∧ (es.length < M.toNat → RdBad l (endN es es.length) e) ∧ (es.length = M.toNat → e = 0 ∧ endN es es.length = cS l + 1) := by
    cases hO with
    | zero k => rw [← hb0, g] at k; cases k
    | cnt _ k k1 k2 => rw [← hb0] at k1; exact absurd (k1.symm.trans g3) k2
    | ok _ k1 k2 k3 k4 k5 => exact ⟨k3, by omega, fun h => by omega, fun _ => ⟨rfl, k5⟩⟩
    | bad _ _ k1 k2 k3 k4 k5 => exact ⟨k3, by omega, fun _ => k5, fun h => by omega⟩
  obtain ⟨hch, hle, hbad, hfin⟩ := hch
  have M32 := M.isLt
  obtain ⟨Q, hQ⟩ : ∃ Q, Q = gf (b.drop 9) := ⟨_, rfl⟩
  rw [← hQ]
  have hQc : Q.toNat = cS l := by rw [hQ, hb0]; rfl
  have Q32 := Q.isLt
  obtain ⟨B0, hB0⟩ : ∃ B0, B0 = w4.heap.size := ⟨_, rfl⟩
  have z4 := below_size hB4
  have zLB : w.heap.size ≤ L ∧ L < B0 := by have := blk_lt b_L; omega
  refine Cw.skip ?_
  refine Pw.thenN (Cw.out ?_)
  refine Cw.seq ?_
  refine Cw.seq ?_
  refine Cw.region ?_
  refine Lw.val (Ex.move rfl) rfl ?_
  refine Lw.val (Ex.move (show _ = some (u32 (0#32)) from rfl)) rfl ?_
  refine Lw.nil ?_
  refine Pw.thenN (Cw.out ?_)
  refine Cw.block ?_
  refine Cw.loop (S := (Nat × Value)) (fun z => [(0, .pointer (some ⟨A, 0, none⟩)), (7, .pointer (some ⟨L, 0, none⟩)), (9, u32 Q), (45, u32 M), (46, u32 (BitVec.ofNat 32 z.1))]) (fun z w' => z.1 ≤ es.length ∧ Blk w' L logT [.pointer (some ⟨A, 0, none⟩), z.2] ∧ w'.ownsRow B0 3 1 z.2 (es.take z.1).length ((es.take z.1).map encN) ∧ Below w.heap.size w w' ∧ B0 ≤ w'.heap.size) (fun z => M.toNat + 1 - z.1) ((0, .slice none 0 0)) ⟨rfl, rfl, rfl, rfl, rfl, trivial⟩ ?_ ?_
  · exact ⟨Nat.zero_le _, b_L, ⟨rfl, .inl ⟨rfl, rfl⟩⟩, hB4, by omega⟩
  clear b_L hB hB1 hB2 hB3 hB4 s_x hx
  rintro ⟨i, u⟩ w5 ⟨hi, b_L, o_u, hB, zB⟩
  dsimp only at hi b_L o_u hB zB ⊢
  have ei : (BitVec.ofNat 32 i).toNat = i := by rw [BitVec.toNat_ofNat]; omega
  have s_u : SlT encN w5 u (es.take i) := own_sl o_u
  have lt : (es.take i).length = i := by rw [List.length_take]; omega
  have ub := own_block o_u
  have hLog : LogAt w5 (gro S w w5) L A D (es.take i) := ⟨u, S, b_L, own_mono o_u (Nat.zero_le _), h.bs hB, fun i e => .inl e, .inr ⟨zLB.1, blk_lt b_L⟩, (fun i e => .inr (by have := ub i e; omega)), (fun e => by have := ltS L e; omega), (fun i e e2 => by have := ub i e; have := ltS i e2; omega), (fun e => by have := ub L e; omega), gro_lt ltS (below_size hB)⟩
  have eE : endN (es.take i) (es.take i).length = endN es i := by rw [lt]; exact endN_take (Nat.le_refl _)
  refine Cw.seq ?_
  refine Cw.region ?_
  refine Lw.val (Ex.lss rfl rfl) rfl ?_
  refine Lw.nil ?_
  refine Pw.thenN (Cw.out ?_)
  refine Cw.seq ?_
  refine Cw.cond rfl ?_ ?_
  · intro g
    have g1 : i < M.toNat := by have := of_decide_eq_true g; rw [ei] at this; omega
    refine Cw.skip ?_
    refine Pw.thenN (Cw.out ?_)
    refine Cw.seq ?_
    refine Cw.block ?_
    refine Cw.seq ?_
    refine Cw.region ?_
    refine Lw.val (Ex.move rfl) rfl ?_
    refine Lw.val (Ex.assign rfl) rfl ?_
    refine Lw.nil ?_
    refine Pw.thenN (Cw.out ?_)
    refine Cw.seq ?_
    refine Cw.region ?_
    refine Lw.val (Ex.move rfl) rfl ?_
    refine Lw.val (Ex.move rfl) rfl ?_
    refine Lw.val (Ex.move rfl) rfl ?_
    refine Lw.val (Ex.nilCheck rfl) rfl ?_
    refine Lw.val (Ex.fieldAddr (q := 0) Try.underlying72 rfl (sz_33 _) rfl) rfl ?_
    refine Lw.val (Ex.ldB (ag_33 _) rfl (by assumption) rfl) rfl ?_
    refine Lw.val (Ex.lenS st_33 rfl (by assumption)) rfl ?_
    refine Lw.callF rfl rfl (end_c L A (es.take i).length _ D (es.take i) w5 hLog (Nat.le_refl _)) ?_
    rintro _ w5 ⟨rfl, rfl⟩
    rw [eE]
    refine Lw.callF rfl rfl (record_c A S D (endN es i) w5 (h.bs hB) (hb i hi)) ?_
    rintro r w6 ⟨hn6, hR⟩
    rw [← hl] at hR
    have hB6 := hB.trans (hn6.mono (below_size hB))
    have z6 := hn6.size
    by_cases hil : i < es.length
    · obtain ⟨s, t, hok⟩ := hch i hil
      obtain ⟨x, y, rfl, hM1⟩ := recR_ok hok hR
      have b_L := b_L.bs hn6
      have o_u := own_bs o_u hn6
      have s_u := s_u.bs hn6
      refine Lw.val (Ex.move rfl) rfl ?_
      refine Lw.val (Ex.extract (i := 0) rfl rfl) rfl ?_
      refine Lw.val (Ex.extract (i := 1) rfl rfl) rfl ?_
      refine Lw.val (Ex.extract (i := 2) rfl rfl) rfl ?_
      refine Lw.boxed (cs := [u32 (BitVec.ofNat 32 i), x, y]) it_39 rfl rfl rfl rfl (fun _ => rfl) ((by rw [List.all_cons, hM1.one]; rfl)) ?_
      rintro A_r w7 eA_r b_r hn7 zhn7
      have hB7 := hB6.trans (hn7.mono (below_size hB6))
      have b_L := b_L.bs hn7
      have o_u := own_bs o_u hn7
      have s_u := s_u.bs hn7
      have z7 := hn7.size
      refine Lw.val (Ex.assign rfl) rfl ?_
      refine Lw.val (Ex.assign rfl) rfl ?_
      refine Lw.nil ?_
      refine Pw.thenN (Cw.out ?_)
      refine Cw.seq ?_
      refine Cw.block ?_
      refine Cw.seq ?_
      refine Cw.region ?_
      refine Lw.val (Ex.move rfl) rfl ?_
      refine Lw.val (Ex.neq rfl rfl) rfl ?_
      refine Lw.val (Ex.assign rfl) rfl ?_
      refine Lw.nil ?_
      refine Pw.thenN (Cw.out ?_)
      refine Cw.condB rfl false (rfl) ?_
      refine Cw.seq ?_
      refine Cw.region ?_
      refine Lw.val (Ex.fieldAddr (q := 0) Try.underlying39 rfl (sz_32 _) rfl) rfl ?_
      refine Lw.val (Ex.ldB (ag_32 _) rfl (by assumption) rfl) rfl ?_
      refine Lw.val (Ex.move rfl) rfl ?_
      refine Lw.val (Ex.neq32 rfl rfl) rfl ?_
      refine Lw.val (Ex.assign rfl) rfl ?_
      refine Lw.nil ?_
      refine Pw.thenN (Cw.out ?_)
      refine Cw.condB rfl false ((by simp)) ?_
      refine Cw.skip ?_
      refine Pw.blkN ?_
      refine Pw.thenN (Cw.out ?_)
      refine Cw.region ?_
      refine Lw.val (Ex.move rfl) rfl ?_
      refine Lw.val (Ex.move rfl) rfl ?_
      refine Lw.val (Ex.nilCheck rfl) rfl ?_
      refine Lw.val (Ex.fieldAddr (q := 0) Try.underlying72 rfl (sz_33 _) rfl) rfl ?_
      refine Lw.val (Ex.ldB (ag_33 _) rfl (by assumption) rfl) rfl ?_
      refine Lw.val (Ex.move rfl) rfl ?_
      refine Lw.valW (Xw.lit (vs := [es.getD i 0].map encN) st_33 it_3 rfl rfl rfl rfl rfl) rfl ?_
      rintro v w8 ⟨o_v, -, hn8, -⟩
      have hB8 := hB7.trans (hn8.mono (below_size hB7))
      have b_L := b_L.bs hn8
      have o_u := own_bs o_u hn8
      have z8 := hn8.size
      have eT : es.take i ++ [es.getD i 0] = es.take (i + 1) := by rw [List.take_succ_eq_append_getElem hil]; simp [List.getD_eq_getElem?_getD, hil]
      have eL : (es.take i).length + 1 = (es.take (i + 1)).length := by rw [← eT, List.length_append]; rfl
      refine Lw.valW (Xw.append (base := B0) st_33 it_3 rfl (by decide) rfl rfl o_u (own_sl o_v) (one_map (fun _ => rfl) _) (by omega) (by omega) (by omega)) rfl ?_
      rintro u' w9 ⟨o_u', hb9, hg9⟩
      rw [← List.map_append, eT, eL] at o_u'
      have b_L := b_L.bl hb9 zLB.2
      have hB9 := hB8.trans (hb9.mono (by omega))
      have ub' := own_block o_u'
      have z9 := hb9.size
      refine Lw.val (Ex.nilCheck rfl) rfl ?_
      refine Lw.val (Ex.fieldAddr (q := 0) Try.underlying72 rfl (sz_33 _) rfl) rfl ?_
      refine Lw.unit (Xu.stB (u := u') (sz_33 _) rfl rfl (own_sl o_u').one' b_L Nat.one_lt_two) ?_
      rintro w10 ⟨b_L, hg10, hz10⟩
      have hB10 := hB9.grown hg10 (below_size hB9) (by rintro _ ⟨⟩; exact zLB.1)
      have o_u' := own_heap o_u' (fun k e => hg10.block k (ub' k e).2 (by intro e2; cases e2; have := ub' _ e; omega))
      refine Lw.nil ?_
      refine Pw.blkN ?_
      refine Pw.thenN (Cw.out ?_)
      refine Cw.region ?_
      refine Lw.val (Ex.add32 rfl (show _ = some (u32 (1#32)) from rfl)) rfl ?_
      refine Lw.val (Ex.move rfl) rfl ?_
      refine Lw.nil ?_
      exact Pw.thenN (Pw.next ((i + 1, u')) ⟨rfl, rfl, rfl, rfl, (congrArg (fun z => some (u32 z)) (by apply BitVec.eq_of_toNat_eq; simp)), trivial⟩ (⟨hil, b_L, o_u', hB10, by omega⟩) (by simp only; omega))
    · obtain rfl : i = es.length := by omega
      obtain rfl := recR_bad (hbad g1) hR
      have he0 := (hbad g1).1
      refine Lw.val (Ex.move rfl) rfl ?_
      refine Lw.val (Ex.extract (i := 0) rfl rfl) rfl ?_
      refine Lw.val (Ex.extract (i := 1) rfl rfl) rfl ?_
      refine Lw.val (Ex.extract (i := 2) rfl rfl) rfl ?_
      refine Lw.boxed (cs := [u32 0#32, .slice none 0 0, .slice none 0 0]) it_39 rfl rfl rfl rfl (fun _ => rfl) (rfl) ?_
      rintro A_r w7 eA_r b_r hn7 zhn7
      have hB7 := hB6.trans (hn7.mono (below_size hB6))
      refine Lw.val (Ex.assign rfl) rfl ?_
      refine Lw.val (Ex.assign rfl) rfl ?_
      refine Lw.nil ?_
      refine Pw.thenN (Cw.out ?_)
      refine Cw.seq ?_
      refine Cw.block ?_
      refine Cw.seq ?_
      refine Cw.region ?_
      refine Lw.val (Ex.move rfl) rfl ?_
      refine Lw.val (Ex.neq rfl rfl) rfl ?_
      refine Lw.val (Ex.assign rfl) rfl ?_
      refine Lw.nil ?_
      refine Pw.thenN (Cw.out ?_)
      refine Cw.condB rfl true ((by simpa using he0)) ?_
      refine Cw.seq ?_
      refine Cw.region ?_
      refine Lw.val (Ex.move rfl) rfl ?_
      refine Lw.val (Ex.assign rfl) rfl ?_
      refine Lw.val (Ex.assign rfl) rfl ?_
      refine Lw.nil ?_
      refine Pw.thenN (Cw.out ?_)
      refine Cw.ret ?_
      refine Pw.blkR ?_
      refine Pw.thenR ?_
      refine Pw.blkR ?_
      refine Pw.thenR ?_
      refine Pw.thenR ?_
      refine Pw.blkR ?_
      refine Pw.thenR ?_
      refine Pw.ret2 rfl rfl rfl ?_
      exact ⟨hB7, fun h => absurd h he0, fun _ => rfl⟩
  intro g
  have g1 : i = es.length ∧ es.length = M.toNat := by have := of_decide_eq_false g; rw [ei] at this; omega
  obtain ⟨rfl, g2⟩ := g1
  obtain ⟨he0, hend⟩ := hfin g2
  rw [← hQc] at hend
  have hE5 := hb es.length (Nat.le_refl _)
  refine Cw.exit ?_
  refine Pw.thenE ?_
  refine Pw.thenE ?_
  refine Pw.blkHit ?_
  refine Pw.thenN (Cw.out ?_)
  refine Cw.seq ?_
  refine Cw.seq ?_
  refine Cw.region ?_
  refine Lw.val (Ex.move rfl) rfl ?_
  refine Lw.val (Ex.move rfl) rfl ?_
  refine Lw.val (Ex.nilCheck rfl) rfl ?_
  refine Lw.val (Ex.fieldAddr (q := 0) Try.underlying72 rfl (sz_33 _) rfl) rfl ?_
  refine Lw.val (Ex.ldB (ag_33 _) rfl (by assumption) rfl) rfl ?_
  refine Lw.val (Ex.lenS st_33 rfl (by assumption)) rfl ?_
  refine Lw.callF rfl rfl (end_c L A (es.take es.length).length _ D (es.take es.length) w5 hLog (Nat.le_refl _)) ?_
  rintro _ w5 ⟨rfl, rfl⟩
  rw [eE]
  refine Lw.val ((Ex.convI us_3 un_43 rfl).as (congrArg (Value.int .u64) (IntWalk.u64_in _ (by omega)))) rfl ?_
  refine Lw.val (Ex.move rfl) rfl ?_
  refine Lw.val ((Ex.convI us_32 un_43 rfl).as (congrArg (Value.int .u64) (IntWalk.u64_in _ (by omega)))) rfl ?_
  refine Lw.val ((Ex.add rfl rfl).as (congrArg (Value.int .u64) (IntWalk.u64_in _ (by omega)))) rfl ?_
  refine Lw.val (Ex.neq rfl rfl) rfl ?_
  refine Lw.nil ?_
  refine Pw.thenN (Cw.out ?_)
  refine Cw.condB rfl false ((by rw [decide_eq_true (show ((endN es es.length : Nat) : Int) = (Q.toNat : Int) + 1 by omega)]; rfl)) ?_
  refine Cw.skip ?_
  refine Pw.thenN (Cw.out ?_)
  refine Cw.seq ?_
  refine Cw.region ?_
  refine Lw.val (Ex.move rfl) rfl ?_
  refine Lw.val (Ex.assign rfl) rfl ?_
  refine Lw.val (Ex.assign rfl) rfl ?_
  refine Lw.nil ?_
  refine Pw.thenN (Cw.out ?_)
  refine Cw.ret ?_
  refine Pw.ret2 rfl rfl rfl ?_
  rw [List.take_length] at hLog
  exact ⟨hB, fun _ => ⟨L, rfl, hLog⟩, fun h => absurd he0 h⟩
end Go.Proofs.Ytiaojbbgjlpikaa
