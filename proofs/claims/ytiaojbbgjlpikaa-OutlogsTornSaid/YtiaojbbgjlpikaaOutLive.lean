/- Contracts: the chapter's log; what may be added. -/
import Derived.Test.YtiaojbbgjlpikaaOutHelp
import Derived.Test.YtiaojbbgjlpikaaDiskRot
namespace Go.Proofs.Ytiaojbbgjlpikaa
open Go Go.Dd Go.RowKit
set_option maxRecDepth 100000

theorem open1_c (A : Nat) (S : Nat → Prop) (l : List By) (ls : List Nums) (w : World) (h : DiskAt w S A ⟨l, l, []⟩) (ho : OnDisk l ls) (h2 : 2 ≤ l.length) :
    Fnc Try.prog 11 [.pointer (some ⟨A, 0, none⟩)] w (fun r w' => Below w.heap.size w w' ∧ ∃ L, r = .tuple #[.pointer (some ⟨L, 0, none⟩), .int .i64 0] ∧ LogIs w' (gro S w w') L A l ls) :=
  (open_c A S ⟨l, l, []⟩ 0 (esOf ls) w h h2 (open_of ho) (ends_bd ho)).mono fun r w' ⟨h1, h3, _⟩ => by
    obtain ⟨L, h4, h5⟩ := h3 rfl
    exact ⟨h1, L, h4, h5, ho⟩
theorem cut1_c (L A : Nat) (S : Nat → Prop) (l : List By) (ls : List Nums) (n : Nat) (w : World) (h : LogIs w S L A l ls) (hn : n ≤ ls.length) :
    Fnc Try.prog 17 [.pointer (some ⟨L, 0, none⟩), .int .i64 (n : Int)] w (fun r w' => r = .int .i64 0 ∧ Chg S w w' ∧ LogIs w' (gro S w w') L A (l.set 0 (cntB (ls.take n).length (stN (ls.take n) - 1))) (ls.take n)) := by
  have ln : (ls.take n).length = n := by rw [List.length_take]; omega
  have hp := stN_pos (ls.take n)
  have hb := stN_bd h.on.okl
  have hl := stN_le (ls := ls) (k := n)
  have few := h.on.few
  have hE : endN ((esOf ls).take n) n = stN (ls.take n) := by rw [endN_take (Nat.le_refl _), endN_es hn]
  refine (cut_c L A S ⟨l, l, []⟩ (esOf ls) n w h.log rfl (by rw [esOf_len]; exact hn) (by rw [esOf_len]; omega) (by rw [hE]; omega)).mono fun r w' ⟨h1, h2, F, hF, h3⟩ => ⟨h1, h2, ?_, cut_of h.on n⟩
  rw [hE] at hF
  rw [esOf_take, hF] at h3
  rw [ln]
  exact h3
theorem fail1_c (A : Nat) (S : Nat → Prop) (l : List By) (keep : BitVec 64) (torn : Int) (w : World) (h : DiskAt w S A ⟨l, l, []⟩) :
    Fnc Try.prog 16 [.pointer (some ⟨A, 0, none⟩), u64 keep, .int .i64 torn] w (fun r w' => Below w.heap.size w w' ∧ ∃ A', r = .tuple #[.pointer (some ⟨A', 0, none⟩), .int .i64 0] ∧ DiskAt w' (fun b => w.heap.size ≤ b ∧ b < w'.heap.size) A' ⟨l, l, []⟩) :=
  fail_c A S ⟨l, l, []⟩ keep torn w h
theorem addNo_c (L A : Nat) (S : Nat → Prop) (l : List By) (ls : List Nums) (ix : BitVec 32) (s v : Value) (x : Nums) (w : World) (h : LogIs w S L A l ls) (hs : SlT (Value.int .i64) w s [(x.length : Int)]) (hv : SlT i32 w v x) (hi : ix ≠ BitVec.ofNat 32 ls.length) :
    Fnc Try.prog 13 [.pointer (some ⟨L, 0, none⟩), .agg [u32 ix, s, v].toArray] w (fun r w' => r = .int .i64 1 ∧ Below w.heap.size w w') := by
  have hb := stN_bd h.on.okl
  have hp := stN_pos ls
  have few := h.on.few
  refine (add_c L A S ⟨l, l, []⟩ (esOf ls) ix ⟨s, v, [(x.length : Int)], x⟩ w h.log rfl ⟨hs, hv⟩ (by rw [endN_all]; omega) (by rw [esOf_len]; omega)).mono fun r w' hr => ?_
  have ei : BitVec.ofInt 32 ((esOf ls).length : Int) = BitVec.ofNat 32 ls.length := by rw [esOf_len]; exact ofInt_ofNat _
  rcases hr with ⟨-, h2, h3⟩ | ⟨-, h2, -⟩ | ⟨-, h2, -⟩
  · exact ⟨h2, h3⟩
  · exact absurd (h2.trans ei) hi
  · exact absurd (h2.trans ei) hi
def fitB (ps : List (Value × Nums)) : Bool := ps.all (fun p => decide (1 ≤ p.2.length ∧ p.2.length ≤ 64)) && decide (6 * ps.length ≤ 300)
theorem fitB_ok {ps : List (Value × Nums)} (h : fitB ps = true) : (∀ p ∈ ps, okN p.2) ∧ ps.length ≤ 50 := by
  simp only [fitB, Bool.and_eq_true, List.all_eq_true, decide_eq_true_eq] at h
  exact ⟨fun p hp => h.1 p hp, by omega⟩
theorem fit_c (v : Value) (ps : List (Value × Nums)) (w : World) (h : LL w v ps) (hm : ps.length ≤ 1125899906842624) : Fnc Try.prog 8 [v] w (fun r w' => r = .bool (fitB ps) ∧ Below w.heap.size w w') := by
  have s_v := h.sl
  refine Fnc.enter (n := 29) Try.func8 (by kernel_rfl) rfl rfl rfl ?_
  refine Cw.seq ?_
  refine Cw.region ?_
  refine Lw.val (Ex.assign rfl) rfl ?_
  refine Lw.nil ?_
  refine Pw.thenN (Cw.out ?_)
  refine Cw.seq ?_
  refine Cw.region ?_
  refine Lw.val (Ex.assign rfl) rfl ?_
  refine Lw.nil ?_
  refine Pw.thenN (Cw.out ?_)
  refine Cw.seq ?_
  refine Cw.seq ?_
  refine Cw.region ?_
  refine Lw.val (Ex.assign rfl) rfl ?_
  refine Lw.nil ?_
  refine Pw.thenN (Cw.out ?_)
  refine Cw.block ?_
  refine Cw.loop (S := Nat) (fun i => [(0, v), (3, .int .i64 ((6 * i : Nat) : Int)), (4, .int .i64 (i : Int))]) (fun i w' => i ≤ ps.length ∧ ((ps.take i).all (fun p => decide (1 ≤ p.2.length ∧ p.2.length ≤ 64)) = true) ∧ w' = w) (fun i => ps.length - i) (0) ⟨rfl, rfl, rfl, trivial⟩ ?_ ?_
  · exact ⟨Nat.zero_le _, rfl, rfl⟩
  rintro i w1 ⟨hi, hall, rfl⟩
  refine Cw.seq ?_
  refine Cw.seq ?_
  refine Cw.region ?_
  refine Lw.val (Ex.move rfl) rfl ?_
  refine Lw.val (Ex.move rfl) rfl ?_
  refine Lw.val (Ex.lenS st_22 rfl (by assumption)) rfl ?_
  refine Lw.val (Ex.lss rfl rfl) rfl ?_
  refine Lw.nil ?_
  refine Pw.thenN (Cw.out ?_)
  refine Cw.cond rfl ?_ ?_
  · intro g
    have hi' : i < ps.length := by have := of_decide_eq_true g; omega
    obtain ⟨p, hp⟩ : ∃ p, p = ps[i] := ⟨_, rfl⟩
    have hpm : p ∈ ps := by rw [hp]; exact List.getElem_mem hi'
    have s_p := h.each p hpm
    have eg : (ps.getD i default).1 = p.1 := by rw [hp, List.getD_eq_getElem?_getD, List.getElem?_eq_getElem hi']; rfl
    refine Cw.skip ?_
    refine Pw.thenN (Cw.out ?_)
    refine Cw.seq ?_
    refine Cw.block ?_
    refine Cw.seq ?_
    refine Cw.seq ?_
    refine Cw.region ?_
    refine Lw.val (Ex.move rfl) rfl ?_
    refine Lw.val (Ex.move rfl) rfl ?_
    refine Lw.val (Ex.idxT st_22 rfl rfl (by assumption) _ rfl (by omega)) rfl ?_
    refine Lw.val (Ex.as (Ex.ldT (ag_34 _) rfl s_v hi') eg) rfl ?_
    refine Lw.val (Ex.lenS st_34 rfl (by assumption)) rfl ?_
    refine Lw.val (Ex.lss rfl rfl) rfl ?_
    refine Lw.val (Ex.move rfl) rfl ?_
    refine Lw.part 17 rfl ?_ ?_
    · intro g1
      have g1 := of_decide_eq_true g1
      refine Lw.pass (dj := 17) rfl rfl rfl rfl ?_
      refine Lw.pass (dj := 17) rfl rfl rfl rfl ?_
      refine Lw.pass (dj := 17) rfl rfl rfl rfl ?_
      refine Lw.pass (dj := 17) rfl rfl rfl rfl ?_
      refine Lw.pass (dj := 17) rfl rfl rfl rfl ?_
      refine Lw.pass (dj := 17) rfl rfl rfl rfl ?_
      refine Lw.val (Ex.pickT rfl rfl) rfl ?_
      refine Lw.nil ?_
      refine Pw.thenN (Cw.out ?_)
      refine Cw.condT rfl ?_
      refine Cw.seq ?_
      refine Cw.region ?_
      refine Lw.val (Ex.assign rfl) rfl ?_
      refine Lw.nil ?_
      refine Pw.thenN (Cw.out ?_)
      refine Cw.ret ?_
      refine Pw.thenR ?_
      refine Pw.blkR ?_
      refine Pw.thenR ?_
      refine Pw.thenR ?_
      refine Pw.blkR ?_
      refine Pw.thenR ?_
      refine Pw.ret1 rfl rfl ?_
      refine ⟨?_, Below.refl _ _⟩
      have : fitB ps = false := by
        cases hf : fitB ps with
        | false => rfl
        | true => have := (fitB_ok hf).1 p hpm; unfold okN at this; omega
      rw [this]
    intro g1
    have g1 := of_decide_eq_false g1
    refine Lw.take (dj := 17) rfl rfl ?_
    refine Lw.val (Ex.move rfl) rfl ?_
    refine Lw.take (dj := 17) rfl rfl ?_
    refine Lw.val (Ex.move rfl) rfl ?_
    refine Lw.take (dj := 17) rfl rfl ?_
    refine Lw.val (Ex.idxT st_22 rfl rfl (by assumption) _ rfl (by omega)) rfl ?_
    refine Lw.take (dj := 17) rfl rfl ?_
    refine Lw.val (Ex.as (Ex.ldT (ag_34 _) rfl s_v hi') eg) rfl ?_
    refine Lw.take (dj := 17) rfl rfl ?_
    refine Lw.val (Ex.lenS st_34 rfl (by assumption)) rfl ?_
    refine Lw.take (dj := 17) rfl rfl ?_
    refine Lw.val (Ex.gtr rfl rfl) rfl ?_
    refine Lw.val (Ex.pickF rfl rfl) rfl ?_
    refine Lw.nil ?_
    refine Pw.thenN (Cw.out ?_)
    refine Cw.cond rfl ?_ ?_
    · intro g2
      have g2 := of_decide_eq_true g2
      refine Cw.seq ?_
      refine Cw.region ?_
      refine Lw.val (Ex.assign rfl) rfl ?_
      refine Lw.nil ?_
      refine Pw.thenN (Cw.out ?_)
      refine Cw.ret ?_
      refine Pw.thenR ?_
      refine Pw.blkR ?_
      refine Pw.thenR ?_
      refine Pw.thenR ?_
      refine Pw.blkR ?_
      refine Pw.thenR ?_
      refine Pw.ret1 rfl rfl ?_
      refine ⟨?_, Below.refl _ _⟩
      have : fitB ps = false := by
        cases hf : fitB ps with
        | false => rfl
        | true => have := (fitB_ok hf).1 p hpm; unfold okN at this; omega
      rw [this]
    intro g2
    have g2 := of_decide_eq_false g2
    refine Cw.skip ?_
    refine Pw.thenN (Cw.out ?_)
    refine Cw.region ?_
    refine Lw.val (Ex.move rfl) rfl ?_
    refine Lw.val (Ex.addI rfl rfl (by omega)) rfl ?_
    refine Lw.val (Ex.assign rfl) rfl ?_
    refine Lw.nil ?_
    refine Pw.blkN ?_
    refine Pw.thenN (Cw.out ?_)
    refine Cw.region ?_
    refine Lw.val (Ex.move rfl) rfl ?_
    refine Lw.val (Ex.addI rfl rfl (by omega)) rfl ?_
    refine Lw.val (Ex.assign rfl) rfl ?_
    refine Lw.nil ?_
    exact Pw.thenN (Pw.next (i + 1) ⟨rfl, (congrArg (fun z => some (Value.int .i64 z)) (by omega)), rfl, trivial⟩ (⟨hi', by rw [List.take_succ_eq_append_getElem hi', List.all_append, hall, Bool.true_and, ← hp]; simp; omega, rfl⟩) (by omega))
  intro g
  have hi' : i = ps.length := by have := of_decide_eq_false g; omega
  subst hi'
  rw [List.take_length] at hall
  refine Cw.exit ?_
  refine Pw.thenE ?_
  refine Pw.thenE ?_
  refine Pw.blkHit ?_
  refine Pw.thenN (Cw.out ?_)
  refine Cw.seq ?_
  refine Cw.region ?_
  refine Lw.val (Ex.move rfl) rfl ?_
  refine Lw.val (Ex.leq rfl rfl) rfl ?_
  refine Lw.val (Ex.assign rfl) rfl ?_
  refine Lw.nil ?_
  refine Pw.thenN (Cw.out ?_)
  refine Cw.ret ?_
  refine Pw.ret1 rfl rfl ?_
  exact ⟨by unfold fitB; rw [hall, Bool.true_and]; congr 1; apply decide_eq_decide.2; omega, Below.refl _ _⟩
/-- All that was made since. -/
def Nw (W w : World) : Nat → Prop := fun b => W.heap.size ≤ b ∧ b < w.heap.size
theorem nw_below {W w w' : World} (h : Chg (Nw W w) w w') (hz : W.heap.size ≤ w.heap.size) : Below W.heap.size w w' := h.to_below (fun _ e => e.1) hz
theorem LogIs.nw {W w w' : World} {L A : Nat} {l : List By} {ls : List Nums} (h : LogIs w' (gro (Nw W w) w w') L A l ls) (hz : W.heap.size ≤ w.heap.size) (hz2 : w.heap.size ≤ w'.heap.size) : LogIs w' (Nw W w') L A l ls :=
  h.wide (fun _ e => e.elim (fun e => ⟨e.1, Nat.lt_of_lt_of_le e.2 hz2⟩) (fun e => ⟨Nat.le_trans hz e.1, e.2⟩)) (fun _ e => e.2)
theorem LogIs.on' {W w w' : World} {L A : Nat} {l : List By} {ls : List Nums} (h : LogIs w (Nw W w) L A l ls) (g : Below w.heap.size w w') : LogIs w' (Nw W w') L A l ls :=
  (h.bs g).wide (fun _ e => ⟨e.1, Nat.lt_of_lt_of_le e.2 g.size⟩) (fun _ e => e.2)
set_option maxHeartbeats 400000 in
theorem lives_c (W : World) : Fnc Try.prog 9 [] W (fun r w' => r = .bool true ∧ Below W.heap.size W w') := by
  have hB := Below.refl W.heap.size W
  refine Fnc.enter (n := 126) Try.func9 (by kernel_rfl) rfl rfl rfl ?_
  refine Cw.seq ?_
  refine Cw.region ?_
  refine Lw.val (Ex.assign rfl) rfl ?_
  refine Lw.nil ?_
  refine Pw.thenN (Cw.out ?_)
  refine Cw.seq ?_
  refine Cw.region ?_
  refine Lw.callF rfl rfl (dnew_c 100 W (by decide) (by decide)) ?_
  rintro _ w1 ⟨hn1, A, rfl, hD⟩
  have z1 := hn1.size
  obtain ⟨l0, hl0⟩ : ∃ l0, l0 = List.replicate 100 zer := ⟨_, rfl⟩
  have ll0 : l0.length = 100 := by rw [hl0, List.length_replicate]
  have on0 : OnDisk l0 [] := by rw [hl0]; exact onDisk_new (by decide)
  rw [← hl0] at hD
  clear hl0
  refine Lw.val (Ex.move rfl) rfl ?_
  refine Lw.val (Ex.extract (i := 0) rfl rfl) rfl ?_
  refine Lw.val (Ex.extract (i := 1) rfl rfl) rfl ?_
  refine Lw.val (Ex.assign rfl) rfl ?_
  refine Lw.val (Ex.assign rfl) rfl ?_
  refine Lw.nil ?_
  refine Pw.thenN (Cw.out ?_)
  refine Cw.seq ?_
  refine Cw.region ?_
  refine Lw.val (Ex.move rfl) rfl ?_
  refine Lw.callF rfl rfl (open1_c A _ l0 [] w1 hD on0 (by omega)) ?_
  rintro _ w2 ⟨hn2, L, rfl, hL⟩
  have hB2 := hn1.trans (hn2.mono z1)
  have z2 := hn2.size
  have hL := hL.wide (T := Nw W w2) (fun b e => e.elim (fun e => ⟨e.1, by omega⟩) (fun e => ⟨by omega, e.2⟩)) (fun b e => e.2)
  refine Lw.val (Ex.move rfl) rfl ?_
  refine Lw.val (Ex.extract (i := 0) rfl rfl) rfl ?_
  refine Lw.val (Ex.extract (i := 1) rfl rfl) rfl ?_
  refine Lw.val (Ex.assign rfl) rfl ?_
  refine Lw.val (Ex.assign rfl) rfl ?_
  refine Lw.nil ?_
  refine Pw.thenN (Cw.out ?_)
  refine Cw.seq ?_
  refine Cw.seq ?_
  refine Cw.region ?_
  refine Lw.val (Ex.move rfl) rfl ?_
  refine Lw.val (Ex.neq rfl rfl) rfl ?_
  refine Lw.val (Ex.move rfl) rfl ?_
  refine Lw.know 27 (v' := .bool false) rfl (congrArg Value.bool (rfl)) ?_
  refine Lw.take (dj := 27) rfl rfl ?_
  refine Lw.val (Ex.move rfl) rfl ?_
  refine Lw.take (dj := 27) rfl rfl ?_
  refine Lw.val (Ex.neq rfl rfl) rfl ?_
  refine Lw.val (Ex.pickF rfl rfl) rfl ?_
  refine Lw.nil ?_
  refine Pw.thenN (Cw.out ?_)
  refine Cw.condB rfl false (rfl) ?_
  refine Cw.skip ?_
  refine Pw.thenN (Cw.out ?_)
  refine Cw.seq ?_
  refine Cw.region ?_
  refine Lw.val (Ex.move rfl) rfl ?_
  refine Lw.valW (Xw.lit (vs := ([4#32, BitVec.ofInt 32 (-5)] : Nums).map i32) st_34 it_21 rfl (by kernel_rfl) rfl rfl rfl) rfl ?_
  rintro v w ⟨o_v, -, hn, -⟩
  have z1 := below_size hB2
  have hL := hL.on' hn
  have hB2 := hB2.trans (hn.mono z1)
  refine Lw.callF rfl rfl (small_c v [4#32, BitVec.ofInt 32 (-5)] w (own_slT o_v)) ?_
  rintro _ w' ⟨hn', s, rfl, s_s, -⟩
  have z1 := below_size hB2
  have hL := hL.on' hn'
  have s_v := (own_slT o_v).bs hn'
  have hB2 := hB2.trans (hn'.mono z1)
  have z1 := below_size hB2
  refine Lw.val (Ex.build (vs := [(0, u32 0#32), (1, .agg [s, v].toArray)]) (cs := [u32 0#32, s, v]) rfl (bt_rec _ _ _)) rfl ?_
  refine Lw.callF rfl rfl (add1_c L A (Nw W w') l0 [] s v [4#32, BitVec.ofInt 32 (-5)] w' hL s_s s_v (by unfold okN; decide) (by decide)) ?_
  rintro _ w3 hr
  have hr := hr.resolve_left (fun h => by have h1 := h.1; rw [ll0] at h1; simp [stN, nR] at h1)
  obtain ⟨-, rfl, hC3, hL⟩ := hr
  have z3 := hC3.size
  have hL := hL.nw z1 z3
  have hB2 := hB2.trans (nw_below hC3 z1)
  obtain ⟨l1, hl1⟩ : ∃ l1, l1 = addL l0 [] [4#32, BitVec.ofInt 32 (-5)] := ⟨_, rfl⟩
  have ll1 : l1.length = 100 := by rw [hl1, addL_len, ll0]
  rw [← hl1, List.nil_append] at hL
  clear hl1
  refine Lw.val (Ex.assign rfl) rfl ?_
  refine Lw.nil ?_
  refine Pw.thenN (Cw.out ?_)
  refine Cw.seq ?_
  refine Cw.region ?_
  refine Lw.val (Ex.move rfl) rfl ?_
  refine Lw.valW (Xw.lit (vs := ([4#32] : Nums).map i32) st_34 it_21 rfl (by kernel_rfl) rfl rfl rfl) rfl ?_
  rintro v w ⟨o_v, -, hn, -⟩
  have z1 := below_size hB2
  have hL := hL.on' hn
  have hB2 := hB2.trans (hn.mono z1)
  refine Lw.callF rfl rfl (small_c v [4#32] w (own_slT o_v)) ?_
  rintro _ w' ⟨hn', s, rfl, s_s, -⟩
  have z1 := below_size hB2
  have hL := hL.on' hn'
  have s_v := (own_slT o_v).bs hn'
  have hB2 := hB2.trans (hn'.mono z1)
  have z1 := below_size hB2
  refine Lw.val (Ex.build (vs := [(0, u32 0#32), (1, .agg [s, v].toArray)]) (cs := [u32 0#32, s, v]) rfl (bt_rec _ _ _)) rfl ?_
  refine Lw.callF rfl rfl (addNo_c L A (Nw W w') l1 _ 0#32 s v [4#32] w' hL s_s s_v (by decide)) ?_
  rintro _ w4 ⟨rfl, hn4⟩
  have hL := hL.on' hn4
  have hB2 := hB2.trans (hn4.mono z1)
  refine Lw.val (Ex.assign rfl) rfl ?_
  refine Lw.nil ?_
  refine Pw.thenN (Cw.out ?_)
  refine Cw.seq ?_
  refine Cw.region ?_
  refine Lw.val (Ex.move rfl) rfl ?_
  refine Lw.valW (Xw.lit (vs := ([4#32] : Nums).map i32) st_34 it_21 rfl (by kernel_rfl) rfl rfl rfl) rfl ?_
  rintro v w ⟨o_v, -, hn, -⟩
  have z1 := below_size hB2
  have hL := hL.on' hn
  have hB2 := hB2.trans (hn.mono z1)
  refine Lw.callF rfl rfl (small_c v [4#32] w (own_slT o_v)) ?_
  rintro _ w' ⟨hn', s, rfl, s_s, -⟩
  have z1 := below_size hB2
  have hL := hL.on' hn'
  have s_v := (own_slT o_v).bs hn'
  have hB2 := hB2.trans (hn'.mono z1)
  have z1 := below_size hB2
  refine Lw.val (Ex.build (vs := [(0, u32 1#32), (1, .agg [s, v].toArray)]) (cs := [u32 1#32, s, v]) rfl (bt_rec _ _ _)) rfl ?_
  have hadd := add1_c L A (Nw W w') l1 [[4#32, BitVec.ofInt 32 (-5)]] s v [4#32] w' hL s_s s_v (by unfold okN; decide) (by decide)
  rw [show BitVec.ofNat 32 [[4#32, BitVec.ofInt 32 (-5)]].length = 1#32 from rfl] at hadd
  refine Lw.callF rfl rfl (hadd) ?_
  rintro _ w5 hr
  have hr := hr.resolve_left (fun h => by have h1 := h.1; rw [ll1] at h1; simp [stN, nR] at h1)
  obtain ⟨-, rfl, hC5, hL⟩ := hr
  have z5 := hC5.size
  have hL := hL.nw z1 z5
  have hB2 := hB2.trans (nw_below hC5 z1)
  obtain ⟨l2, hl2⟩ : ∃ l2, l2 = addL l1 [[4#32, BitVec.ofInt 32 (-5)]] [4#32] := ⟨_, rfl⟩
  have ll2 : l2.length = 100 := by rw [hl2, addL_len, ll1]
  rw [← hl2] at hL
  clear hl2
  have z1 := below_size hB2
  refine Lw.val (Ex.assign rfl) rfl ?_
  refine Lw.nil ?_
  refine Pw.thenN (Cw.out ?_)
  refine Cw.seq ?_
  refine Cw.region ?_
  refine Lw.val (Ex.move rfl) rfl ?_
  refine Lw.callF rfl rfl (olen_c L A _ _ _ w5 hL.log) ?_
  rintro _ w5 ⟨rfl, rfl⟩
  refine Lw.val (Ex.assign rfl) rfl ?_
  refine Lw.nil ?_
  refine Pw.thenN (Cw.out ?_)
  refine Cw.seq ?_
  refine Cw.region ?_
  refine Lw.val (Ex.move rfl) rfl ?_
  refine Lw.callF rfl rfl (cut1_c L A (Nw W w5) l2 _ 1 w5 hL (by decide)) ?_
  rintro _ w6 ⟨rfl, hC6, hL⟩
  have z6 := hC6.size
  have hL := hL.nw z1 z6
  have hB2 := hB2.trans (nw_below hC6 z1)
  have z1 := below_size hB2
  obtain ⟨ls, hls⟩ : ∃ ls : List Nums, ls = [[4#32, BitVec.ofInt 32 (-5)]] := ⟨_, rfl⟩
  have lls : ls.length = 1 := by rw [hls]; rfl
  have els : List.take 1 [[4#32, BitVec.ofInt 32 (-5)], [4#32]] = ls := by rw [hls]; rfl
  have e0 : ([[4#32, BitVec.ofInt 32 (-5)]] ++ [[4#32]] : List Nums) = [[4#32, BitVec.ofInt 32 (-5)], [4#32]] := rfl
  rw [e0, els] at hL
  obtain ⟨l3, hl3⟩ : ∃ l3, l3 = l2.set 0 (cntB ls.length (stN ls - 1)) := ⟨_, rfl⟩
  rw [← hl3] at hL
  clear hl3
  have hrd := rd_of hL.on (show 0 < ls.length by omega)
  have x0 : ls[0]'(by omega) = [4#32, BitVec.ofInt 32 (-5)] := by simp [hls]
  rw [x0] at hrd
  have hrd' : ∀ k, k < (esOf ls).length → ∃ nx, RdOk l3 (endN (esOf ls) k) (([(BitVec.ofNat 32 0, [(2 : Int)], [4#32, BitVec.ofInt 32 (-5)])] : List (BitVec 32 × List Int × List (BitVec 32))).getD k default).1 (([(BitVec.ofNat 32 0, [(2 : Int)], [4#32, BitVec.ofInt 32 (-5)])] : List (BitVec 32 × List Int × List (BitVec 32))).getD k default).2.1 (([(BitVec.ofNat 32 0, [(2 : Int)], [4#32, BitVec.ofInt 32 (-5)])] : List (BitVec 32 × List Int × List (BitVec 32))).getD k default).2.2 nx := fun k hk => by
    rw [esOf_len, lls] at hk
    obtain rfl : k = 0 := by omega
    exact ⟨_, hrd⟩
  refine Lw.val (Ex.assign rfl) rfl ?_
  refine Lw.nil ?_
  refine Pw.thenN (Cw.out ?_)
  refine Cw.seq ?_
  refine Cw.region ?_
  refine Lw.val (Ex.move rfl) rfl ?_
  refine Lw.callF rfl rfl (records_c L A _ _ (esOf ls) [(BitVec.ofNat 32 0, [2], [4#32, BitVec.ofInt 32 (-5)])] w6 hL.log (by rw [esOf_len, lls]; rfl) (by rw [esOf_len, lls]; decide) (ends_bd hL.on) hrd') ?_
  rintro _ w7 ⟨hn7, r, qs, rfl, s_r, hat, hqs⟩
  have hL := hL.on' hn7
  have hB2 := hB2.trans (hn7.mono z1)
  have z1 := below_size hB2
  have lq : qs.length = 1 := by have := congrArg List.length hqs; simpa using this
  obtain ⟨q, rfl⟩ : ∃ q, qs = [q] := by
    cases qs with
    | nil => cases lq
    | cons q qs => cases qs with
      | nil => exact ⟨q, rfl⟩
      | cons _ _ => simp at lq
  have hq : recV q = (BitVec.ofNat 32 0, [2], [4#32, BitVec.ofInt 32 (-5)]) := by simpa using hqs
  have q3 : q.2.l = [4#32, BitVec.ofInt 32 (-5)] := congrArg (·.2.2) hq
  have aq := (hat q (by simp)).2
  have c2 : (flw recC [q])[2]? = some q.2.y := rfl
  rw [q3] at aq
  refine Lw.val (Ex.move rfl) rfl ?_
  refine Lw.val (Ex.extract (i := 0) rfl rfl) rfl ?_
  refine Lw.val (Ex.extract (i := 1) rfl rfl) rfl ?_
  refine Lw.val (Ex.assign rfl) rfl ?_
  refine Lw.val (Ex.assign rfl) rfl ?_
  refine Lw.nil ?_
  refine Pw.thenN (Cw.out ?_)
  refine Cw.seq ?_
  refine Cw.region ?_
  refine Lw.val (Ex.move rfl) rfl ?_
  refine Lw.callF rfl rfl (cutNo_c L A _ _ (esOf ls) 2 w7 hL.log (by rw [esOf_len, lls]; decide)) ?_
  rintro _ w7 ⟨rfl, rfl⟩
  refine Lw.val (Ex.assign rfl) rfl ?_
  refine Lw.nil ?_
  refine Pw.thenN (Cw.out ?_)
  refine Cw.seq ?_
  refine Cw.region ?_
  refine Lw.val (Ex.assign rfl) rfl ?_
  refine Lw.nil ?_
  refine Pw.thenN (Cw.out ?_)
  refine Cw.seq ?_
  refine Cw.region ?_
  refine Lw.callF rfl rfl (openNil_c w7) ?_
  rintro _ w7 ⟨rfl, rfl⟩
  have ad : ∃ ad c k, r = .slice (some ad) c k := by
    obtain ⟨_, ao, cap, e, d1, d2, d3, _⟩ := s_r
    cases ao with
    | none => have := d3 rfl; simp at d1; omega
    | some ad => exact ⟨ad, _, _, e⟩
  refine Lw.val (Ex.move rfl) rfl ?_
  refine Lw.val (Ex.extract (i := 0) rfl rfl) rfl ?_
  refine Lw.val (Ex.extract (i := 1) rfl rfl) rfl ?_
  refine Lw.val (Ex.assign rfl) rfl ?_
  refine Lw.val (Ex.assign rfl) rfl ?_
  refine Lw.nil ?_
  refine Pw.thenN (Cw.out ?_)
  refine Cw.seq ?_
  refine Cw.region ?_
  refine Lw.val (Ex.move rfl) rfl ?_
  refine Lw.val (Ex.eql rfl rfl) rfl ?_
  refine Lw.val (Ex.move rfl) rfl ?_
  refine Lw.know 63 (v' := .bool true) rfl (congrArg Value.bool (rfl)) ?_
  refine Lw.take (dj := 63) rfl rfl ?_
  refine Lw.val (Ex.move rfl) rfl ?_
  refine Lw.take (dj := 63) rfl rfl ?_
  refine Lw.val (Ex.eql rfl rfl) rfl ?_
  refine Lw.val (Ex.pickT rfl rfl) rfl ?_
  refine Lw.val (Ex.move rfl) rfl ?_
  refine Lw.know 67 (v' := .bool true) rfl (congrArg Value.bool (rfl)) ?_
  refine Lw.take (dj := 67) rfl rfl ?_
  refine Lw.val (Ex.move rfl) rfl ?_
  refine Lw.take (dj := 67) rfl rfl ?_
  refine Lw.val (Ex.eql rfl rfl) rfl ?_
  refine Lw.val (Ex.pickT rfl rfl) rfl ?_
  refine Lw.val (Ex.move rfl) rfl ?_
  refine Lw.know 71 (v' := .bool true) rfl (congrArg Value.bool (rfl)) ?_
  refine Lw.take (dj := 71) rfl rfl ?_
  refine Lw.val (Ex.move rfl) rfl ?_
  refine Lw.take (dj := 71) rfl rfl ?_
  refine Lw.val (Ex.eql rfl rfl) rfl ?_
  refine Lw.val (Ex.pickT rfl rfl) rfl ?_
  refine Lw.val (Ex.move rfl) rfl ?_
  refine Lw.know 75 (v' := .bool true) rfl (congrArg Value.bool (rfl)) ?_
  refine Lw.take (dj := 75) rfl rfl ?_
  refine Lw.val (Ex.move rfl) rfl ?_
  refine Lw.take (dj := 75) rfl rfl ?_
  refine Lw.val (Ex.eql rfl rfl) rfl ?_
  refine Lw.val (Ex.pickT rfl rfl) rfl ?_
  refine Lw.val (Ex.move rfl) rfl ?_
  refine Lw.know 79 (v' := .bool true) rfl (congrArg Value.bool (rfl)) ?_
  refine Lw.take (dj := 79) rfl rfl ?_
  refine Lw.val (Ex.move rfl) rfl ?_
  refine Lw.take (dj := 79) rfl rfl ?_
  refine Lw.callF rfl rfl (olen_c L A _ _ _ w7 hL.log) ?_
  rintro _ w7 ⟨rfl, rfl⟩
  rw [esOf_len, lls]
  refine Lw.take (dj := 79) rfl rfl ?_
  refine Lw.val (Ex.eql rfl rfl) rfl ?_
  refine Lw.val (Ex.pickT rfl rfl) rfl ?_
  refine Lw.val (Ex.move rfl) rfl ?_
  refine Lw.know 84 (v' := .bool true) rfl (congrArg Value.bool (rfl)) ?_
  refine Lw.take (dj := 84) rfl rfl ?_
  refine Lw.val (Ex.move rfl) rfl ?_
  refine Lw.take (dj := 84) rfl rfl ?_
  refine Lw.val (Ex.eql rfl rfl) rfl ?_
  refine Lw.val (Ex.pickT rfl rfl) rfl ?_
  refine Lw.val (Ex.move rfl) rfl ?_
  refine Lw.know 88 (v' := .bool true) rfl (congrArg Value.bool (rfl)) ?_
  refine Lw.take (dj := 88) rfl rfl ?_
  refine Lw.val (Ex.move rfl) rfl ?_
  refine Lw.take (dj := 88) rfl rfl ?_
  refine Lw.val (Ex.lenS st_66 rfl (by assumption)) rfl ?_
  refine Lw.take (dj := 88) rfl rfl ?_
  refine Lw.val (Ex.eql rfl rfl) rfl ?_
  refine Lw.val (Ex.pickT rfl rfl) rfl ?_
  refine Lw.val (Ex.move rfl) rfl ?_
  refine Lw.know 93 (v' := .bool true) rfl (congrArg Value.bool (rfl)) ?_
  refine Lw.take (dj := 93) rfl rfl ?_
  refine Lw.val (Ex.move rfl) rfl ?_
  refine Lw.take (dj := 93) rfl rfl ?_
  refine Lw.val (Ex.idx st_66 rfl rfl s_r 0 rfl Nat.zero_lt_one) rfl ?_
  refine Lw.take (dj := 93) rfl rfl ?_
  refine Lw.val (Ex.fieldAddrE (q := 1) Try.underlying39 rfl (sz_36 _) rfl ad) rfl ?_
  refine Lw.take (dj := 93) rfl rfl ?_
  refine Lw.val (Ex.fieldAddrE (q := 0) Try.underlying36 rfl (sz_34 _) rfl ad) rfl ?_
  refine Lw.take (dj := 93) rfl rfl ?_
  refine Lw.val (Ex.ld (ag_34 _) rfl s_r c2) rfl ?_
  refine Lw.take (dj := 93) rfl rfl ?_
  refine Lw.val (Ex.lenS st_34 rfl (by assumption)) rfl ?_
  refine Lw.take (dj := 93) rfl rfl ?_
  refine Lw.val (Ex.eql rfl rfl) rfl ?_
  refine Lw.val (Ex.pickT rfl rfl) rfl ?_
  refine Lw.val (Ex.move rfl) rfl ?_
  refine Lw.know 102 (v' := .bool true) rfl (congrArg Value.bool (rfl)) ?_
  refine Lw.take (dj := 102) rfl rfl ?_
  refine Lw.val (Ex.move rfl) rfl ?_
  refine Lw.take (dj := 102) rfl rfl ?_
  refine Lw.val (Ex.idx st_66 rfl rfl s_r 0 rfl Nat.zero_lt_one) rfl ?_
  refine Lw.take (dj := 102) rfl rfl ?_
  refine Lw.val (Ex.fieldAddrE (q := 1) Try.underlying39 rfl (sz_36 _) rfl ad) rfl ?_
  refine Lw.take (dj := 102) rfl rfl ?_
  refine Lw.val (Ex.fieldAddrE (q := 0) Try.underlying36 rfl (sz_34 _) rfl ad) rfl ?_
  refine Lw.take (dj := 102) rfl rfl ?_
  refine Lw.val (Ex.ld (ag_34 _) rfl s_r c2) rfl ?_
  refine Lw.take (dj := 102) rfl rfl ?_
  refine Lw.val (Ex.idxT st_34 rfl rfl aq 1 rfl (by decide)) rfl ?_
  refine Lw.take (dj := 102) rfl rfl ?_
  refine Lw.val (Ex.ldT (ag_21 _) rfl aq (by decide)) rfl ?_
  refine Lw.take (dj := 102) rfl rfl ?_
  refine Lw.val (Ex.eqli32 rfl (show _ = some (i32 (BitVec.ofInt 32 (-5))) from rfl)) rfl ?_
  refine Lw.val (Ex.pickT rfl rfl) rfl ?_
  refine Lw.val (Ex.move rfl) rfl ?_
  refine Lw.know 112 (v' := .bool true) rfl (congrArg Value.bool (rfl)) ?_
  refine Lw.take (dj := 112) rfl rfl ?_
  refine Lw.val (Ex.move rfl) rfl ?_
  refine Lw.take (dj := 112) rfl rfl ?_
  refine Lw.val (Ex.eql rfl rfl) rfl ?_
  refine Lw.val (Ex.pickT rfl rfl) rfl ?_
  refine Lw.val (Ex.move rfl) rfl ?_
  refine Lw.know 116 (v' := .bool true) rfl (congrArg Value.bool (rfl)) ?_
  refine Lw.take (dj := 116) rfl rfl ?_
  refine Lw.val (Ex.move rfl) rfl ?_
  refine Lw.take (dj := 116) rfl rfl ?_
  refine Lw.val (Ex.build (vs := []) (cs := [.int .u32 0, .slice none 0 0, .slice none 0 0]) rfl (by kernel_rfl)) rfl ?_
  refine Lw.take (dj := 116) rfl rfl ?_
  refine Lw.callF rfl rfl (addNil_c 0#32 (.slice none 0 0) (.slice none 0 0) w7) ?_
  rintro _ w8 ⟨rfl, hn8⟩
  have hB2 := hB2.trans (hn8.mono z1)
  refine Lw.take (dj := 116) rfl rfl ?_
  refine Lw.val (Ex.eql rfl rfl) rfl ?_
  refine Lw.val (Ex.pickT rfl rfl) rfl ?_
  refine Lw.val (Ex.move rfl) rfl ?_
  refine Lw.know 122 (v' := .bool true) rfl (congrArg Value.bool (rfl)) ?_
  refine Lw.take (dj := 122) rfl rfl ?_
  refine Lw.val (Ex.move rfl) rfl ?_
  refine Lw.take (dj := 122) rfl rfl ?_
  refine Lw.val (Ex.eql rfl rfl) rfl ?_
  refine Lw.val (Ex.pickT rfl rfl) rfl ?_
  refine Lw.val (Ex.assign rfl) rfl ?_
  refine Lw.nil ?_
  refine Pw.thenN (Cw.out ?_)
  refine Cw.ret ?_
  refine Pw.ret1 rfl rfl ?_
  exact ⟨rfl, hB2⟩
end Go.Proofs.Ytiaojbbgjlpikaa
