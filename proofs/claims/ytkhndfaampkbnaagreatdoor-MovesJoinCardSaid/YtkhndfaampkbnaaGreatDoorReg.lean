/- The step layer, part 4: regions that draw their order; append. Nothing here names a program. -/
import Derived.Test.YtkhndfaampkbnaaGreatDoorMem
import Derived.StillTail
namespace Go.Dd
open Go Go.RowKit

/-! ### A head whose operations are quiet in a class of worlds, in any order; a tail in a forced order -/
section
variable {P : Program} {ops : Array Oper} {md : Region.Mode} {C : World → Prop}

def wpAnyLC (P : Program) (md : Region.Mode) (ops : Array Oper) (C : World → Prop) (n : Nat) (L : Array Bool → Act → Prop) : Nat → Array Bool → Act → Prop
  | 0, listed, a => L listed a
  | f + 1, listed, a =>
    Region.ready md ops listed ≠ [] ∧ ∀ i ∈ Region.ready md ops listed, i < n ∧ qOp P ops C i (wpAnyLC P md ops C n L f (listed.setIfInBounds i true)) a

theorem wpAny_of_headC {n g : Nat} {L : Array Bool → Act → Prop} {Q' : Exit → Act → World → Prop} (hL : ∀ listed a w, C w → L listed a → wpAny P md ops Q' g listed a w) :
    ∀ (f : Nat) (listed : Array Bool) (a : Act) (w : World), C w → wpAnyLC P md ops C n L f listed a → wpAny P md ops Q' (f + g) listed a w
  | 0, listed, a, w, hw, h => by rw [Nat.zero_add]; exact hL _ _ _ hw h
  | f + 1, listed, a, w, hw, h => by
    rw [show f + 1 + g = (f + g) + 1 by omega]
    exact ⟨fun h0 => absurd h0 h.1, fun i hi => wpOp_of_qOp hw (fun a' w' hw' h' => wpAny_of_headC hL f _ a' w' hw' h') (h.2 i hi).2⟩

theorem wpAnyLC_first {n i : Nat} {oi : Oper} {v : Value} {L : Array Bool → Act → Prop} (hi : ops[i]? = some oi) (hsel : ∀ (j : Nat) (o : Oper) cs b, ops[j]? = some o → o.op ≠ .select cs b)
    (hs : Region.sinkB md ops n = true) (hc : Region.chainB md ops n = true) (hn : n < ops.size) (hin : i < n)
    (hdone : ∀ listed a, L listed a → ∀ j ∈ Region.ready md ops listed, n ≤ j) :
    ∀ (f : Nat) (listed : Array Bool) (a : Act), HeadInv md ops n listed →
      (∀ j oj, ops[j]? = some oj → j ≠ i → listed.getD j true = false → (∀ e ∈ oj.after, Region.binds md e = true → e.on ≠ i) → oi.apart ops oj = true) →
      i ∈ Region.ready md ops listed → YieldsIn P ops C oi v a →
      wpAnyLC P md ops C n L f (listed.setIfInBounds i true) (a.put oi.dst v) → wpAnyLC P md ops C n L (f + 1) listed a := by
  intro f
  induction f with
  | zero =>
    intro listed a inv _ hr hy H
    have hun := (mem_ready.1 hr).1
    refine ⟨fun h => (by rw [h] at hr; cases hr), fun j hj => ?_⟩
    have hjn : j < n := by
      rcases Nat.lt_or_ge j n with h | h
      · exact h
      · exact absurd hj (tail_waits hs hc hn inv _ i rfl hin hun j h)
    refine ⟨hjn, ?_⟩
    by_cases hji : j = i
    · subst hji; exact hy.qOp hi H
    · have := hdone _ _ H j (ready_mono hj hji)
      omega
  | succ f ih =>
    intro listed a inv hfree hr hy H
    have hun := (mem_ready.1 hr).1
    refine ⟨fun h => (by rw [h] at hr; cases hr), fun j hj => ?_⟩
    have hjn : j < n := by
      rcases Nat.lt_or_ge j n with h | h
      · exact h
      · exact absurd hj (tail_waits hs hc hn inv _ i rfl hin hun j h)
    refine ⟨hjn, ?_⟩
    by_cases hji : j = i
    · subst hji; exact hy.qOp hi H
    · have h1 := (H.2 j (ready_mono hj hji)).2
      obtain ⟨hjun, oj, hoj, hall⟩ := mem_ready.1 hj
      have hnot : ∀ e ∈ oj.after, Region.binds md e = true → e.on ≠ i := fun e he hb heq => by
        have h1 := hall e he hb
        rw [heq, getD_both hun] at h1
        cases h1
      have h2 := qOp_put hoj (hfree j oj hoj hji hjun hnot) (fun cs b => hsel i oi cs b hi) (fun cs b => hsel j oj cs b hoj) hy h1
      have hfree' : ∀ k ok, ops[k]? = some ok → k ≠ i → (listed.setIfInBounds j true).getD k true = false →
          (∀ e ∈ ok.after, Region.binds md e = true → e.on ≠ i) → oi.apart ops ok = true := fun k ok hk hki hun hno => by
        refine hfree k ok hk hki ?_ hno
        by_cases hjk : j = k
        · subst hjk; exact hjun
        · rw [getD_set_ne true hjk] at hun; exact hun
      refine qOp_mono (fun a' h3 => ih (listed.setIfInBounds j true) a' (inv.set hj hjn) hfree' (ready_mono hr (Ne.symm hji)) h3.1 ?_) h2
      rw [Array.setIfInBounds_comm _ _ hji]
      exact h3.2

theorem wpAnyLC_lex {n g : Nat} {Lq : Act → Prop} (hsel : Region.noSelect ops = true) (hs : Region.sinkB md ops n = true) (hc : Region.chainB md ops n = true) (hn : n < ops.size) :
    ∀ (l : List Oper) (k : Nat) (listed : Array Bool) (a : Act), (∀ j, j < l.length → l[j]? = ops[k + j]?) → k + l.length = n → HeadInv md ops n listed →
    Region.lexHead md ops g l.length k listed = true → wpQuiet P ops C Lq l a →
    wpAnyLC P md ops C n (fun listed' a' => Region.seqB md ops g n listed' = true ∧ Lq a') l.length listed a
  | [], k, listed, a, _, hk, _, hB, h => by
    have : k = n := by simpa using hk
    subst this
    exact ⟨by simpa [Region.lexHead] using hB, h⟩
  | o :: l, k, listed, a, hl, hk, inv, hB, h => by
    have h0 : ops[k]? = some o := by simpa using (hl 0 (by simp)).symm
    simp only [List.length_cons, Region.lexHead, Bool.and_eq_true] at hB
    obtain ⟨⟨hr, hf⟩, hB'⟩ := hB
    have hkn : k < n := by simp only [List.length_cons] at hk; omega
    have hr' : k ∈ Region.ready md ops listed := by simpa using hr
    have hst : qOp P ops C k (wpQuiet P ops C Lq l) a := by unfold qOp; simp only [h0]; exact h
    obtain ⟨v, hy, hK⟩ := yieldsIn_of_qOp h0 hst
    exact wpAnyLC_first h0 (Region.noSelect_spec hsel) hs hc hn hkn (fun listed' a' hL => seqB_ready hL.1) l.length listed a inv (Region.free_spec h0 hf) hr' hy
      (wpAnyLC_lex hsel hs hc hn l (k + 1) _ _ (fun j hj => by have := hl (j + 1) (by simp; omega); simpa [Nat.add_assoc, Nat.add_comm 1 j] using this) (by simp only [List.length_cons] at hk; omega) (inv.set hr' hkn) hB' hK)

theorem wp_region_quiet_tail {id : Nat} {Q : Exit → Act → World → Prop} {a : Act} {w : World} {l : List Oper} (n : Nat) (hm : P.follows .mixedOrders = true) (hB : Region.lexTailB .any l.toArray n = true) (hC : C { w with drawn := w.drawn + 1 })
    (h : wpQuiet P l.toArray C (fun a' => ∀ w', C w' → wpList P l.toArray Q (l.drop n) a' w') (l.take n) a) : (Code.region id l.toArray true).wp P Q a w := by
  simp only [Region.lexTailB, Bool.and_eq_true, decide_eq_true_eq] at hB
  obtain ⟨⟨⟨⟨hsel, hn⟩, hs⟩, hc⟩, hlex⟩ := hB
  have hn' : n < l.length := by simpa using hn
  have htl : (l.take n).length = n := by simp; omega
  have hdl : (l.drop n).length = l.toArray.size - n := by simp
  have inv0 : HeadInv .any l.toArray n (Array.replicate l.toArray.size false) :=
    ⟨by simp, fun j oj _ hl => (by rw [getD_replicate_false] at hl; cases hl), fun t _ ht => getD_in (by simpa using ht) (getD_replicate_false _ _)⟩
  have H := wpAnyLC_lex (P := P) (C := C) (md := .any) (g := l.toArray.size - n) hsel hs hc hn (l.take n) 0 _ a (fun j hj => by
    have hj' : j < n := by rw [htl] at hj; exact hj
    simp [hj']) (by simpa using htl) inv0 (by rw [htl]; exact hlex) h
  refine wp_region_any hm ?_
  have := wpAny_of_headC (Q' := Q) (g := l.toArray.size - n) (fun listed a' w' hw' hL => by
    have := wpAny_of_seq (md := .any) (Q' := Q) (l.drop n) n listed a' w' (fun j => by simp [List.getElem?_drop]) (by rw [hdl]; exact hL.1) (hL.2 w' hw')
    rwa [hdl] at this) _ _ _ _ hC H
  rw [htl, show n + (l.toArray.size - n) = l.toArray.size by omega] at this
  exact this
end

/-! ### The same from a state in which some operations have come up already -/
section
variable {P : Program} {ops : Array Oper} {md : Region.Mode} {C : World → Prop}

def sinkF (md : Region.Mode) (ops : Array Oper) (n : Nat) (L0 : Array Bool) : Bool :=
  (List.range n).all fun i => L0.getD i false || (List.range (n + 1)).any fun j => decide (i < j) && Region.waitsFor md ops j i
def closedF (md : Region.Mode) (ops : Array Oper) (L0 : Array Bool) : Bool :=
  (List.range ops.size).all fun j => !L0.getD j false || (match ops[j]? with
    | some oj => oj.after.all fun e => !Region.binds md e || L0.getD e.on false
    | none => true)
def lateF (ops : Array Oper) (n : Nat) (L0 : Array Bool) : Bool := (List.range ops.size).all fun t => decide (t < n) || !L0.getD t true
def headF (md : Region.Mode) (ops : Array Oper) (n g : Nat) : List Nat → Array Bool → Bool
  | [], listed => Region.seqB md ops g n listed
  | i :: rest, listed => decide (i < n) && (Region.ready md ops listed).contains i && Region.free md ops listed i && headF md ops n g rest (listed.setIfInBounds i true)
def tailF (md : Region.Mode) (ops : Array Oper) (n : Nat) (idx : List Nat) (L0 : Array Bool) : Bool :=
  Region.noSelect ops && decide (n < ops.size) && decide (L0.size = ops.size) && sinkF md ops n L0 && Region.chainB md ops n && closedF md ops L0 && lateF ops n L0 && headF md ops n (ops.size - n) idx L0

theorem tail_waitsF {n : Nat} {L0 listed : Array Bool} (hs : sinkF md ops n L0 = true) (hc : Region.chainB md ops n = true) (hn : n < ops.size) (inv : HeadInv md ops n listed) (hsub : ∀ i, L0.getD i false = true → listed.getD i false = true) :
    ∀ (d i : Nat), n - i = d → i < n → listed.getD i true = false → ∀ t, n ≤ t → t ∉ Region.ready md ops listed := by
  intro d
  induction d using Nat.strongRecOn with
  | _ d ih =>
    intro i hd hi hun t ht hr
    obtain ⟨_, ot, hot, hall⟩ := mem_ready.1 hr
    have htlt : t < ops.size := (Array.getElem?_eq_some_iff.1 hot).1
    by_cases htn : t = n
    · subst htn
      have h1 := List.all_eq_true.1 hs i (List.mem_range.2 hi)
      simp only [Bool.or_eq_true] at h1
      rcases h1 with h1 | h1
      · have := hsub i h1
        rw [getD_both hun] at this
        cases this
      obtain ⟨j, hj, hj2⟩ := List.any_eq_true.1 h1
      simp only [Bool.and_eq_true, decide_eq_true_eq] at hj2
      obtain ⟨oj, hoj, e, he, hb, hon⟩ := Region.waitsFor_spec hj2.2
      have hjle : j ≤ t := by have := List.mem_range.1 hj; omega
      by_cases hjt : j = t
      · subst hjt
        have : oj = ot := Option.some.inj (hoj.symm.trans hot)
        subst this
        have h2 := hall e he hb
        rw [hon, getD_both hun] at h2
        cases h2
      · cases hl : listed.getD j false with
        | true =>
          have h2 := inv.closed j oj hoj hl e he hb
          rw [hon, getD_both hun] at h2
          cases h2
        | false =>
          have hjs : j < listed.size := by rw [inv.size]; omega
          exact ih (t - j) (by omega) j rfl (by omega) (getD_in hjs hl) t (Nat.le_refl _) hr
    · have h1 := List.all_eq_true.1 hc t (List.mem_range.2 htlt)
      simp only [Bool.or_eq_true, decide_eq_true_eq] at h1
      rcases h1 with h1 | h1
      · omega
      · obtain ⟨o', ho', e, he, hb, hon⟩ := Region.waitsFor_spec h1
        have : o' = ot := Option.some.inj (ho'.symm.trans hot)
        subst this
        have h2 := hall e he hb
        rw [hon, getD_both (inv.tail (t - 1) (by omega) (by omega))] at h2
        cases h2

theorem wpAnyLC_firstF {n i : Nat} {oi : Oper} {v : Value} {L : Array Bool → Act → Prop} {L0 : Array Bool} (hi : ops[i]? = some oi) (hsel : ∀ (j : Nat) (o : Oper) cs b, ops[j]? = some o → o.op ≠ .select cs b)
    (hs : sinkF md ops n L0 = true) (hc : Region.chainB md ops n = true) (hn : n < ops.size) (hin : i < n)
    (hdone : ∀ listed a, L listed a → ∀ j ∈ Region.ready md ops listed, n ≤ j) :
    ∀ (f : Nat) (listed : Array Bool) (a : Act), HeadInv md ops n listed → (∀ i, L0.getD i false = true → listed.getD i false = true) →
      (∀ j oj, ops[j]? = some oj → j ≠ i → listed.getD j true = false → (∀ e ∈ oj.after, Region.binds md e = true → e.on ≠ i) → oi.apart ops oj = true) →
      i ∈ Region.ready md ops listed → YieldsIn P ops C oi v a →
      wpAnyLC P md ops C n L f (listed.setIfInBounds i true) (a.put oi.dst v) → wpAnyLC P md ops C n L (f + 1) listed a := by
  intro f
  induction f with
  | zero =>
    intro listed a inv hsub _ hr hy H
    have hun := (mem_ready.1 hr).1
    refine ⟨fun h => (by rw [h] at hr; cases hr), fun j hj => ?_⟩
    have hjn : j < n := by
      rcases Nat.lt_or_ge j n with h | h
      · exact h
      · exact absurd hj (tail_waitsF hs hc hn inv hsub _ i rfl hin hun j h)
    refine ⟨hjn, ?_⟩
    by_cases hji : j = i
    · subst hji; exact hy.qOp hi H
    · have := hdone _ _ H j (ready_mono hj hji)
      omega
  | succ f ih =>
    intro listed a inv hsub hfree hr hy H
    have hun := (mem_ready.1 hr).1
    refine ⟨fun h => (by rw [h] at hr; cases hr), fun j hj => ?_⟩
    have hjn : j < n := by
      rcases Nat.lt_or_ge j n with h | h
      · exact h
      · exact absurd hj (tail_waitsF hs hc hn inv hsub _ i rfl hin hun j h)
    refine ⟨hjn, ?_⟩
    by_cases hji : j = i
    · subst hji; exact hy.qOp hi H
    · have h1 := (H.2 j (ready_mono hj hji)).2
      obtain ⟨hjun, oj, hoj, hall⟩ := mem_ready.1 hj
      have hnot : ∀ e ∈ oj.after, Region.binds md e = true → e.on ≠ i := fun e he hb heq => by
        have h1 := hall e he hb
        rw [heq, getD_both hun] at h1
        cases h1
      have h2 := qOp_put hoj (hfree j oj hoj hji hjun hnot) (fun cs b => hsel i oi cs b hi) (fun cs b => hsel j oj cs b hoj) hy h1
      have hfree' : ∀ k ok, ops[k]? = some ok → k ≠ i → (listed.setIfInBounds j true).getD k true = false →
          (∀ e ∈ ok.after, Region.binds md e = true → e.on ≠ i) → oi.apart ops ok = true := fun k ok hk hki hun hno => by
        refine hfree k ok hk hki ?_ hno
        by_cases hjk : j = k
        · subst hjk; exact hjun
        · rw [getD_set_ne true hjk] at hun; exact hun
      refine qOp_mono (fun a' h3 => ih (listed.setIfInBounds j true) a' (inv.set hj hjn) (fun k hk => getD_set_true (hsub k hk)) hfree' (ready_mono hr (Ne.symm hji)) h3.1 ?_) h2
      rw [Array.setIfInBounds_comm _ _ hji]
      exact h3.2

def pickOps (l : List Oper) : List Nat → List Oper
  | [] => []
  | i :: r => match nth l i with
    | some o => o :: pickOps l r
    | none => pickOps l r

theorem wpAnyLC_lexF {l0 : List Oper} {n g : Nat} {Lq : Act → Prop} {L0 : Array Bool} (hsel : Region.noSelect l0.toArray = true) (hs : sinkF md l0.toArray n L0 = true) (hc : Region.chainB md l0.toArray n = true) (hn : n < l0.toArray.size) :
    ∀ (idx : List Nat) (listed : Array Bool) (a : Act), HeadInv md l0.toArray n listed → (∀ i, L0.getD i false = true → listed.getD i false = true) →
    headF md l0.toArray n g idx listed = true → wpQuiet P l0.toArray C Lq (pickOps l0 idx) a →
    wpAnyLC P md l0.toArray C n (fun listed' a' => Region.seqB md l0.toArray g n listed' = true ∧ Lq a') idx.length listed a
  | [], listed, a, _, _, hB, h => ⟨hB, h⟩
  | i :: idx, listed, a, inv, hsub, hB, h => by
    simp only [headF, Bool.and_eq_true, decide_eq_true_eq] at hB
    obtain ⟨⟨⟨hin, hr⟩, hf⟩, hB'⟩ := hB
    have hr' : i ∈ Region.ready md l0.toArray listed := by simpa using hr
    obtain ⟨_, o, ho, _⟩ := mem_ready.1 hr'
    have ho' : nth l0 i = some o := by rw [← nth_eq, ← List.getElem?_toArray]; exact ho
    simp only [pickOps, ho'] at h
    have hst : qOp P l0.toArray C i (wpQuiet P l0.toArray C Lq (pickOps l0 idx)) a := by unfold qOp; simp only [ho]; exact h
    obtain ⟨v, hy, hK⟩ := yieldsIn_of_qOp ho hst
    exact wpAnyLC_firstF ho (Region.noSelect_spec hsel) hs hc hn hin (fun listed' a' hL => seqB_ready hL.1) idx.length listed a inv hsub (Region.free_spec ho hf) hr' hy
      (wpAnyLC_lexF hsel hs hc hn idx _ _ (inv.set hr' hin) (fun k hk => getD_set_true (hsub k hk)) hB' hK)

theorem wpAny_tailF {Q : Exit → Act → World → Prop} {a : Act} {w : World} {l : List Oper} {L0 : Array Bool} (n : Nat) (idx : List Nat) (hB : tailF .any l.toArray n idx L0 = true) (hC : C w)
    (h : wpQuiet P l.toArray C (fun a' => ∀ w', C w' → wpList P l.toArray Q (l.drop n) a' w') (pickOps l idx) a) : wpAny P .any l.toArray Q (idx.length + (l.length - n)) L0 a w := by
  simp only [tailF, Bool.and_eq_true, decide_eq_true_eq] at hB
  obtain ⟨⟨⟨⟨⟨⟨⟨hsel, hn⟩, hsz⟩, hs⟩, hc⟩, hcl⟩, hla⟩, hhd⟩ := hB
  have hdl : (l.drop n).length = l.toArray.size - n := by simp
  have inv0 : HeadInv .any l.toArray n L0 := by
    refine ⟨hsz, fun j oj hj hl e he hb => ?_, fun t ht ht' => ?_⟩
    · have hlt : j < l.toArray.size := (Array.getElem?_eq_some_iff.1 hj).1
      have h1 := List.all_eq_true.1 hcl j (List.mem_range.2 hlt)
      simp only [hl, hj, Bool.not_true, Bool.false_or] at h1
      have h2 := Array.all_eq_true_iff_forall_mem.1 h1 e he
      simpa [hb] using h2
    · have h1 := List.all_eq_true.1 hla t (List.mem_range.2 ht')
      have h2 : ¬ t < n := by omega
      simpa [h2] using h1
  have H := wpAnyLC_lexF (P := P) (C := C) (md := .any) (g := l.toArray.size - n) hsel hs hc hn idx L0 a inv0 (fun _ h => h) hhd h
  have := wpAny_of_headC (Q' := Q) (g := l.toArray.size - n) (fun listed a' w' hw' hL => by
    have := wpAny_of_seq (md := .any) (Q' := Q) (l.drop n) n listed a' w' (fun j => by simp [List.getElem?_drop]) (by rw [hdl]; exact hL.1) (hL.2 w' hw')
    rwa [hdl] at this) _ _ _ _ hC H
  simpa using this
end

/-- A post that no panic meets. -/
def NoP (Q : Post) : Prop := ∀ c a w, ¬ Q (.panic c) a w
theorem NoP.ret {P : Program} {fn : Func} {R : Value → World → Prop} : NoP (Ret P fn R) := fun _ _ _ h => by
  obtain ⟨_, v, he, _⟩ := h; cases he
theorem NoP.thn {K : Act → World → Prop} {Q : Post} (h : NoP Q) : NoP (Then K Q) := fun c a w hq => h c a w hq
theorem NoP.blk {id : Nat} {Q : Post} (h : NoP Q) : NoP (InBlk id Q) := fun c a w hq => h c a w hq

/-- The lexical walk of a quiet head: 'K' is what stands behind it. -/
def Qw (P : Program) (l0 : List Oper) (C : World → Prop) (K : Act → Prop) (n : Nat) (l : List Oper) (E : Env) : Prop := ∀ a, Fits n E a → wpQuiet P l0.toArray C K l a
/-- Any order, from here on. -/
def Aw (P : Program) (l0 : List Oper) (Q : Post) (n fuel : Nat) (listed : Array Bool) (E : Env) (w : World) : Prop := ∀ a, Fits n E a → wpAny P .any l0.toArray Q fuel listed a w

section
variable {P : Program} {Q : Post} {n : Nat} {E : Env} {w : World} {l0 rest : List Oper} {ty : TypeId} {pos : String} {af : Array Edge} {C : World → Prop} {K : Act → Prop}

theorem below_draw (w : World) : Below w.heap.size w { w with drawn := w.drawn + 1 } := ⟨rfl, rfl, rfl, Nat.le_refl _, fun _ _ => rfl⟩

theorem Cw.quiet {id : Nat} {l : List Oper} (hm : P.follows .mixedOrders = true) (hB : Region.lexB .any l.toArray = true) (h : Qw P l (Below w.heap.size w) (fun a' => ∀ w', Below w.heap.size w w' → Q .normal a' w') n l E) :
    Cw P Q n (.region id l.toArray true) E w := fun a ha => wp_region_quiet (C := Below w.heap.size w) hm hB (below_draw w) (by simpa using h a ha)
theorem Cw.tail {id : Nat} {l : List Oper} (k : Nat) (hm : P.follows .mixedOrders = true) (hB : Region.lexTailB .any l.toArray k = true)
    (h : Qw P l (Below w.heap.size w) (fun a' => ∀ w', Below w.heap.size w w' → wpList P l.toArray Q (l.drop k) a' w') n (l.take k) E) : Cw P Q n (.region id l.toArray true) E w := fun a ha =>
  wp_region_quiet_tail (C := Below w.heap.size w) k hm hB (below_draw w) (h a ha)
theorem Qw.nil (h : ∀ w', C w' → Pw n E (Q .normal) w') : Qw P l0 C (fun a' => ∀ w', C w' → Q .normal a' w') n [] E := fun a ha => wpQuiet_nil fun w' hw' => h w' hw' a ha
theorem Qw.done {l : List Oper} (h : ∀ w', C w' → Lw P l0 Q n l E w') : Qw P l0 C (fun a' => ∀ w', C w' → wpList P l0.toArray Q l a' w') n [] E := fun a ha => wpQuiet_nil fun w' hw' => h w' hw' a ha
theorem Qw.val {d : Nat} {op : Op} {v : Value} (h : ∀ w, C w → Ex P n E op ty w v) (hd : Nat.blt d n = true) (k : Qw P l0 C K n rest ((d, v) :: E)) : Qw P l0 C K n (⟨some d, op, ty, pos, af, none⟩ :: rest) E := fun a ha => by
  refine wpQuiet_step fun K' hK => ?_
  rw [if_pos (by simp [Region.wanted])]
  refine ⟨v, fun w hw => ?_, hK _ (k _ (ha.put v hd))⟩
  unfold Oper.quietAt
  rw [h w hw a ha]
  exact ⟨rfl, rfl⟩
theorem Qw.callF {d : Nat} {f : FuncId} {xs : List Operand} {vs : List Value} {ts : Array TypeId} {v : Value} (hx : evs E xs = some vs) (hd : Nat.blt d n = true) (hf : ∀ w, C w → Fnc P f vs w (fun r w' => r = v ∧ C w'))
    (k : Qw P l0 C K n rest ((d, v) :: E)) : Qw P l0 C K n (⟨some d, .call { callee := .value (.func f), args := xs.toArray, argTypes := ts }, ty, pos, af, none⟩ :: rest) E := fun a ha => by
  refine wpQuiet_step fun K' hK => ?_
  rw [if_pos (by simp [Region.wanted])]
  refine ⟨v, fun w hw => ?_, hK _ (k _ (ha.put v hd))⟩
  unfold Oper.quietAt
  rw [Xc.mk (hf w hw).1 hx a ha]
  exact ⟨rfl, (hf w hw).2.mono fun e w' ⟨u, he, hu, hc⟩ => by subst he; subst hu; exact ⟨rfl, hc⟩⟩
theorem Qw.callV {d : Nat} {f : FuncId} {c : Operand} {p q : List Value} {xs : List Operand} {vs : List Value} {ts : Array TypeId} {v : Value} (hc : ev E c = some (.func (.func f) p.toArray q.toArray)) (hx : evs E xs = some vs) (hd : Nat.blt d n = true)
    (hf : ∀ w, C w → Fnc P f (p ++ vs ++ q) w (fun r w' => r = v ∧ C w'))
    (k : Qw P l0 C K n rest ((d, v) :: E)) : Qw P l0 C K n (⟨some d, .call { callee := .value c, args := xs.toArray, argTypes := ts }, ty, pos, af, none⟩ :: rest) E := fun a ha => by
  refine wpQuiet_step fun K' hK => ?_
  rw [if_pos (by simp [Region.wanted])]
  refine ⟨v, fun w hw => ?_, hK _ (k _ (ha.put v hd))⟩
  unfold Oper.quietAt
  rw [Xc.val (hf w hw).1 hc hx a ha]
  exact ⟨rfl, (hf w hw).2.mono fun e w' ⟨u, he, hu, hc⟩ => by subst he; subst hu; exact ⟨rfl, hc⟩⟩
theorem Qw.know {l : List Oper} (d : Nat) {v v' : Value} (hd : get E d = some v) (hv : v = v') (h : Qw P l0 C K n l ((d, v') :: E)) : Qw P l0 C K n l E := fun a ha => h a <| by
  subst hv
  refine ⟨ha.dfr, ha.size, fun i u hu => ?_⟩
  by_cases hi : d = i
  · subst hi; rw [get_cons_self] at hu; exact ha.has _ _ (hd.trans hu)
  · rw [get_cons_ne _ _ hi] at hu; exact ha.has _ _ hu
theorem Qw.part {l : List Oper} (d : Nat) {g : Bool} (hd : get E d = some (.bool g)) (yes : g = true → Qw P l0 C K n l ((d, .bool true) :: E)) (no : g = false → Qw P l0 C K n l ((d, .bool false) :: E)) : Qw P l0 C K n l E := by
  cases g with
  | true => exact Qw.know d hd rfl (yes rfl)
  | false => exact Qw.know d hd rfl (no rfl)
theorem Qw.take {d : Option Tmp} {op : Op} {j dj : Nat} {g : Bool} (hj : (nth l0 j).bind (·.dst) = some dj) (hg : get E dj = some (.bool g))
    (h : Qw P l0 C K n (⟨d, op, ty, pos, af, none⟩ :: rest) E) : Qw P l0 C K n (⟨d, op, ty, pos, af, some (j, g)⟩ :: rest) E := fun a ha => by
  have h1 := h a ha
  unfold wpQuiet at h1 ⊢
  rw [if_pos (by simp [Region.wanted])] at h1
  rw [if_pos (by simp [Region.wanted, yielded_of ha hj hg])]
  exact h1
theorem Qw.pass {d : Nat} {op : Op} {j dj : Nat} {g g' : Bool} (hj : (nth l0 j).bind (·.dst) = some dj) (hg : get E dj = some (.bool g')) (hne : (g == g') = false) (hd : Nat.blt d n = true)
    (h : Qw P l0 C K n rest ((d, undef) :: E)) : Qw P l0 C K n (⟨some d, op, ty, pos, af, some (j, g)⟩ :: rest) E := fun a ha => by
  unfold wpQuiet
  rw [if_neg]
  · exact h _ (ha.put _ hd)
  · simp only [Region.wanted, yielded_of ha hj hg]
    cases g <;> cases g' <;> simp_all

/-! ### Any order -/
theorem Cw.any {id : Nat} {l : List Oper} (hm : P.follows .mixedOrders = true) (h : ∀ w', Below w.heap.size w w' → w'.heap.size = w.heap.size → Aw P l Q n l.length (Array.replicate l.length false) E w') : Cw P Q n (.region id l.toArray true) E w := fun a ha =>
  wp_region_any hm (by simpa using h _ (below_draw w) rfl a ha)
/-- An operation that looks at no world is taken first. -/
theorem Aw.take {i d fuel : Nat} {op : Op} {v : Value} {listed : Array Bool} (hQ : NoP Q) (hi : nth l0 i = some ⟨some d, op, ty, pos, af, none⟩) (hs : Region.noSelect l0.toArray = true) (hf : Region.free .any l0.toArray listed i = true)
    (hr : (Region.ready .any l0.toArray listed).contains i = true) (h : ∀ w, Ex P n E op ty w v) (hd : Nat.blt d n = true) (k : Aw P l0 Q n fuel (listed.setIfInBounds i true) ((d, v) :: E) w) : Aw P l0 Q n (fuel + 1) listed E w := fun a ha =>
  wpAny_take (by rw [List.getElem?_toArray, nth_eq]; exact hi) hs hf hr (fun c a' w' hq => absurd hq (hQ _ _ _)) (.inl ⟨by simp [Region.wanted], fun w' => h w' a ha (some d) pos af none⟩) (k _ (ha.put v hd))
/-- The same, under a guard that holds. -/
theorem Aw.takeG {i d j dj fuel : Nat} {op : Op} {v : Value} {g : Bool} {listed : Array Bool} (hQ : NoP Q) (hi : nth l0 i = some ⟨some d, op, ty, pos, af, some (j, g)⟩) (hj : (nth l0 j).bind (·.dst) = some dj) (hg : get E dj = some (.bool g)) (hs : Region.noSelect l0.toArray = true) (hf : Region.free .any l0.toArray listed i = true)
    (hr : (Region.ready .any l0.toArray listed).contains i = true) (h : ∀ w, Ex P n E op ty w v) (hd : Nat.blt d n = true) (k : Aw P l0 Q n fuel (listed.setIfInBounds i true) ((d, v) :: E) w) : Aw P l0 Q n (fuel + 1) listed E w := fun a ha =>
  wpAny_take (by rw [List.getElem?_toArray, nth_eq]; exact hi) hs hf hr (fun c a' w' hq => absurd hq (hQ _ _ _)) (.inl ⟨by simp [Region.wanted, yielded_of ha hj hg], fun w' => h w' a ha (some d) pos af (some (j, g))⟩) (k _ (ha.put v hd))
/-- Under a guard that does not hold. -/
theorem Aw.passG {i d j dj fuel : Nat} {op : Op} {g g' : Bool} {listed : Array Bool} (hQ : NoP Q) (hi : nth l0 i = some ⟨some d, op, ty, pos, af, some (j, g)⟩) (hj : (nth l0 j).bind (·.dst) = some dj) (hg : get E dj = some (.bool g')) (hne : (g == g') = false) (hs : Region.noSelect l0.toArray = true) (hf : Region.free .any l0.toArray listed i = true)
    (hr : (Region.ready .any l0.toArray listed).contains i = true) (hd : Nat.blt d n = true) (k : Aw P l0 Q n fuel (listed.setIfInBounds i true) ((d, undef) :: E) w) : Aw P l0 Q n (fuel + 1) listed E w := fun a ha =>
  wpAny_take (by rw [List.getElem?_toArray, nth_eq]; exact hi) hs hf hr (fun c a' w' hq => absurd hq (hQ _ _ _)) (.inr ⟨by simp only [Region.wanted, yielded_of ha hj hg]; cases g <;> cases g' <;> simp_all, rfl⟩) (k _ (ha.put undef hd))
theorem Aw.part {fuel : Nat} {listed : Array Bool} (d : Nat) {g : Bool} (hd : get E d = some (.bool g)) (yes : g = true → Aw P l0 Q n fuel listed ((d, .bool true) :: E) w) (no : g = false → Aw P l0 Q n fuel listed ((d, .bool false) :: E) w) : Aw P l0 Q n fuel listed E w := by
  have key : ∀ b, g = b → Aw P l0 Q n fuel listed ((d, .bool b) :: E) w → Aw P l0 Q n fuel listed E w := fun b hb h a ha => h a <| by
    subst hb
    refine ⟨ha.dfr, ha.size, fun i u hu => ?_⟩
    by_cases hi : d = i
    · subst hi; rw [get_cons_self] at hu; exact ha.has _ _ (hd.trans hu)
    · rw [get_cons_ne _ _ hi] at hu; exact ha.has _ _ hu
  cases g with
  | true => exact key true rfl (yes rfl)
  | false => exact key false rfl (no rfl)
/-- From here on a quiet head, then a tail in a forced order. -/
theorem Aw.tail {L0 : Array Bool} {f : Nat} (k : Nat) (idx : List Nat) (hB : tailF .any l0.toArray k idx L0 = true) (hf : idx.length + (l0.length - k) = f)
    (h : Qw P l0 (Below w.heap.size w) (fun a' => ∀ w', Below w.heap.size w w' → wpList P l0.toArray Q (l0.drop k) a' w') n (pickOps l0 idx) E) : Aw P l0 Q n f L0 E w := fun a ha => by
  rw [← hf]
  exact wpAny_tailF (C := Below w.heap.size w) k idx hB (Below.refl _ _) (h a ha)
/-- The ready ones, each. -/
theorem Aw.all {fuel : Nat} {listed : Array Bool} (rs : List Nat) (hr : Region.ready .any l0.toArray listed = rs) (hne : rs ≠ [])
    (h : ∀ i ∈ rs, ∀ o, nth l0 i = some o → Pw n E (fun a w => wpOp P l0.toArray Q i (fun a' w' => wpAny P .any l0.toArray Q fuel (listed.setIfInBounds i true) a' w') a w) w) : Aw P l0 Q n (fuel + 1) listed E w := fun a ha =>
  wpAny_all hr hne fun i hi => by
    have hlt : i < l0.length := by
      have : i ∈ Region.ready .any l0.toArray listed := hr ▸ hi
      obtain ⟨_, o, ho, _⟩ := mem_ready.1 this
      have := (Array.getElem?_eq_some_iff.1 ho).1
      simpa using this
    exact h i hi l0[i] (by rw [← nth_eq, List.getElem?_eq_getElem hlt]) a ha
theorem Aw.done {fuel : Nat} {listed : Array Bool} (hr : Region.ready .any l0.toArray listed = []) (h : Pw n E (Q .normal) w) : Aw P l0 Q n fuel listed E w := fun a ha => wpAny_done hr (h a ha) fuel
/-- One of the ready ones, by the rule for a list of one operation. -/
theorem Pw.one {i fuel : Nat} {o : Oper} {listed : Array Bool} (ho : nth l0 i = some o) (h : Lw P l0 (Then (fun a' w' => wpAny P .any l0.toArray Q fuel (listed.setIfInBounds i true) a' w') Q) n [o] E w) :
    Pw n E (fun a w => wpOp P l0.toArray Q i (fun a' w' => wpAny P .any l0.toArray Q fuel (listed.setIfInBounds i true) a' w') a w) w := fun a ha => by
  have h1 := h a ha
  have ho' : l0.toArray[i]? = some o := by rw [List.getElem?_toArray, nth_eq]; exact ho
  unfold wpList at h1
  unfold wpOp
  simp only [ho']
  have hK : wpList P l0.toArray (Then (fun a' w' => wpAny P .any l0.toArray Q fuel (listed.setIfInBounds i true) a' w') Q) [] = fun a' w' => wpAny P .any l0.toArray Q fuel (listed.setIfInBounds i true) a' w' := by
    funext a' w'; rfl
  rw [hK] at h1
  split at h1
  · rename_i hw
    rw [if_pos hw]
    refine h1.imp (fun h => ?_) (fun h => h)
    unfold Oper.wp at *
    generalize (execOp a.eval o).run P w = r at *
    cases r with
    | ok nx w' => cases nx <;> exact h
    | halt x w' => cases x <;> exact h
  · rename_i hw
    rw [if_neg hw]; exact h1
theorem Aw.only {i fuel : Nat} {o : Oper} {listed : Array Bool} (hr : Region.ready .any l0.toArray listed = [i]) (ho : nth l0 i = some o)
    (h : Lw P l0 (Then (fun a' w' => wpAny P .any l0.toArray Q fuel (listed.setIfInBounds i true) a' w') Q) n [o] E w) : Aw P l0 Q n (fuel + 1) listed E w :=
  Aw.all [i] hr (by simp) fun j hj o' ho' => by
    obtain rfl : j = i := by simpa using hj
    obtain rfl : o' = o := Option.some.inj (ho'.symm.trans ho)
    exact Pw.one ho h
theorem Aw.two {i j fuel : Nat} {o q : Oper} {listed : Array Bool} (hr : Region.ready .any l0.toArray listed = [i, j]) (ho : nth l0 i = some o) (hq : nth l0 j = some q)
    (h : Lw P l0 (Then (fun a' w' => wpAny P .any l0.toArray Q fuel (listed.setIfInBounds i true) a' w') Q) n [o] E w)
    (k : Lw P l0 (Then (fun a' w' => wpAny P .any l0.toArray Q fuel (listed.setIfInBounds j true) a' w') Q) n [q] E w) : Aw P l0 Q n (fuel + 1) listed E w :=
  Aw.all [i, j] hr (by simp) fun m hm o' ho' => by
    rcases List.mem_cons.1 hm with rfl | hm
    · obtain rfl : o' = o := Option.some.inj (ho'.symm.trans ho)
      exact Pw.one ho h
    · obtain rfl : m = j := by simpa using hm
      obtain rfl : o' = q := Option.some.inj (ho'.symm.trans hq)
      exact Pw.one hq k
theorem Aw.back {fuel : Nat} {listed : Array Bool} {l1 : List Oper} (h : Aw P l0 Q n fuel listed E w) : Lw P l1 (Then (fun a' w' => wpAny P .any l0.toArray Q fuel listed a' w') Q) n [] E w := fun a ha => wpList_nil (h a ha)

theorem one_map {α : Type} {enc : α → Value} (h : ∀ x, (enc x).oneCell' = true) (l : List α) : (l.map enc).all (·.oneCell') = true := by simp [h]

/-! ### A list with one mark in the room behind it -/
def Twn {α : Type} (w : World) (base : Nat) (T : TypeId) (enc : α → Value) (mark : Value) (v : Value) (l : List α) : Prop :=
  ∃ b cap, v = .slice (some ⟨b, 0, none⟩) l.length cap ∧ w.ownsRow base T 1 (.slice (some ⟨b, 0, none⟩) (l.length + 1) cap) (l.length + 1) (l.map enc ++ [mark])

theorem own_short {b cap k m base : Nat} {T : TypeId} {xs ys : List Value} (h : w.ownsRow base T 1 (.slice (some ⟨b, 0, none⟩) (k + m) cap) (k + m) (xs ++ ys)) (hx : xs.length = k) : w.ownsRow base T 1 (.slice (some ⟨b, 0, none⟩) k cap) k xs := by
  obtain ⟨h1, h2⟩ := h
  rcases h2 with ⟨h0, _⟩ | ⟨g, cap', cur, hv, hb, hg, hnc, hcm, hcs, htake⟩
  · cases h0
  · cases hv
    refine ⟨by simpa using hx, .inr ⟨b, cap, cur, rfl, hb, hg, by omega, hcm, hcs, ?_⟩⟩
    have := congrArg (List.take k) htake
    rw [List.take_take, Nat.min_eq_left (by omega)] at this
    simp only [Nat.mul_one] at this ⊢
    rw [this, ← hx, List.take_left]
theorem Twn.sl {α : Type} {base : Nat} {T : TypeId} {enc : α → Value} {mark v : Value} {l : List α} (h : Twn w base T enc mark v l) : SlT enc w v l := by
  obtain ⟨b, cap, rfl, ho⟩ := h
  exact own_sl (own_short ho (by simp))
theorem Twn.bs {α : Type} {w' : World} {base : Nat} {T : TypeId} {enc : α → Value} {mark v : Value} {l : List α} (h : Twn w base T enc mark v l) (hb : Below w.heap.size w w') : Twn w' base T enc mark v l := by
  obtain ⟨b, cap, rfl, ho⟩ := h
  exact ⟨b, cap, rfl, own_bs ho hb⟩

/-! ### append, slicing -/
variable {x y z : Operand} {v u : Value} {t s e : TypeId} {sz base : Nat}
/-- The block of what append gives: the old one, or a new one. -/
theorem append_block {P : Program} {w w' : World} {base : Nat} {t ty e : TypeId} {i : TypeInfo} {z : Value} {size bytes : Nat} (ht : P.underlying t = some (.slice e)) (hi : P.info? e = some i) (hz : i.zero = some z)
    (hsize : i.size = size) (hby : i.bytes = bytes) (hsz : 0 < size) {v v' : Value} {n : Nat} {xs : List Value} (hown : w.ownsRow base e size v n xs)
    {a : Addr} {m c : Nat} {news : List Value} (hl : news.length = m * size) (hnews : ∀ j u, news[j]? = some u → w.cell? (a.add j) = some u) (h1 : ∀ u ∈ news, u.oneCell' = true)
    (h63 : n + m ≤ maxLen) (hbytes : (n + m) * bytes ≤ 140737488355328) (hr' : (Builtin.append_ #[t, t] ty #[v, .slice (some a) m c]).run P w = .ok v' w') :
    v'.ownBlock = v.ownBlock ∨ v'.ownBlock = some w.heap.size := by
  subst hsize
  subst hby
  have hsmall : n + m ≤ 9223372036854775807 := by simp only [maxLen] at h63; omega
  rcases hown.2 with ⟨rfl, rfl⟩ | ⟨g, cap, cur, rfl, hbg, hg, hnc, hcm, hcs, htake⟩
  · by_cases hm : m = 0
    · subst hm
      obtain rfl : news = [] := List.eq_nil_of_length_eq_zero (by simpa using hl)
      have hr : (Builtin.append_ #[t, t] ty #[.slice none 0 0, .slice (some a) 0 c]).run P w = .ok (.slice none 0 0) w := by
        simp [Builtin.append_, run_underlying ht, sizeOf, typeInfo, hi, Builtin.lenOf, Builtin.firstCells, loadCells, loadCellsFrom]
      rw [hr] at hr'
      cases hr'
      exact .inl rfl
    · have hr := run_append_nil (P := P) w t ty e i z ht hi hz a m c news hl hnews (by omega) (by omega) (by have hb := hbytes; simp only [Nat.zero_add] at hb; omega)
      rw [hr] at hr'
      cases hr'
      exact .inr rfl
  · by_cases hroom : n + m ≤ cap
    · have hfit : n * i.size + news.length ≤ cur.size := by rw [hl, hcs, ← Nat.add_mul]; exact Nat.mul_le_mul_right _ hroom
      have hr := run_append_room (P := P) w t ty e i ht hi g n cap cur hg a m c news hl hnews h1 hroom hfit
      rw [hr] at hr'
      cases hr'
      exact .inl rfl
    · have holds : ∀ j u, xs[j]? = some u → w.cell? ((⟨g, 0, none⟩ : Addr).add j) = some u := hown.cells (g := g) rfl
      have hr := run_append_grow (P := P) w t ty e i z ht hi hz ⟨g, 0, none⟩ n cap xs hown.1 holds a m c news hl hnews (by omega) (by omega) (growslice_fits (by omega) hbytes)
      rw [hr] at hr'
      cases hr'
      exact .inr rfl

theorem Xw.append2 {k m : Nat} {xs news : List Value} {bytes : Nat} {zs : List Value} (hu : STy P t e sz) (hi : ITy P e zs bytes) (hzl : zs.length = sz) (hz : 0 < sz) (hx : ev E x = some v) (hy : ev E y = some u)
    (hown : w.ownsRow base e sz v k xs) (hsrc : Sl w sz u m news) (hone : news.all (·.oneCell') = true) (hlen : (k + m) * bytes ≤ 140737488355328) (hm : k + m ≤ 9223372036854775807) (hbase : base ≤ w.heap.size) :
    Xw P n E (.call { callee := .builtin .append, args := #[x, y], argTypes := #[t, t] }) ty w (fun v' w' => w'.ownsRow base e sz v' (k + m) (xs ++ news) ∧ Below base w w' ∧ w.grownBy w' v.ownBlock ∧ (v'.ownBlock = v.ownBlock ∨ v'.ownBlock = some w.heap.size)) := fun a ha => by
  subst hzl
  have hbel : ∀ w', w.grownBy w' v.ownBlock → Below base w w' := fun w' hg => grown_below hg hbase fun k hk => (own_block hown k hk).1
  obtain ⟨i, h1, h2, h3, zv, h4, h5⟩ := hi.i
  obtain ⟨hl, ao, cap, rfl, hc1, hc2, hc3, hc4⟩ := hsrc
  have hzs : zv.cells.size = zs.length := by rw [h5]; simp
  cases ao with
  | none =>
    have h0 := hc3 rfl
    have hm0 : m = 0 := by omega
    subst hm0
    obtain rfl : news = [] := List.eq_nil_of_length_eq_zero (by simpa using hl)
    subst h0
    have hr := run_append_owned_none (P := P) w base t ty e i zs.length hu.u h1 v k xs hown
    refine ⟨v, w, fun _ _ _ _ => by simp [execOp, resolve, invoke, builtin, ha.ev hx, ha.ev hy, hr], by simpa using hown, hbel _ (grown_refl _ _), grown_refl _ _, .inl rfl⟩
  | some ad =>
    have hm' : k + m ≤ maxLen := by unfold maxLen; omega
    have hone' : ∀ u ∈ news, u.oneCell' = true := fun u hu => List.all_eq_true.1 hone u hu
    obtain ⟨v', w', hr, g1, g2, g3⟩ := run_append_own (P := P) w base t ty e i zv zs.length bytes hu.u h1 h4 h2 h3 hzs hz v k xs hown ad m cap news hl (hc4 ad rfl) hone' hm' hlen hbase
    exact ⟨v', w', fun _ _ _ _ => by simp [execOp, resolve, invoke, builtin, ha.ev hx, ha.ev hy, hr], g1, hbel _ g2, g2, append_block hu.u h1 h4 h2 h3 hz hown hl (hc4 ad rfl) hone' hm' hlen hr⟩
theorem Xw.append {k m : Nat} {xs news : List Value} {bytes : Nat} {zs : List Value} (hu : STy P t e sz) (hi : ITy P e zs bytes) (hzl : zs.length = sz) (hz : 0 < sz) (hx : ev E x = some v) (hy : ev E y = some u)
    (hown : w.ownsRow base e sz v k xs) (hsrc : Sl w sz u m news) (hone : news.all (·.oneCell') = true) (hlen : (k + m) * bytes ≤ 140737488355328) (hm : k + m ≤ 9223372036854775807) (hbase : base ≤ w.heap.size) :
    Xw P n E (.call { callee := .builtin .append, args := #[x, y], argTypes := #[t, t] }) ty w (fun v' w' => w'.ownsRow base e sz v' (k + m) (xs ++ news) ∧ Below base w w' ∧ w.grownBy w' v.ownBlock) := fun a ha => by
  obtain ⟨v', w', h1, h2, h3, h4, _⟩ := Xw.append2 hu hi hzl hz hx hy hown hsrc hone hlen hm hbase a ha
  exact ⟨v', w', h1, h2, h3, h4⟩

/-- Two lists that grow, each for itself. -/
def Apt (v u : Value) : Prop := ∀ b, v.ownBlock = some b → u.ownBlock ≠ some b
theorem Apt.symm {v u : Value} (h : Apt v u) : Apt u v := fun b h1 h2 => h b h2 h1
theorem Apt.keep {w w' : World} {base : Nat} {e : TypeId} {sz k : Nat} {v u : Value} {xs : List Value} (h : Apt v u) (ho : w.ownsRow base e sz u k xs) (hg : w.grownBy w' v.ownBlock) : w'.ownsRow base e sz u k xs :=
  ho.kept hg (by
    cases hu : u.ownBlock with
    | none => exact .inl rfl
    | some b => exact .inr fun hv => h b hv.symm hu)
theorem Apt.grow {w : World} {base : Nat} {e : TypeId} {sz k : Nat} {v v' u : Value} {xs : List Value} (h : Apt v u) (ho : w.ownsRow base e sz u k xs) (hv : v'.ownBlock = v.ownBlock ∨ v'.ownBlock = some w.heap.size) : Apt v' u := fun b h1 h2 => by
  rcases hv with hv | hv
  · exact h b (hv ▸ h1) h2
  · have := (own_block ho b h2).2
    rw [hv] at h1
    cases h1
    omega

theorem Fnc.q {f : FuncId} {args : List Value} {w1 : World} (h : Fnc P f args w1 (fun r w' => r = v ∧ Below w1.heap.size w1 w')) (hq : Below w.heap.size w w1) : Fnc P f args w1 (fun r w' => r = v ∧ Below w.heap.size w w') :=
  h.mono fun _ _ hr => ⟨hr.1, below_tr hq hr.2 (Nat.le_refl _)⟩

/-- '[]byte("..")': a literal, marked as a string's bytes. -/
theorem Xw.convStr {b k cap : Nat} {T : TypeId} {xs : List Value} (hu : STy P t e 1) (h8 : P.underlying e = some (.int .u8)) (hx : ev E x = some (.slice (some ⟨b, 0, none⟩) k cap)) (h : w.ownsRow base T 1 (.slice (some ⟨b, 0, none⟩) k cap) k xs) :
    Xw P n E (.convert t t x) ty w (fun v' w' => v' = .slice (some ⟨b, 0, none⟩) k cap ∧ Sl w' 1 v' k xs ∧ w.grownBy w' (some b) ∧ w'.heap.size = w.heap.size) := fun a ha => by
  obtain ⟨hl, hrow⟩ := h
  rcases hrow with ⟨h0, _⟩ | ⟨g, cap', cur, hv, hb, hg, hnc, hcm, hcs, htake⟩
  · cases h0
  · cases hv
    refine ⟨.slice (some ⟨b, 0, none⟩) k cap, w.freeze ⟨b, cur.size, none⟩ 1, fun _ _ _ _ => ?_, rfl, ⟨hl, some ⟨b, 0, none⟩, cap, rfl, hnc, hcm, (fun h => by cases h), fun a ha j u hu => ?_⟩, ⟨rfl, rfl, rfl, ?_, fun k _ hk => ?_⟩, ?_⟩
    · have hsh : w.shape? b = some (T, cur.size) := by simp [World.shape?, hg]
      simp [execOp, ha.ev hx, convert, run_underlying hu.u, run_underlying h8, markStringish, hsh]
    · cases ha
      have hc := World.ownsRow.cells ⟨hl, .inr ⟨b, cap, cur, rfl, hb, hg, hnc, hcm, hcs, htake⟩⟩ (g := b) rfl j u hu
      rw [← hc]
      rw [add_lit, Nat.zero_add]
      have hlt := (Array.getElem?_eq_some_iff.1 hg).1
      have hgv := (Array.getElem?_eq_some_iff.1 hg).2
      simp [World.cell?, World.freeze, Array.getElem?_modify, hg]
    · simp [World.freeze]
    · have : k ≠ b := fun e => hk (by rw [e])
      simp [World.freeze, Array.getElem?_modify, Ne.symm this]
    · simp [World.freeze]

/-- The slice value that 'x[i:j]' makes. -/
def cut (v : Value) (sz i j : Nat) : Value := match v with
  | .slice ao _ cap => .slice (if cap = i then ao else ao.map (·.add (i * sz))) (j - i) (cap - i)
  | _ => undef

theorem Sl.cut {c i j : Nat} {xs : List Value} (h : Sl w sz v c xs) (hij : i ≤ j) (hj : j ≤ c) : Sl w sz (cut v sz i j) (j - i) ((xs.drop (i * sz)).take ((j - i) * sz)) := by
  obtain ⟨hl, ao, cap, rfl, h1, h2, h3, h4⟩ := h
  refine ⟨?_, _, cap - i, rfl, by omega, by omega, fun hn => ?_, fun a ha k u hu => ?_⟩
  · have e1 : j * sz = i * sz + (j - i) * sz := by rw [← Nat.add_mul]; congr 1; omega
    have e2 : j * sz ≤ c * sz := Nat.mul_le_mul_right _ hj
    rw [List.length_take, List.length_drop, hl]; omega
  · split at hn
    · omega
    · have := h3 (by cases ao <;> simp_all); omega
  · have hk : k < (j - i) * sz := by
      rw [List.getElem?_take] at hu
      split at hu
      · assumption
      · cases hu
    rw [List.getElem?_take, if_pos hk, List.getElem?_drop] at hu
    split at ha
    · rename_i hci
      have h0 : (j - i) = 0 := by omega
      rw [h0] at hk; simp at hk
    · cases ao with
      | none => simp at ha
      | some ad =>
        simp only [Option.map_some, Option.some.injEq] at ha
        subst ha
        rw [add_add']
        exact h4 ad rfl _ _ hu

theorem SlT.cut {α : Type} {enc : α → Value} {l : List α} {i j : Nat} (h : SlT enc w v l) (hij : i ≤ j) (hj : j ≤ l.length) : SlT enc w (Dd.cut v 1 i j) ((l.drop i).take (j - i)) := by
  have := Sl.cut h hij hj
  have e : ((l.drop i).take (j - i)).length = j - i := by simp; omega
  unfold SlT
  rw [e]
  simpa [List.map_take, List.map_drop] using this
theorem SlT.take {α : Type} {enc : α → Value} {l : List α} {j : Nat} (h : SlT enc w v l) (hj : j ≤ l.length) : SlT enc w (Dd.cut v 1 0 j) (l.take j) := by
  simpa using SlT.cut h (Nat.zero_le j) hj
theorem SlT.drop {α : Type} {enc : α → Value} {l : List α} {i : Nat} (h : SlT enc w v l) (hi : i ≤ l.length) : SlT enc w (Dd.cut v 1 i l.length) (l.drop i) := by
  have := SlT.cut h hi (Nat.le_refl _)
  rwa [List.take_of_length_le (by simp)] at this

section
variable {k1 k2 : IntKind} {c i j : Nat} {xs : List Value} {y2 : Operand}
theorem Ex.cutLHv (hu : STy P t e sz) (hx : ev E x = some v) (hl : ev E y = some (.int k1 (i : Int))) (hh : ev E y2 = some (.int k2 (j : Int))) (h : Shp v c) (hij : i ≤ j) (hj : j ≤ c) : Ex P n E (.slice t x (some y) (some y2) none) ty w (cut v sz i j) := fun a ha _ _ _ _ => by
  obtain ⟨ao, cap, rfl, h1, h2, h3⟩ := h
  have hue : P.underlying t = some (.slice (P.elem t)) := by rw [Program.elem, hu.u]
  have he : P.elem t = e := by rw [Program.elem, hu.u]
  have hr := run_slice_lh (P := P) w t ao c cap hue k1 k2 (i : Int) (j : Int) (by omega) (by omega) (by omega)
  simp only [Int.toNat_natCast, he, hu.s w, Result.andThen_ok] at hr
  simp [execOp, ha.ev hx, ha.ev hl, ha.ev hh, Instr.sliceAt, run_underlying hu.u, hr, sliced, cut]
theorem Ex.cutLH (hu : STy P t e sz) (hx : ev E x = some v) (hl : ev E y = some (.int k1 (i : Int))) (hh : ev E y2 = some (.int k2 (j : Int))) (h : Sl w sz v c xs) (hij : i ≤ j) (hj : j ≤ c) : Ex P n E (.slice t x (some y) (some y2) none) ty w (cut v sz i j) :=
  Ex.cutLHv hu hx hl hh h.shp hij hj
theorem Ex.cutHv (hu : STy P t e sz) (hx : ev E x = some v) (hh : ev E y2 = some (.int k2 (j : Int))) (h : Shp v c) (hj : j ≤ c) : Ex P n E (.slice t x none (some y2) none) ty w (cut v sz 0 j) := fun a ha _ _ _ _ => by
  obtain ⟨ao, cap, rfl, h1, h2, h3⟩ := h
  have hue : P.underlying t = some (.slice (P.elem t)) := by rw [Program.elem, hu.u]
  have he : P.elem t = e := by rw [Program.elem, hu.u]
  have hr := run_slice_h (P := P) w t ao c cap hue k2 (j : Int) (by omega) (by omega)
  simp only [Int.toNat_natCast, he, hu.s w, Result.andThen_ok] at hr
  simp [execOp, ha.ev hx, ha.ev hh, Instr.sliceAt, run_underlying hu.u, hr, sliced, cut]
theorem Ex.cutH (hu : STy P t e sz) (hx : ev E x = some v) (hh : ev E y2 = some (.int k2 (j : Int))) (h : Sl w sz v c xs) (hj : j ≤ c) : Ex P n E (.slice t x none (some y2) none) ty w (cut v sz 0 j) := Ex.cutHv hu hx hh h.shp hj
/-- A cut up to a place within the room. -/
theorem Ex.extH {b cap : Nat} (hu : STy P t e sz) (hx : ev E x = some (.slice (some ⟨b, 0, none⟩) c cap)) (hh : ev E y2 = some (.int k2 (j : Int))) (hj : j ≤ cap) : Ex P n E (.slice t x none (some y2) none) ty w (.slice (some ⟨b, 0, none⟩) j cap) := fun a ha _ _ _ _ => by
  have hue : P.underlying t = some (.slice (P.elem t)) := by rw [Program.elem, hu.u]
  have he : P.elem t = e := by rw [Program.elem, hu.u]
  have hr := run_slice_h (P := P) w t (some ⟨b, 0, none⟩) c cap hue k2 (j : Int) (by omega) (by omega)
  simp only [Int.toNat_natCast, he, hu.s w, Result.andThen_ok] at hr
  simp [execOp, ha.ev hx, ha.ev hh, Instr.sliceAt, run_underlying hu.u, hr, sliced, add_lit]
theorem Ex.cutLv (hu : STy P t e sz) (hx : ev E x = some v) (hl : ev E y = some (.int k1 (i : Int))) (h : Shp v c) (hi : i ≤ c) : Ex P n E (.slice t x (some y) none none) ty w (cut v sz i c) := fun a ha _ _ _ _ => by
  obtain ⟨ao, cap, rfl, h1, h2, h3⟩ := h
  have hue : P.underlying t = some (.slice (P.elem t)) := by rw [Program.elem, hu.u]
  have he : P.elem t = e := by rw [Program.elem, hu.u]
  have hr := run_slice_l (P := P) w t ao c cap hue k1 (i : Int) (by omega) (by omega)
  simp only [Int.toNat_natCast, he, hu.s w, Result.andThen_ok] at hr
  simp [execOp, ha.ev hx, ha.ev hl, Instr.sliceAt, run_underlying hu.u, hr, sliced, cut]
theorem Ex.cutL (hu : STy P t e sz) (hx : ev E x = some v) (hl : ev E y = some (.int k1 (i : Int))) (h : Sl w sz v c xs) (hi : i ≤ c) : Ex P n E (.slice t x (some y) none none) ty w (cut v sz i c) := Ex.cutLv hu hx hl h.shp hi
end
end
end Go.Dd
