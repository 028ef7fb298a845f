/- The step layer, part 10: a piece of a region that draws its order, walked by itself; its ways meet again. Nothing here names a program. -/
import Derived.Test.YtkhndfaampkbnaaGreatDoorOwn
namespace Go.Dd
open Go Go.RowKit

/-- The same, with all but S as if listed. -/
def others (S : List Nat) (L : Array Bool) : Array Bool := ((List.range L.size).map fun i => L.getD i true || !S.contains i).toArray
def plus : List Nat → Array Bool → Array Bool
  | [], L => L
  | i :: S, L => plus S (L.setIfInBounds i true)

theorem others_size (S : List Nat) (L : Array Bool) : (others S L).size = L.size := by simp [others]
theorem others_get {S : List Nat} {L : Array Bool} {i : Nat} (d : Bool) (h : i < L.size) : (others S L).getD i d = (L.getD i true || !S.contains i) := by
  simp [others, h]
theorem plus_size : ∀ (S : List Nat) (L : Array Bool), (plus S L).size = L.size
  | [], _ => rfl
  | i :: S, L => by simp [plus, plus_size S]
theorem set_get (L : Array Bool) (i j : Nat) (d : Bool) (h : j < L.size) : (L.setIfInBounds i true).getD j d = (L.getD j d || i == j) := by
  by_cases hij : i = j
  · subst hij; simp [h]
  · simp [Array.getElem?_setIfInBounds_ne hij, hij]
theorem plus_get {d : Bool} : ∀ (S : List Nat) (L : Array Bool) (j : Nat), j < L.size → (plus S L).getD j d = (L.getD j d || S.contains j)
  | [], L, j, _ => by simp [plus]
  | i :: S, L, j, h => by
    rw [plus, plus_get S _ j (by simpa using h), set_get L i j d h, List.contains_cons, Bool.or_assoc]
    have e : (i == j) = (j == i) := by rw [Bool.eq_iff_iff]; simp only [beq_iff_eq]; exact eq_comm
    rw [e]
theorem bools_ext {A B : Array Bool} (hs : A.size = B.size) (h : ∀ i, i < A.size → A.getD i true = B.getD i true) : A = B := by
  apply Array.ext hs
  intro i h1 h2
  have := h i h1
  simpa [h1, h2] using this

section
variable {P : Program} {ops : Array Oper} {Q : Post} {T : Act → World → Prop}

theorem wpOp_then {i : Nat} {a : Act} {w : World} {K K' : Act → World → Prop} (h : wpOp P ops (Then T Q) i K a w) (hk : ∀ a w, K a w → K' a w) : wpOp P ops Q i K' a w := by
  refine wpOp_mono hk ?_
  unfold wpOp at *
  split
  · rename_i ho; simp only [ho] at h; exact h
  · rename_i o ho
    simp only [ho] at h
    split
    · rename_i hw
      simp only [hw, if_true] at h
      refine h.imp (fun h => ?_) (fun h => h)
      unfold Oper.wp at *
      generalize (execOp a.eval o).run P w = r at *
      cases r with
      | ok nx w' => cases nx <;> exact h
      | halt x w' => cases x <;> exact h
    · rename_i hw; simp only [hw] at h; exact h

def depsIn (ops : Array Oper) (S : List Nat) (L : Array Bool) (i : Nat) : Bool := match ops[i]? with
  | some o => o.after.all fun e => !Region.binds .any e || ((L.getD e.on false || S.contains e.on) && decide (e.on < i))
  | none => false
def heldBack (ops : Array Oper) (S : List Nat) (L : Array Bool) (t : Nat) : Bool := match ops[t]? with
  | some o => o.after.any fun e => Region.binds .any e && (!L.getD e.on false && !S.contains e.on)
  | none => true
def segB (ops : Array Oper) (S : List Nat) (b : Nat) (L : Array Bool) : Bool :=
  decide (L.size = ops.size) && decide S.Nodup && S.all (fun i => decide (i < ops.size) && !L.getD i true && depsIn ops S L i && (List.range ops.size).any fun j => decide (i < j) && (S.contains j || j == b) && Region.waitsFor .any ops j i) &&
  !S.contains b && (List.range ops.size).all fun t => L.getD t true || S.contains t || t == b || heldBack ops S L t

structure SegInv (ops : Array Oper) (S : List Nat) (L0 L : Array Bool) : Prop where
  size : L.size = ops.size
  ge : ∀ i, L0.getD i false = true → L.getD i false = true
  only : ∀ i, L.getD i false = true → L0.getD i false = true ∨ S.contains i = true
  closed : ∀ j o, S.contains j = true → ops[j]? = some o → L.getD j false = true → ∀ e ∈ o.after, Region.binds .any e = true → L.getD e.on false = true

theorem notyet {L : Array Bool} {i : Nat} (hi : i < L.size) : L.getD i true = L.getD i false := by simp [hi]

theorem seg_main {S : List Nat} {b : Nat} {L0 : Array Bool} {g : Nat} (hB : segB ops S b L0 = true) (k : ∀ a w, T a w → wpAny P .any ops Q g (plus S L0) a w) :
    ∀ (f : Nat) (L : Array Bool) (a : Act) (w : World), SegInv ops S L0 L → (S.filter fun i => !L.getD i true).length = f →
      wpAny P .any ops (Then T Q) f (others S L) a w → wpAny P .any ops Q (f + g) L a w := by
  simp only [segB, Bool.and_eq_true, decide_eq_true_eq, List.all_eq_true, List.mem_range, List.any_eq_true, Bool.or_eq_true, Bool.not_eq_true'] at hB
  obtain ⟨⟨⟨⟨hsz, hnd⟩, hS⟩, hbS⟩, hrest⟩ := hB
  intro f
  induction f with
  | zero =>
    intro L a w inv hc h
    have hall : ∀ i ∈ S, L.getD i true = true := fun i hi => by
      have h0 := List.eq_nil_of_length_eq_zero hc
      rw [List.filter_eq_nil_iff] at h0
      simpa using h0 i hi
    have : L = plus S L0 := by
      refine bools_ext (by rw [plus_size, inv.size, hsz]) fun i hi => ?_
      have hi0 : i < L0.size := by rw [hsz, ← inv.size]; exact hi
      rw [plus_get _ _ _ hi0, notyet hi, notyet hi0]
      cases h0 : L.getD i false with
      | true =>
        rcases inv.only i h0 with h1 | h1
        · rw [h1]; rfl
        · rw [h1, Bool.or_true]
      | false =>
        cases h1 : L0.getD i false with
        | true => rw [inv.ge i h1] at h0; cases h0
        | false =>
          cases h2 : S.contains i with
          | false => rfl
          | true =>
            have := hall i (by simpa using h2)
            rw [notyet hi, h0] at this
            cases this
    rw [Nat.zero_add, this]
    exact k a w h.2
  | succ f ih =>
    intro L a w inv hc h
    -- the ready ones are the same
    have hmem : ∀ i, i ∈ Region.ready .any ops L ↔ i ∈ Region.ready .any ops (others S L) := by
      intro i
      rw [mem_ready, mem_ready]
      constructor
      · rintro ⟨h1, o, ho, h2⟩
        have hi : i < ops.size := (Array.getElem?_eq_some_iff.1 ho).1
        have hiL : i < L.size := by rw [inv.size]; exact hi
        have hiS : S.contains i = true := by
          refine Classical.byContradiction fun hn => ?_
          have hn : S.contains i = false := by simpa using hn
          rcases hrest i hi with ((h3 | h3) | h3) | h3
          · have h4 : L0.getD i false = true := by rw [← notyet (by omega)]; exact h3
            have := inv.ge i h4
            rw [← notyet hiL, h1] at this; cases this
          · rw [hn] at h3; cases h3
          · -- the barrier waits
            have h3 : i = b := by simpa using h3
            have key : ∀ d j, ops.size - j = d → S.contains j = true → L.getD j true = false → False := by
              intro d
              induction d using Nat.strongRecOn with
              | _ d ihd =>
                intro j hd hj hun
                obtain ⟨⟨⟨hjs, _⟩, _⟩, t, ht, ⟨hjt, htS⟩, hw⟩ := hS j (by simpa using hj)
                obtain ⟨ot, hot, e, he, hbn, hon⟩ := Region.waitsFor_spec hw
                rcases htS with htS | htb
                · cases hl : L.getD t true with
                  | false => exact ihd (ops.size - t) (by omega) t rfl htS hl
                  | true =>
                    have htL : t < L.size := by rw [inv.size]; exact ht
                    have h5 := inv.closed t ot htS hot (by rw [← notyet htL]; exact hl) e he hbn
                    rw [hon, ← notyet (by rw [inv.size]; exact hjs), hun] at h5
                    cases h5
                · have htb : t = b := by simpa using htb
                  have : ot = o := by rw [htb, ← h3] at hot; exact Option.some.inj (hot.symm.trans ho)
                  subst this
                  have h5 := h2 e he hbn
                  rw [hon, ← notyet (by rw [inv.size]; exact hjs), hun] at h5
                  cases h5
            have hex : ∃ j ∈ S, L.getD j true = false := by
              have hne : (S.filter fun i => !L.getD i true) ≠ [] := fun h0 => by rw [h0] at hc; cases hc
              obtain ⟨j, hj⟩ := List.exists_mem_of_ne_nil _ hne
              rw [List.mem_filter] at hj
              exact ⟨j, hj.1, by simpa using hj.2⟩
            obtain ⟨j, hj, hun⟩ := hex
            exact key _ j rfl (by simpa using hj) hun
          · simp only [heldBack, ho] at h3
            obtain ⟨e, he, hb⟩ := Array.any_eq_true'.1 h3
            simp only [Bool.and_eq_true, Bool.not_eq_true'] at hb
            have h4 := h2 e he hb.1
            rcases inv.only _ h4 with h5 | h5
            · rw [hb.2.1] at h5; cases h5
            · rw [hb.2.2] at h5; cases h5
        refine ⟨by rw [others_get _ hiL, h1, hiS]; rfl, o, ho, fun e he hb => ?_⟩
        have h4 := h2 e he hb
        have heL : e.on < L.size := by
          rcases Nat.lt_or_ge e.on L.size with h | h
          · exact h
          · simp [Array.getElem?_eq_none h] at h4
        rw [others_get _ heL, notyet heL, h4]; rfl
      · rintro ⟨h1, o, ho, h2⟩
        have hi : i < ops.size := (Array.getElem?_eq_some_iff.1 ho).1
        have hiL : i < L.size := by rw [inv.size]; exact hi
        rw [others_get _ hiL, Bool.or_eq_false_iff] at h1
        have hiS : S.contains i = true := by simpa using h1.2
        refine ⟨h1.1, o, ho, fun e he hb => ?_⟩
        have h4 := h2 e he hb
        have heL : e.on < L.size := by
          rcases Nat.lt_or_ge e.on L.size with h | h
          · exact h
          · simp [Array.getElem?_eq_none (show (others S L).size ≤ e.on by rw [others_size]; exact h)] at h4
        rw [others_get _ heL, notyet heL, Bool.or_eq_true] at h4
        rcases h4 with h4 | h4
        · exact h4
        · have hd := (hS i (by simpa using hiS)).1.2
          simp only [depsIn, ho] at hd
          have h5 := Array.all_eq_true_iff_forall_mem.1 hd e he
          simp only [hb, Bool.not_true, Bool.false_or, Bool.and_eq_true, Bool.or_eq_true] at h5
          rcases h5.1 with h6 | h6
          · exact inv.ge _ h6
          · rw [h6] at h4; cases h4
    have hlist : Region.ready .any ops L = Region.ready .any ops (others S L) := by
      unfold Region.ready
      refine List.filter_congr fun i hi => ?_
      have h1 := hmem i
      unfold Region.ready at h1
      rw [List.mem_filter, List.mem_filter] at h1
      have h2 := List.mem_range.1 hi
      simp only [hi, true_and] at h1
      exact Bool.eq_iff_iff.2 h1
    -- one of them is there
    have hne : Region.ready .any ops L ≠ [] := by
      have hex : ∃ j ∈ S, L.getD j true = false := by
        have hne : (S.filter fun i => !L.getD i true) ≠ [] := fun h0 => by rw [h0] at hc; cases hc
        obtain ⟨j, hj⟩ := List.exists_mem_of_ne_nil _ hne
        rw [List.mem_filter] at hj
        exact ⟨j, hj.1, by simpa using hj.2⟩
      have key : ∀ j, j ∈ S → L.getD j true = false → ∃ i, i ∈ Region.ready .any ops L := by
        intro j
        induction j using Nat.strongRecOn with
        | _ j ihj =>
          intro hj hun
          obtain ⟨⟨⟨hjs, _⟩, hd⟩, _⟩ := hS j hj
          cases ho : ops[j]? with
          | none => simp [depsIn, ho] at hd
          | some o =>
            simp only [depsIn, ho] at hd
            by_cases hall : ∀ e ∈ o.after, Region.binds .any e = true → L.getD e.on false = true
            · exact ⟨j, mem_ready.2 ⟨hun, o, ho, hall⟩⟩
            · simp only [Classical.not_forall] at hall
              obtain ⟨e, he, hb, hnl⟩ := hall
              have h5 := Array.all_eq_true_iff_forall_mem.1 hd e he
              simp only [hb, Bool.not_true, Bool.false_or, Bool.and_eq_true, Bool.or_eq_true, decide_eq_true_eq] at h5
              rcases h5.1 with h6 | h6
              · exact absurd (inv.ge _ h6) hnl
              · have heL : e.on < L.size := by rw [inv.size]; omega
                exact ihj e.on h5.2 (by simpa using h6) (by rw [notyet heL]; simpa using hnl)
      obtain ⟨j, hj, hun⟩ := hex
      obtain ⟨i, hi⟩ := key j hj hun
      intro h0; rw [h0] at hi; cases hi
    rw [show f + 1 + g = (f + g) + 1 by omega]
    refine ⟨fun h0 => absurd h0 hne, fun i hi => ?_⟩
    have hi2 := (hmem i).1 hi
    refine wpOp_then (h.2 i hi2) fun a' w' h' => ?_
    obtain ⟨hun, o, ho, hdeps⟩ := mem_ready.1 hi
    have his : i < ops.size := (Array.getElem?_eq_some_iff.1 ho).1
    have hiL : i < L.size := by rw [inv.size]; exact his
    have hiS : S.contains i = true := by
      have := (mem_ready.1 hi2).1
      rw [others_get _ hiL, Bool.or_eq_false_iff] at this
      simpa using this.2
    have hoth : others S (L.setIfInBounds i true) = (others S L).setIfInBounds i true := by
      refine bools_ext (by simp [others_size]) fun j hj => ?_
      have hjL : j < L.size := by simpa [others_size] using hj
      rw [others_get _ (by simpa using hjL), set_get L i j true hjL, set_get (others S L) i j true (by rw [others_size]; exact hjL), others_get _ hjL, Bool.or_assoc, Bool.or_assoc, Bool.or_comm (i == j)]
    refine ih (L.setIfInBounds i true) a' w' ⟨by simpa using inv.size, fun j hj => getD_set_true (inv.ge j hj), fun j hj => ?_, fun j oj hjS hoj hj e he hb => ?_⟩ ?_ (by rw [hoth]; exact h')
    · by_cases hij : i = j
      · subst hij; exact .inr hiS
      · rw [getD_set_ne false hij] at hj; exact inv.only j hj
    · by_cases hij : i = j
      · subst hij
        have : oj = o := Option.some.inj (hoj.symm.trans ho)
        subst this
        exact getD_set_true (hdeps e he hb)
      · rw [getD_set_ne false hij] at hj
        exact getD_set_true (inv.closed j oj hjS hoj hj e he hb)
    · have hmemS : i ∈ S := by simpa using hiS
      have hsz' : ∀ j ∈ S, j < L.size := fun j hj => by rw [inv.size]; exact (hS j hj).1.1.1
      clear h h' hlist hmem hne hi hi2 k ih hS hrest
      have gen : ∀ (S : List Nat), S.Nodup → i ∈ S → (∀ j ∈ S, j < L.size) → (S.filter fun j => !(L.setIfInBounds i true).getD j true).length + 1 = (S.filter fun j => !L.getD j true).length := by
        intro S
        induction S with
        | nil => intro _ h; cases h
        | cons x S ihS =>
          intro hnd hi hlt
          rw [List.nodup_cons] at hnd
          have hx := hlt x (by simp)
          by_cases hxi : x = i
          · subst hxi
            have h1 : ∀ j ∈ S, (!(L.setIfInBounds x true).getD j true) = !L.getD j true := fun j hj => by
              rw [getD_set_ne true (by rintro rfl; exact hnd.1 hj)]
            have h2 : (!(L.setIfInBounds x true).getD x true) = false := by rw [set_get _ _ _ _ hx]; simp
            rw [List.filter_cons, List.filter_cons, h2, List.filter_congr h1]
            have h3 : (!L.getD x true) = true := by rw [hun]; rfl
            rw [h3]
            simp
          · have hi' : i ∈ S := by
              rcases List.mem_cons.1 hi with h | h
              · exact absurd h.symm hxi
              · exact h
            have h1 := ihS hnd.2 hi' fun j hj => hlt j (by simp [hj])
            rw [List.filter_cons, List.filter_cons, getD_set_ne true (Ne.symm hxi)]
            cases hl : L.getD x true with
            | true => simp only [Bool.not_true, Bool.false_eq_true, if_false]; exact h1
            | false => simp only [Bool.not_false, if_true, List.length_cons]; omega
      have := gen S hnd hmemS hsz'
      omega
end

section
variable {P : Program} {Q : Post} {n : Nat} {E : Env} {w : World} {l0 : List Oper}
/-- A piece of a region by itself: S, behind which all waits for b. -/
theorem Aw.seg {St : Type} {f g : Nat} {L0 : Array Bool} (S : List Nat) (b : Nat) (Ei : St → Env) (I : St → World → Prop) (hB : segB l0.toArray S b L0 = true) (hf : S.length + g = f)
    (h : Aw P l0 (Then (fun a' w' => ∃ s, Fits n (Ei s) a' ∧ I s w') Q) n S.length (others S L0) E w)
    (k : ∀ s w', I s w' → Aw P l0 Q n g (plus S L0) (Ei s) w') : Aw P l0 Q n f L0 E w := fun a ha => by
  subst hf
  have hB' := hB
  simp only [segB, Bool.and_eq_true, decide_eq_true_eq, List.all_eq_true] at hB'
  obtain ⟨⟨⟨⟨hsz, _⟩, hS⟩, _⟩, _⟩ := hB'
  refine seg_main hB (fun a' w' ⟨s, hf, hi⟩ => k s w' hi a' hf) S.length L0 a w ⟨hsz, fun _ h => h, fun _ h => .inl h, fun j o hj ho hl => ?_⟩ ?_ (h a ha)
  · have hj' := hS j (by simpa using hj)
    have h1 : L0.getD j true = false := by simpa using hj'.1.1.2
    rw [notyet (by rw [hsz]; exact (Array.getElem?_eq_some_iff.1 ho).1), hl] at h1
    cases h1
  · congr 1
    rw [List.filter_eq_self]
    intro i hi
    exact (hS i hi).1.1.2
theorem Pw.seg {St : Type} {Ei : St → Env} {I : St → World → Prop} (s : St) (hE : Sub E (Ei s)) (hI : I s w) : Pw n E (fun a' w' => ∃ s, Fits n (Ei s) a' ∧ I s w') w := fun _ ha => ⟨s, ha.sub hE, hI⟩
end

/-! ### In a class of worlds: what only looks is taken first -/
section
variable {P : Program} {ops : Array Oper} {Q : Post} {C : World → Prop}
def wpAnyC (P : Program) (ops : Array Oper) (Q : Post) (C : World → Prop) : Nat → Array Bool → Act → World → Prop
  | 0, listed, a, w => Region.ready .any ops listed = [] ∧ Q .normal a w
  | fuel + 1, listed, a, w =>
    (Region.ready .any ops listed = [] → Q .normal a w) ∧
    ∀ i ∈ Region.ready .any ops listed, wpOp P ops Q i (fun a' w' => C w' ∧ wpAnyC P ops Q C fuel (listed.setIfInBounds i true) a' w') a w
theorem wpAny_of_C : ∀ (fuel : Nat) (listed : Array Bool) (a : Act) (w : World), wpAnyC P ops Q C fuel listed a w → wpAny P .any ops Q fuel listed a w
  | 0, _, _, _, h => h
  | fuel + 1, _, _, _, h => ⟨h.1, fun i hi => wpOp_mono (fun _ _ h' => wpAny_of_C fuel _ _ _ h'.2) (h.2 i hi)⟩

def YieldsC (P : Program) (ops : Array Oper) (C : World → Prop) (o : Oper) (v : Value) (a : Act) : Prop :=
  (Region.wanted o (yielded ops a.tmps) = true ∧ ∀ w, C w → (execOp a.eval o).run P w = .ok (.value v) w) ∨
  (Region.wanted o (yielded ops a.tmps) = false ∧ v = undef)
theorem YieldsC.of_same {o : Oper} {v : Value} {a a' : Act} (hy : YieldsC P ops C o v a) (he : execOp a'.eval o = execOp a.eval o)
    (hw : Region.wanted o (yielded ops a'.tmps) = Region.wanted o (yielded ops a.tmps)) : YieldsC P ops C o v a' := by
  unfold YieldsC at *
  rw [he, hw]
  exact hy
theorem YieldsC.wpOp {i : Nat} {o : Oper} {v : Value} {a : Act} (hi : ops[i]? = some o) (hy : YieldsC P ops C o v a)
    {K : Act → World → Prop} {w : World} (hC : C w) (h : K (a.put o.dst v) w) : wpOp P ops Q i K a w := by
  unfold Go.wpOp
  simp only [hi]
  rcases hy with ⟨hw, hv⟩ | ⟨hw, rfl⟩
  · simp only [hw, if_true, Oper.wp, hv w hC, Oper.upon]; exact .inl h
  · simp only [hw, Bool.false_eq_true, if_false]; exact h
theorem wpOp_putC {j : Nat} {oi oj : Oper} {v : Value} (hj : ops[j]? = some oj) (hap : oi.apart ops oj = true)
    (hsi : ∀ cs b, oi.op ≠ .select cs b) (hsj : ∀ cs b, oj.op ≠ .select cs b)
    (hQ : ∀ c a w, Q (.panic c) (a.put oi.dst v) w → Q (.panic c) a w) {K : Act → World → Prop} {a : Act} {w : World}
    (hy : YieldsC P ops C oi v a) (h : wpOp P ops Q j K (a.put oi.dst v) w) :
    wpOp P ops Q j (fun a' w' => YieldsC P ops C oi v a' ∧ K (a'.put oi.dst v) w') a w := by
  obtain ⟨h1, h2, h3⟩ := Oper.apart_spec hap
  have keep : ∀ (a : Act), YieldsC P ops C oi v a → ∀ u, YieldsC P ops C oi v (a.put oj.dst u) := fun a hy u =>
    hy.of_same (execOp_put oi hsi a oj.dst u h3) (wanted_put oi a oj.dst u h3)
  have keepD : ∀ d, YieldsC P ops C oi v { a with defers := d :: a.defers } := fun d => hy.of_same rfl rfl
  unfold wpOp at *
  simp only [hj] at *
  rw [wanted_put oj a oi.dst v h1] at h
  split
  · rename_i hw
    simp only [hw, if_true] at h
    rcases h with h | ⟨hasks, hlets⟩
    case inr => exact .inr ⟨by unfold Oper.asks at *; rw [execOp_put oj hsj a oi.dst v h1] at hasks; exact hasks, hlets⟩
    refine .inl ?_
    unfold Oper.wp at *
    rw [execOp_put oj hsj a oi.dst v h1] at h
    generalize (execOp a.eval oj).run P w = r at *
    cases r with
    | ok n w' =>
      cases n <;> simp only [Oper.upon] at h ⊢
      case value u => exact ⟨keep a hy u, by rw [← Act.put_comm a v u h2]; exact h⟩
      case skip => exact ⟨keep a hy _, by rw [← Act.put_comm a v undef h2]; exact h⟩
      case defer d =>
        refine ⟨keep _ (keepD d) _, ?_⟩
        rw [← Act.put_comm _ v undef h2, ← Act.put_defers]
        exact h
      case enter f args =>
        refine Calls.mono h fun e w'' he => ?_
        cases e with
        | returned u => exact ⟨keep a hy u, by rw [← Act.put_comm a v u h2]; exact he⟩
        | panicked c => exact hQ _ _ _ he
        | outgrown => exact he
      case row row args => exact Rows.mono h fun u w'' he => ⟨keep a hy u, by rw [← Act.put_comm a v u h2]; exact he⟩
    | halt x w' =>
      cases x <;> simp only [Oper.upon] at h ⊢
      case panic u => exact hQ _ _ _ h
  · rename_i hw
    simp only [hw] at h
    exact ⟨keep a hy _, by rw [← Act.put_comm a v undef h2]; exact h⟩
theorem wpAnyC_first {i : Nat} {oi : Oper} {v : Value} (hi : ops[i]? = some oi) (hsel : ∀ (j : Nat) (o : Oper) cs b, ops[j]? = some o → o.op ≠ .select cs b)
    (hQ : ∀ c a w, Q (.panic c) (a.put oi.dst v) w → Q (.panic c) a w) :
    ∀ (fuel : Nat) (listed : Array Bool) (a : Act) (w : World), C w →
      (∀ j oj, ops[j]? = some oj → j ≠ i → listed.getD j true = false → (∀ e ∈ oj.after, Region.binds .any e = true → e.on ≠ i) → oi.apart ops oj = true) →
      i ∈ Region.ready .any ops listed → YieldsC P ops C oi v a →
      wpAnyC P ops Q C fuel (listed.setIfInBounds i true) (a.put oi.dst v) w → wpAnyC P ops Q C (fuel + 1) listed a w := by
  intro fuel
  induction fuel with
  | zero =>
    intro listed a w hC _ hr hy H
    refine ⟨fun h => (by rw [h] at hr; cases hr), fun j hj => ?_⟩
    by_cases hji : j = i
    · subst hji; exact hy.wpOp hi hC ⟨hC, H⟩
    · have := ready_mono hj hji
      rw [H.1] at this
      cases this
  | succ fuel ih =>
    intro listed a w hC hfree hr hy H
    refine ⟨fun h => (by rw [h] at hr; cases hr), fun j hj => ?_⟩
    by_cases hji : j = i
    · subst hji; exact hy.wpOp hi hC ⟨hC, H⟩
    · have h1 := H.2 j (ready_mono hj hji)
      obtain ⟨hjun, oj, hoj, hall⟩ := mem_ready.1 hj
      have hnot : ∀ e ∈ oj.after, Region.binds .any e = true → e.on ≠ i := fun e he hb heq => by
        have h1 := hall e he hb
        have h0 := (mem_ready.1 hr).1
        rw [heq] at h1
        rcases Nat.lt_or_ge i listed.size with h' | h'
        · simp [h'] at h0 h1; rw [h0] at h1; cases h1
        · simp [Array.getElem?_eq_none h'] at h1
      have h2 := wpOp_putC hoj (hfree j oj hoj hji hjun hnot) (fun cs b => hsel i oi cs b hi) (fun cs b => hsel j oj cs b hoj) hQ hy h1
      have hfree' : ∀ k ok, ops[k]? = some ok → k ≠ i → (listed.setIfInBounds j true).getD k true = false →
          (∀ e ∈ ok.after, Region.binds .any e = true → e.on ≠ i) → oi.apart ops ok = true := fun k ok hk hki hun hno => by
        refine hfree k ok hk hki ?_ hno
        by_cases hjk : j = k
        · subst hjk; exact hjun
        · rw [getD_set_ne true hjk] at hun; exact hun
      refine wpOp_mono (fun a' w' h3 => ⟨h3.2.1, ih (listed.setIfInBounds j true) a' w' h3.2.1 hfree' (ready_mono hr (Ne.symm hji)) h3.1 ?_⟩) h2
      rw [Array.setIfInBounds_comm _ _ hji]
      exact h3.2.2
end

section
variable {P : Program} {Q : Post} {n : Nat} {E : Env} {w : World} {l0 : List Oper} {ty : TypeId} {pos : String} {af : Array Edge} {C : World → Prop}
/-- Any order, all worlds of a class. -/
def AwC (P : Program) (l0 : List Oper) (Q : Post) (C : World → Prop) (n fuel : Nat) (listed : Array Bool) (E : Env) (w : World) : Prop := C w ∧ ∀ a, Fits n E a → wpAnyC P l0.toArray Q C fuel listed a w
theorem Aw.cls {fuel : Nat} {listed : Array Bool} (C : World → Prop) (h : C w → AwC P l0 Q C n fuel listed E w) (hC : C w) : Aw P l0 Q n fuel listed E w := fun a ha => wpAny_of_C _ _ _ _ ((h hC).2 a ha)
theorem AwC.take {i d fuel : Nat} {op : Op} {v : Value} {listed : Array Bool} (hQ : NoP Q) (hi : nth l0 i = some ⟨some d, op, ty, pos, af, none⟩) (hs : Region.noSelect l0.toArray = true) (hf : Region.free .any l0.toArray listed i = true)
    (hr : (Region.ready .any l0.toArray listed).contains i = true) (h : ∀ w, C w → Ex P n E op ty w v) (hd : Nat.blt d n = true) (k : AwC P l0 Q C n fuel (listed.setIfInBounds i true) ((d, v) :: E) w) : AwC P l0 Q C n (fuel + 1) listed E w := ⟨k.1, fun a ha =>
  wpAnyC_first (by rw [List.getElem?_toArray, nth_eq]; exact hi) (Region.noSelect_spec hs) (fun c a' w' hq => absurd hq (hQ _ _ _)) fuel listed a w k.1 (Region.free_spec (by rw [List.getElem?_toArray, nth_eq]; exact hi) hf) (by simpa using hr)
    (.inl ⟨by simp [Region.wanted], fun w' hw' => h w' hw' a ha (some d) pos af none⟩) (k.2 _ (ha.put v hd))⟩
theorem AwC.takeG {i d j dj fuel : Nat} {op : Op} {v : Value} {g : Bool} {listed : Array Bool} (hQ : NoP Q) (hi : nth l0 i = some ⟨some d, op, ty, pos, af, some (j, g)⟩) (hj : (nth l0 j).bind (·.dst) = some dj) (hg : get E dj = some (.bool g)) (hs : Region.noSelect l0.toArray = true) (hf : Region.free .any l0.toArray listed i = true)
    (hr : (Region.ready .any l0.toArray listed).contains i = true) (h : ∀ w, C w → Ex P n E op ty w v) (hd : Nat.blt d n = true) (k : AwC P l0 Q C n fuel (listed.setIfInBounds i true) ((d, v) :: E) w) : AwC P l0 Q C n (fuel + 1) listed E w := ⟨k.1, fun a ha =>
  wpAnyC_first (by rw [List.getElem?_toArray, nth_eq]; exact hi) (Region.noSelect_spec hs) (fun c a' w' hq => absurd hq (hQ _ _ _)) fuel listed a w k.1 (Region.free_spec (by rw [List.getElem?_toArray, nth_eq]; exact hi) hf) (by simpa using hr)
    (.inl ⟨by simp [Region.wanted, yielded_of ha hj hg], fun w' hw' => h w' hw' a ha (some d) pos af (some (j, g))⟩) (k.2 _ (ha.put v hd))⟩
theorem AwC.passG {i d j dj fuel : Nat} {op : Op} {g g' : Bool} {listed : Array Bool} (hQ : NoP Q) (hi : nth l0 i = some ⟨some d, op, ty, pos, af, some (j, g)⟩) (hj : (nth l0 j).bind (·.dst) = some dj) (hg : get E dj = some (.bool g')) (hne : (g == g') = false) (hs : Region.noSelect l0.toArray = true) (hf : Region.free .any l0.toArray listed i = true)
    (hr : (Region.ready .any l0.toArray listed).contains i = true) (hd : Nat.blt d n = true) (k : AwC P l0 Q C n fuel (listed.setIfInBounds i true) ((d, undef) :: E) w) : AwC P l0 Q C n (fuel + 1) listed E w := ⟨k.1, fun a ha =>
  wpAnyC_first (by rw [List.getElem?_toArray, nth_eq]; exact hi) (Region.noSelect_spec hs) (fun c a' w' hq => absurd hq (hQ _ _ _)) fuel listed a w k.1 (Region.free_spec (by rw [List.getElem?_toArray, nth_eq]; exact hi) hf) (by simpa using hr)
    (.inr ⟨by simp only [Region.wanted, yielded_of ha hj hg]; cases g <;> cases g' <;> simp_all, rfl⟩) (k.2 _ (ha.put undef hd))⟩
theorem AwC.passN {i d j dj fuel : Nat} {op : Op} {g : Bool} {listed : Array Bool} (hQ : NoP Q) (hi : nth l0 i = some ⟨some d, op, ty, pos, af, some (j, g)⟩) (hj : (nth l0 j).bind (·.dst) = some dj) (hg : get E dj = some undef) (hs : Region.noSelect l0.toArray = true) (hf : Region.free .any l0.toArray listed i = true)
    (hr : (Region.ready .any l0.toArray listed).contains i = true) (hd : Nat.blt d n = true) (k : AwC P l0 Q C n fuel (listed.setIfInBounds i true) ((d, undef) :: E) w) : AwC P l0 Q C n (fuel + 1) listed E w := ⟨k.1, fun a ha =>
  wpAnyC_first (by rw [List.getElem?_toArray, nth_eq]; exact hi) (Region.noSelect_spec hs) (fun c a' w' hq => absurd hq (hQ _ _ _)) fuel listed a w k.1 (Region.free_spec (by rw [List.getElem?_toArray, nth_eq]; exact hi) hf) (by simpa using hr)
    (.inr ⟨by simp [Region.wanted, yielded_no ha hj hg], rfl⟩) (k.2 _ (ha.put undef hd))⟩
theorem AwC.part {fuel : Nat} {listed : Array Bool} (d : Nat) {g : Bool} (hd : get E d = some (.bool g)) (yes : g = true → AwC P l0 Q C n fuel listed ((d, .bool true) :: E) w) (no : g = false → AwC P l0 Q C n fuel listed ((d, .bool false) :: E) w) : AwC P l0 Q C n fuel listed E w := by
  have key : ∀ b, g = b → AwC P l0 Q C n fuel listed ((d, .bool b) :: E) w → AwC P l0 Q C n fuel listed E w := fun b hb h => ⟨h.1, fun a ha => h.2 a <| by
    subst hb
    refine ⟨ha.dfr, ha.size, fun i u hu => ?_⟩
    by_cases hi : d = i
    · subst hi; rw [get_cons_self] at hu; exact ha.has _ _ (hd.trans hu)
    · rw [get_cons_ne _ _ hi] at hu; exact ha.has _ _ hu⟩
  cases g with
  | true => exact key true rfl (yes rfl)
  | false => exact key false rfl (no rfl)
theorem AwC.know {fuel : Nat} {listed : Array Bool} (d : Nat) {v v' : Value} (hd : get E d = some v) (hv : v = v') (h : AwC P l0 Q C n fuel listed ((d, v') :: E) w) : AwC P l0 Q C n fuel listed E w := ⟨h.1, fun a ha => h.2 a <| by
  subst hv
  refine ⟨ha.dfr, ha.size, fun i u hu => ?_⟩
  by_cases hi : d = i
  · subst hi; rw [get_cons_self] at hu; exact ha.has _ _ (hd.trans hu)
  · rw [get_cons_ne _ _ hi] at hu; exact ha.has _ _ hu⟩
theorem Aw.know {fuel : Nat} {listed : Array Bool} (d : Nat) {v v' : Value} (hd : get E d = some v) (hv : v = v') (h : Aw P l0 Q n fuel listed ((d, v') :: E) w) : Aw P l0 Q n fuel listed E w := fun a ha => h a <| by
  subst hv
  refine ⟨ha.dfr, ha.size, fun i u hu => ?_⟩
  by_cases hi : d = i
  · subst hi; rw [get_cons_self] at hu; exact ha.has _ _ (hd.trans hu)
  · rw [get_cons_ne _ _ hi] at hu; exact ha.has _ _ hu
theorem AwC.done {fuel : Nat} {listed : Array Bool} (hC : C w) (hr : Region.ready .any l0.toArray listed = []) (h : Pw n E (Q .normal) w) : AwC P l0 Q C n fuel listed E w := ⟨hC, fun a ha => by
  cases fuel with
  | zero => exact ⟨hr, h a ha⟩
  | succ f => exact ⟨fun _ => h a ha, by rw [hr]; simp⟩⟩
theorem AwC.all {fuel : Nat} {listed : Array Bool} (hC : C w) (rs : List Nat) (hr : Region.ready .any l0.toArray listed = rs) (hne : rs ≠ [])
    (h : ∀ i ∈ rs, ∀ o, nth l0 i = some o → Lw P l0 (Then (fun a' w' => C w' ∧ wpAnyC P l0.toArray Q C fuel (listed.setIfInBounds i true) a' w') Q) n [o] E w) : AwC P l0 Q C n (fuel + 1) listed E w := ⟨hC, fun a ha =>
  ⟨fun h0 => absurd (hr ▸ h0) hne, fun i hi => by
    have hi' : i ∈ rs := hr ▸ hi
    obtain ⟨_, o, ho, _⟩ := mem_ready.1 hi
    have ho' : nth l0 i = some o := by rw [← nth_eq, ← List.getElem?_toArray]; exact ho
    have h1 := h i hi' o ho' a ha
    unfold wpList at h1
    unfold wpOp
    simp only [ho]
    have hK : wpList P l0.toArray (Then (fun a' w' => C w' ∧ wpAnyC P l0.toArray Q C fuel (listed.setIfInBounds i true) a' w') Q) [] = fun a' w' => C w' ∧ wpAnyC P l0.toArray Q C fuel (listed.setIfInBounds i true) a' w' := by
      funext a' w'; rfl
    rw [hK] at h1
    split at h1
    · rename_i hw
      rw [if_pos hw]
      refine h1.imp (fun h => ?_) (fun h => h)
      unfold Oper.wp at *
      generalize (execOp a.eval o).run P w = r at *
      cases r with
      | ok nx w' => cases nx <;> exact h
      | halt x w' => cases x <;> exact h
    · rename_i hw
      rw [if_neg hw]; exact h1⟩⟩
theorem AwC.only {i fuel : Nat} {o : Oper} {listed : Array Bool} (hC : C w) (hr : Region.ready .any l0.toArray listed = [i]) (ho : nth l0 i = some o)
    (h : Lw P l0 (Then (fun a' w' => C w' ∧ wpAnyC P l0.toArray Q C fuel (listed.setIfInBounds i true) a' w') Q) n [o] E w) : AwC P l0 Q C n (fuel + 1) listed E w :=
  AwC.all hC [i] hr (by simp) fun j hj o' ho' => by
    obtain rfl : j = i := by simpa using hj
    obtain rfl : o' = o := Option.some.inj (ho'.symm.trans ho)
    exact h
theorem AwC.two {i j fuel : Nat} {o q : Oper} {listed : Array Bool} (hC : C w) (hr : Region.ready .any l0.toArray listed = [i, j]) (ho : nth l0 i = some o) (hq : nth l0 j = some q)
    (h : Lw P l0 (Then (fun a' w' => C w' ∧ wpAnyC P l0.toArray Q C fuel (listed.setIfInBounds i true) a' w') Q) n [o] E w)
    (k : Lw P l0 (Then (fun a' w' => C w' ∧ wpAnyC P l0.toArray Q C fuel (listed.setIfInBounds j true) a' w') Q) n [q] E w) : AwC P l0 Q C n (fuel + 1) listed E w :=
  AwC.all hC [i, j] hr (by simp) fun m hm o' ho' => by
    rcases List.mem_cons.1 hm with rfl | hm
    · obtain rfl : o' = o := Option.some.inj (ho'.symm.trans ho)
      exact h
    · obtain rfl : m = j := by simpa using hm
      obtain rfl : o' = q := Option.some.inj (ho'.symm.trans hq)
      exact k
theorem AwC.back {fuel : Nat} {listed : Array Bool} {l1 : List Oper} (h : AwC P l0 Q C n fuel listed E w) : Lw P l1 (Then (fun a' w' => C w' ∧ wpAnyC P l0.toArray Q C fuel listed a' w') Q) n [] E w := fun a ha => wpList_nil ⟨h.1, h.2 a ha⟩
end

/-! ### Code that comes to its end, with a frame that is told, by a state -/
section
variable {P : Program} {n : Nat} {E : Env} {w : World}
def MidS {St : Type} (n : Nat) (Ei : St → Env) (I : St → World → Prop) : Post := fun x a w => x = .normal ∧ ∃ s, Fits n (Ei s) a ∧ I s w
theorem Cw.midS {St : Type} {c : Code} (Ei : St → Env) (I : St → World → Prop) {K : Act → World → Prop} {Q : Post} (h : Cw P (MidS n Ei I) n c E w) (k : ∀ s w', I s w' → Pw n (Ei s) K w') : Cw P (Then K Q) n c E w := fun a ha =>
  Code.wp_mono (fun x a' w' hm => by
    obtain ⟨rfl, s, hf, hi⟩ := hm
    exact k s w' hi a' hf) (h a ha)
theorem Pw.midS {St : Type} {Ei : St → Env} {I : St → World → Prop} (s : St) (hs : Sub E (Ei s)) (hi : I s w) : Pw n E (MidS n Ei I .normal) w := fun _ ha => ⟨rfl, s, ha.sub hs, hi⟩
theorem NoP.midS {St : Type} {Ei : St → Env} {I : St → World → Prop} : NoP (MidS n Ei I) := fun _ _ _ h => by cases h.1
theorem NoP.mid {F : Env} {I : World → Prop} : NoP (Mid n F I) := fun _ _ _ h => by cases h.1
end
end Go.Dd
