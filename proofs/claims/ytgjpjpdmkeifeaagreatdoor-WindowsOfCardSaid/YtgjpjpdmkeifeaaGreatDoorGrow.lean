/- The step layer, part 15: operations of a drawn region that only add to memory, in any order: each is walked once. Nothing here names a program. -/
import Derived.Test.YtgjpjpdmkeifeaaGreatDoorSeg
namespace Go.Dd
open Go Go.RowKit

/-- An operation: its number, those that it needs of these, what it brings. -/
abbrev Item := Nat × List Nat × (Value → World → Prop)
def dstAt (l0 : List Oper) (i : Nat) : Nat := ((nth l0 i).bind (·.dst)).getD 0
def look : List Item → Nat → Value → World → Prop
  | [], _ => fun _ _ => True
  | (j, _, p) :: r, i => match Nat.beq j i with
    | true => p
    | false => look r i
def envAt (l0 : List Oper) : List Nat → (Nat → Value) → Env
  | [], _ => []
  | j :: r, vs => (dstAt l0 j, vs j) :: envAt l0 r vs
def GrowK (w : World) (d : Nat) (p : Value → World → Prop) (a' : Act) (w' : World) : Prop := Below w.heap.size w w' ∧ a'.defers = [] ∧ ∃ v, a'.tmps[d]? = some v ∧ p v w'
def GrowOps (P : Program) (l0 : List Oper) (Q : Post) (n : Nat) (E : Env) (w : World) (all : List Item) : List Item → Prop
  | [] => True
  | (i, ds, p) :: r => ((∀ v w1 w2, p v w1 → Below w1.heap.size w1 w2 → p v w2) ∧
      ∀ w', Below w.heap.size w w' → ∀ vs : Nat → Value, (∀ j ∈ ds, look all j (vs j) w') → ∀ o, nth l0 i = some o → Lw P l0 (Then (GrowK w' (dstAt l0 i) p) Q) n [o] (envAt l0 ds vs ++ E) w') ∧ GrowOps P l0 Q n E w all r

/-- Each is unguarded, has a slot of its own that the frame does not name, and waits for those of the others that it names, or for what is done. -/
def growB (l0 : List Oper) (keys : List Nat) (L0 : Array Bool) (items : List Item) : Bool :=
  decide (L0.size = l0.length) && (List.range l0.length).all (fun i => L0.getD i true == !(items.map (·.1)).contains i) && decide (items.map (·.1)).Nodup &&
  items.all fun it => match nth l0 it.1 with
    | some o => o.guard.isNone && o.dst.isSome && !keys.contains (dstAt l0 it.1) && (items.all fun jt => Nat.beq jt.1 it.1 || !Nat.beq (dstAt l0 jt.1) (dstAt l0 it.1)) &&
        (o.after.all fun e => !Region.binds .any e || decide (e.on < it.1)) && (it.2.1.all fun j => (items.map (·.1)).contains j && o.after.any fun e => Region.binds .any e && Nat.beq e.on j) &&
        (match o.op with | .defer _ => false | _ => true)
    | none => false

section
variable {P : Program} {Q : Post} {n : Nat} {E : Env} {w : World} {l0 : List Oper}

theorem look_mem : ∀ {items : List Item} {it : Item}, (items.map (·.1)).Nodup → it ∈ items → look items it.1 = it.2.2
  | (j, ds, p) :: r, it, hn, hm => by
    simp only [List.map_cons, List.nodup_cons] at hn
    rcases List.mem_cons.1 hm with rfl | hm
    · unfold look; rw [Nat.beq_refl]
    · have hne : Nat.beq j it.1 = false := by
        cases h : Nat.beq j it.1 with
        | false => rfl
        | true => exact absurd (List.mem_map.2 ⟨it, hm, (Nat.eq_of_beq_eq_true h).symm⟩) hn.1
      unfold look
      rw [hne]
      exact look_mem hn.2 hm
theorem growOps_mem {all : List Item} : ∀ {items : List Item} {it : Item}, GrowOps P l0 Q n E w all items → it ∈ items → (∀ v w1 w2, it.2.2 v w1 → Below w1.heap.size w1 w2 → it.2.2 v w2) ∧
      ∀ w', Below w.heap.size w w' → ∀ vs : Nat → Value, (∀ j ∈ it.2.1, look all j (vs j) w') → ∀ o, nth l0 it.1 = some o → Lw P l0 (Then (GrowK w' (dstAt l0 it.1) it.2.2) Q) n [o] (envAt l0 it.2.1 vs ++ E) w'
  | (j, ds, p) :: r, it, h, hm => by
    rcases List.mem_cons.1 hm with rfl | hm
    · exact h.1
    · exact growOps_mem h.2 hm
/-- One operation turns no other slot. -/
theorem op_put {o : Oper} {a : Act} {w : World} {K : Act → World → Prop} (h : o.wp P a w K Q) : o.wp P a w (fun a' w' => K a' w' ∧ ∃ v, a'.tmps = (a.put o.dst v).tmps) Q := by
  unfold Oper.wp at *
  cases hr : (execOp a.eval o).run P w with
  | ok nx w' =>
    rw [hr] at h
    cases nx with
    | value v => exact ⟨h, v, rfl⟩
    | skip => exact ⟨h, _, rfl⟩
    | «defer» d => exact ⟨h, undef, by cases o.dst <;> rfl⟩
    | enter f args => exact Calls.mono h fun e w'' he => by cases e <;> first | exact ⟨he, _, rfl⟩ | exact he
    | row row args => exact Rows.mono h fun v w'' he => ⟨he, _, rfl⟩
    | _ => exact h
  | halt x w' => rw [hr] at h; cases x <;> exact h
theorem nodup_inj {α : Type} {f : α → Nat} : ∀ {l : List α} (_ : (l.map f).Nodup) {x y : α}, x ∈ l → y ∈ l → f x = f y → x = y
  | z :: l, hn, x, y, hx, hy, he => by
    simp only [List.map_cons, List.nodup_cons] at hn
    by_cases h1 : x = z
    · by_cases h2 : y = z
      · rw [h1, h2]
      · have hy2 : y ∈ l := by simpa [h2] using hy
        exact absurd (List.mem_map.2 ⟨y, hy2, by rw [← he, h1]⟩) hn.1
    · have hx2 : x ∈ l := by simpa [h1] using hx
      by_cases h2 : y = z
      · exact absurd (List.mem_map.2 ⟨x, hx2, by rw [he, h2]⟩) hn.1
      · have hy2 : y ∈ l := by simpa [h2] using hy
        exact nodup_inj hn.2 hx2 hy2 he
theorem count_set {L : Array Bool} {i : Nat} : ∀ {S : List Nat}, i ∈ S → S.Nodup → (∀ j ∈ S, j < L.size) → L.getD i true = false → (S.filter fun j => !(L.setIfInBounds i true).getD j true).length + 1 = (S.filter fun j => !L.getD j true).length
  | x :: S, hi, hnd, hlt, hun => by
    rw [List.nodup_cons] at hnd
    have hx := hlt x (by simp)
    by_cases hxi : x = i
    · subst hxi
      have h1 : ∀ j ∈ S, (!(L.setIfInBounds x true).getD j true) = !L.getD j true := fun j hj => by
        rw [getD_set_ne true (by rintro rfl; exact hnd.1 hj)]
      have h2 : (!(L.setIfInBounds x true).getD x true) = false := by rw [set_get _ _ _ _ hx]; simp
      rw [List.filter_cons, List.filter_cons, h2, List.filter_congr h1]
      have h3 : (!L.getD x true) = true := by rw [hun]; rfl
      rw [h3]
      simp
    · have hi' : i ∈ S := by
        rcases List.mem_cons.1 hi with h | h
        · exact absurd h.symm hxi
        · exact h
      have h1 := count_set hi' hnd.2 (fun j hj => hlt j (by simp [hj])) hun
      rw [List.filter_cons, List.filter_cons, getD_set_ne true (Ne.symm hxi)]
      cases hl : L.getD x true with
      | true => simp only [Bool.not_true, Bool.false_eq_true, if_false]; exact h1
      | false => simp only [Bool.not_false, if_true, List.length_cons]; omega

/-- What is known on the way. -/
structure GrownA (l0 : List Oper) (n : Nat) (E : Env) (w : World) (items : List Item) (L : Array Bool) (a : Act) (w' : World) : Prop where
  size : L.size = l0.length
  below : Below w.heap.size w w'
  fits : Fits n E a
  only : ∀ i, i < l0.length → L.getD i true = false → i ∈ items.map (·.1)
  done : ∀ it ∈ items, L.getD it.1 false = true → ∃ v, a.tmps[dstAt l0 it.1]? = some v ∧ it.2.2 v w'
theorem Pw.grow {w0 : World} {d : Nat} {p : Value → World → Prop} (v : Value) (hv : get E d = some v) (hb : Below w0.heap.size w0 w) (hp : p v w) : Pw n E (Then (GrowK w0 d p) Q .normal) w := fun _ ha => ⟨hb, ha.dfr, v, ha.has _ _ hv, hp⟩

theorem fits_env : ∀ {ds : List Nat} {vs : Nat → Value} {a : Act}, Fits n E a → (∀ j ∈ ds, a.tmps[dstAt l0 j]? = some (vs j)) → Fits n (envAt l0 ds vs ++ E) a
  | [], _, _, h, _ => h
  | j :: r, vs, a, h, hv => by
    have ih := fits_env (ds := r) h fun k hk => hv k (List.mem_cons_of_mem _ hk)
    refine ⟨ih.dfr, ih.size, fun i u hu => ?_⟩
    show a.tmps[i]? = some u
    rw [show envAt l0 (j :: r) vs ++ E = (dstAt l0 j, vs j) :: (envAt l0 r vs ++ E) from rfl] at hu
    by_cases hi : dstAt l0 j = i
    · subst hi; rw [get_cons_self] at hu; cases hu; exact hv j (List.mem_cons_self ..)
    · rw [get_cons_ne _ _ hi] at hu; exact ih.has _ _ hu

theorem grow_main {items : List Item} {keys : List Nat} (hk : ∀ i u, get E i = some u → i ∈ keys) (hops : GrowOps P l0 Q n E w items items)
    (hdone : ∀ (vs : Nat → Value) w', Below w.heap.size w w' → (∀ it ∈ items, it.2.2 (vs it.1) w') → Pw n (envAt l0 (items.map (·.1)) vs ++ E) (Q .normal) w')
    (hnd : (items.map (·.1)).Nodup)
    (hB : ∀ it ∈ items, ∃ o, nth l0 it.1 = some o ∧ o.guard = none ∧ o.dst = some (dstAt l0 it.1) ∧ dstAt l0 it.1 ∉ keys ∧ (∀ jt ∈ items, jt.1 ≠ it.1 → dstAt l0 jt.1 ≠ dstAt l0 it.1) ∧
      (∀ e ∈ o.after, Region.binds .any e = true → e.on < it.1) ∧ (∀ j ∈ it.2.1, j ∈ items.map (·.1) ∧ ∃ e ∈ o.after, Region.binds .any e = true ∧ e.on = j)) :
    ∀ (f : Nat) (L : Array Bool) (a : Act) (w' : World), GrownA l0 n E w items L a w' → ((items.map (·.1)).filter fun i => !L.getD i true).length = f → wpAny P .any l0.toArray Q f L a w' := by
  intro f
  induction f with
  | zero =>
    intro L a w' g hf
    have hall : ∀ it ∈ items, L.getD it.1 false = true := fun it hm => by
      have h1 := List.eq_nil_of_length_eq_zero hf
      rw [List.filter_eq_nil_iff] at h1
      have h2 := h1 it.1 (List.mem_map.2 ⟨it, hm, rfl⟩)
      obtain ⟨o, ho, -⟩ := hB it hm
      have hlt : it.1 < L.size := by rw [g.size]; rw [← nth_eq] at ho; exact (List.getElem?_eq_some_iff.1 ho).1
      have := notyet (L := L) hlt
      rw [← this]
      simpa using h2
    refine ⟨?_, ?_⟩
    · refine List.eq_nil_iff_forall_not_mem.2 fun i hi => ?_
      obtain ⟨h1, o, ho, _⟩ := mem_ready.1 hi
      have hlt : i < l0.length := by simpa using (Array.getElem?_eq_some_iff.1 ho).1
      obtain ⟨it, hm, rfl⟩ := List.mem_map.1 (g.only i hlt h1)
      have h2 := hall it hm
      rw [← notyet (by rw [g.size]; exact hlt), h1] at h2
      cases h2
    · have hv : ∀ it ∈ items, ∃ v, a.tmps[dstAt l0 it.1]? = some v ∧ it.2.2 v w' := fun it hm => g.done it hm (hall it hm)
      have hvs : ∃ vs : Nat → Value, ∀ it ∈ items, a.tmps[dstAt l0 it.1]? = some (vs it.1) ∧ it.2.2 (vs it.1) w' := by
        refine ⟨fun i => (a.tmps[dstAt l0 i]?).getD undef, fun it hm => ?_⟩
        obtain ⟨v, h1, h2⟩ := hv it hm
        simp only [h1, Option.getD_some]
        exact ⟨trivial, h2⟩
      obtain ⟨vs, hvs⟩ := hvs
      exact hdone vs w' g.below (fun it hm => (hvs it hm).2) a (fits_env g.fits fun j hj => by
        obtain ⟨it, hm, rfl⟩ := List.mem_map.1 hj
        exact (hvs it hm).1)
  | succ f ih =>
    intro L a w' g hf
    have hlt : ∀ it ∈ items, it.1 < L.size := fun it hm => by
      obtain ⟨o, ho, -⟩ := hB it hm
      rw [g.size]; rw [← nth_eq] at ho; exact (List.getElem?_eq_some_iff.1 ho).1
    refine ⟨fun hr => ?_, fun i hi => ?_⟩
    · exfalso
      have key : ∀ k it, it ∈ items → it.1 = k → L.getD it.1 true = false → ∃ j, j ∈ Region.ready .any l0.toArray L := by
        intro k
        induction k using Nat.strongRecOn with
        | _ k ihk =>
          intro it hm hk1 hun
          obtain ⟨o, ho, -, -, -, -, hback, -⟩ := hB it hm
          by_cases hall : ∀ e ∈ o.after, Region.binds .any e = true → L.getD e.on false = true
          · exact ⟨it.1, mem_ready.2 ⟨hun, o, by rw [List.getElem?_toArray, nth_eq]; exact ho, hall⟩⟩
          · obtain ⟨e, he⟩ := Classical.not_forall.1 hall
            obtain ⟨he1, he⟩ := Classical.not_imp.1 he
            obtain ⟨he2, he3⟩ := Classical.not_imp.1 he
            have hlt1 := hback e he1 he2
            have hlt2 := hlt it hm
            have hes : e.on < L.size := by omega
            have hun2 : L.getD e.on true = false := by
              rw [notyet hes]
              simpa using he3
            obtain ⟨jt, hj, hje⟩ := List.mem_map.1 (g.only e.on (by rw [← g.size]; exact hes) hun2)
            exact ihk jt.1 (by omega) jt hj rfl (by rw [hje]; exact hun2)
      have hex : ∃ it ∈ items, L.getD it.1 true = false := by
        have hne : ((items.map (·.1)).filter fun i => !L.getD i true) ≠ [] := fun h0 => by rw [h0] at hf; cases hf
        obtain ⟨j, hj⟩ := List.exists_mem_of_ne_nil _ hne
        rw [List.mem_filter] at hj
        obtain ⟨it, hm, rfl⟩ := List.mem_map.1 hj.1
        exact ⟨it, hm, by simpa using hj.2⟩
      obtain ⟨it, hm, hun⟩ := hex
      obtain ⟨j, hj⟩ := key _ it hm rfl hun
      rw [hr] at hj
      cases hj
    · obtain ⟨hun, o, ho, hafter⟩ := mem_ready.1 hi
      have hil : i < l0.length := by simpa using (Array.getElem?_eq_some_iff.1 ho).1
      obtain ⟨it, hm, rfl⟩ := List.mem_map.1 (g.only i hil hun)
      obtain ⟨o', ho', hgd, hdst, hkey, hother, -, hdeps⟩ := hB it hm
      have hoo : o' = o := by
        rw [List.getElem?_toArray, nth_eq, ho'] at ho
        exact Option.some.inj ho
      subst hoo
      obtain ⟨hstab, hop⟩ := growOps_mem hops hm
      have hvs : ∃ vs : Nat → Value, ∀ j ∈ it.2.1, a.tmps[dstAt l0 j]? = some (vs j) ∧ look items j (vs j) w' := by
        refine ⟨fun j => (a.tmps[dstAt l0 j]?).getD undef, fun j hj => ?_⟩
        obtain ⟨hjm, e, he1, he2, rfl⟩ := hdeps j hj
        obtain ⟨jt, hjt, hje⟩ := List.mem_map.1 hjm
        have hl := hafter e he1 he2
        rw [← hje] at hl ⊢
        obtain ⟨v, h1, h2⟩ := g.done jt hjt hl
        rw [look_mem hnd hjt]
        simp only [h1, Option.getD_some]
        exact ⟨trivial, h2⟩
      obtain ⟨vs, hvs⟩ := hvs
      have h1 := hop w' g.below vs (fun j hj => (hvs j hj).2) o' ho' a (fits_env g.fits fun j hj => (hvs j hj).1)
      have hw : Region.wanted o' (yielded l0.toArray a.tmps) = true := by simp [Region.wanted, hgd]
      unfold wpList at h1
      rw [if_pos hw] at h1
      unfold wpOp
      simp only [ho]
      rw [if_pos hw]
      refine h1.imp (fun h => ?_) (fun h => h)
      have h2 : o'.wp P a w' (fun a1 w1 => GrowK w' (dstAt l0 it.1) it.2.2 a1 w1) Q := by
        unfold Oper.wp at *
        generalize (execOp a.eval o').run P w' = r at *
        cases r with
        | ok nx w1 => cases nx <;> exact h
        | halt x w1 => cases x <;> exact h
      refine Oper.wp_mono ?_ (op_put h2)
      rintro a1 w1 ⟨⟨hb1, hd1, v, hv1, hp1⟩, v', hput⟩
      have hsame : ∀ k, k ≠ dstAt l0 it.1 → a1.tmps[k]? = a.tmps[k]? := fun k hk1 => by
        rw [hput, hdst]
        simp only [Act.put]
        rw [Array.getElem?_setIfInBounds_ne (Ne.symm hk1)]
      refine ih _ _ _ ⟨by simpa using g.size, g.below.trans (hb1.mono g.below.size), ⟨hd1, ?_, fun k u hu => ?_⟩, fun j hj hj2 => g.only j hj ?_, fun jt hjt hjl => ?_⟩ ?_
      · rw [hput, hdst]; simpa [Act.put] using g.fits.size
      · rw [hsame k fun e => hkey (e ▸ hk k u hu)]; exact g.fits.has k u hu
      · rw [set_get _ _ _ _ (by rw [g.size]; exact hj)] at hj2
        simp only [Bool.or_eq_false_iff] at hj2
        exact hj2.1
      · by_cases hji : jt.1 = it.1
        · have : jt = it := nodup_inj hnd hjt hm hji
          subst this
          exact ⟨v, hv1, hp1⟩
        · rw [set_get _ _ _ _ (hlt jt hjt)] at hjl
          have hjl : L.getD jt.1 false = true := by
            simp only [Bool.or_eq_true, beq_iff_eq] at hjl
            rcases hjl with h | h
            · exact h
            · exact absurd h.symm hji
          obtain ⟨u, h3, h4⟩ := g.done jt hjt hjl
          exact ⟨u, by rw [hsame _ (hother jt hjt hji)]; exact h3, (growOps_mem hops hjt).1 u w' w1 h4 hb1⟩
      · have := count_set (List.mem_map.2 ⟨it, hm, rfl⟩) hnd (fun j hj => by obtain ⟨jt, hjt, rfl⟩ := List.mem_map.1 hj; exact hlt jt hjt) hun
        omega
theorem get_keys : ∀ {E : Env} {i : Nat} {u : Value}, get E i = some u → i ∈ E.map (·.1)
  | (j, v) :: E, i, u, h => by
    by_cases hj : j = i
    · subst hj; simp
    · rw [get_cons_ne _ _ hj] at h
      exact List.mem_cons_of_mem _ (get_keys h)
/-- What is left of a drawn region only adds to memory: each of its operations is walked once, knowing of the others no more than what it needs. -/
theorem Aw.grow {f : Nat} {L0 : Array Bool} (items : List Item) (hB : growB l0 (E.map (·.1)) L0 items = true) (hf : items.length = f) (hops : GrowOps P l0 Q n E w items items)
    (hdone : ∀ (vs : Nat → Value) w', Below w.heap.size w w' → (∀ it ∈ items, it.2.2 (vs it.1) w') → Pw n (envAt l0 (items.map (·.1)) vs ++ E) (Q .normal) w') : Aw P l0 Q n f L0 E w := fun a ha => by
  simp only [growB, Bool.and_eq_true, decide_eq_true_eq, List.all_eq_true, List.mem_range] at hB
  obtain ⟨⟨⟨hsz, hL⟩, hnd⟩, hit⟩ := hB
  have hB' : ∀ it ∈ items, ∃ o, nth l0 it.1 = some o ∧ o.guard = none ∧ o.dst = some (dstAt l0 it.1) ∧ dstAt l0 it.1 ∉ E.map (·.1) ∧ (∀ jt ∈ items, jt.1 ≠ it.1 → dstAt l0 jt.1 ≠ dstAt l0 it.1) ∧
      (∀ e ∈ o.after, Region.binds .any e = true → e.on < it.1) ∧ (∀ j ∈ it.2.1, j ∈ items.map (·.1) ∧ ∃ e ∈ o.after, Region.binds .any e = true ∧ e.on = j) := fun it hm => by
    have h := hit it hm
    cases ho : nth l0 it.1 with
    | none => simp [ho] at h
    | some o =>
      simp only [ho, Bool.and_eq_true, List.all_eq_true, Bool.or_eq_true, Bool.not_eq_true'] at h
      obtain ⟨⟨⟨⟨⟨⟨h1, h2⟩, h3⟩, h4⟩, h5⟩, h6⟩, -⟩ := h
      refine ⟨o, rfl, by simpa using h1, ?_, by simpa using h3, fun jt hj hne he => ?_, fun e he hb => ?_, fun j hj => ?_⟩
      · obtain ⟨d, hd⟩ := Option.isSome_iff_exists.1 h2
        rw [hd]; simp [dstAt, ho, hd]
      · rcases h4 jt hj with h | h
        · exact hne (Nat.eq_of_beq_eq_true h)
        · rw [he, Nat.beq_refl] at h; cases h
      · have := Array.all_eq_true_iff_forall_mem.1 h5 e he
        simp only [hb, Bool.not_true, Bool.false_or, decide_eq_true_eq] at this
        exact this
      · have := h6 j hj
        obtain ⟨h7, h8⟩ := this
        refine ⟨by simpa using h7, ?_⟩
        obtain ⟨e, he, hb⟩ := Array.any_eq_true'.1 h8
        simp only [Bool.and_eq_true] at hb
        exact ⟨e, he, hb.1, Nat.eq_of_beq_eq_true hb.2⟩
  refine grow_main (keys := E.map (·.1)) (fun i u h => get_keys h) hops hdone hnd hB' f L0 a w ⟨hsz, Below.refl _ _, ha, fun i hi hl => ?_, fun it hm hl => ?_⟩ ?_
  · have := hL i hi
    rw [hl] at this
    simpa using this
  · obtain ⟨o, ho, -⟩ := hB' it hm
    have hlt : it.1 < l0.length := by rw [← nth_eq] at ho; exact (List.getElem?_eq_some_iff.1 ho).1
    have h1 := hL it.1 hlt
    rw [notyet (by rw [hsz]; exact hlt), hl] at h1
    have : (items.map (·.1)).contains it.1 = true := by simpa using ⟨it.2.1, it.2.2, hm⟩
    rw [this] at h1
    cases h1
  · rw [← hf, List.filter_eq_self.2, List.length_map]
    intro i hi
    obtain ⟨it, hm, rfl⟩ := List.mem_map.1 hi
    obtain ⟨o, ho, -⟩ := hB' it hm
    have hlt : it.1 < l0.length := by rw [← nth_eq] at ho; exact (List.getElem?_eq_some_iff.1 ho).1
    have h1 := hL it.1 hlt
    have : (items.map (·.1)).contains it.1 = true := by simpa using ⟨it.2.1, it.2.2, hm⟩
    rw [this] at h1
    have h2 : L0.getD it.1 true = false := by simpa using h1
    rw [h2]; rfl
theorem GrowOps.nil {all : List Item} : GrowOps P l0 Q n E w all [] := trivial
theorem GrowOps.cons {all r : List Item} {i : Nat} {ds : List Nat} {p : Value → World → Prop} {o : Oper} (ho : nth l0 i = some o) (stab : ∀ v w1 w2, p v w1 → Below w1.heap.size w1 w2 → p v w2)
    (op : ∀ w', Below w.heap.size w w' → ∀ vs : Nat → Value, (∀ j ∈ ds, look all j (vs j) w') → Lw P l0 (Then (GrowK w' (dstAt l0 i) p) Q) n [o] (envAt l0 ds vs ++ E) w') (h : GrowOps P l0 Q n E w all r) : GrowOps P l0 Q n E w all ((i, ds, p) :: r) :=
  ⟨⟨stab, fun w' hw vs hv o' ho' => by obtain rfl : o = o' := Option.some.inj (ho.symm.trans ho'); exact op w' hw vs hv⟩, h⟩
variable {C : World → Prop}
theorem Aw.three {i0 i1 i2 fuel : Nat} {o0 o1 o2 : Oper} {listed : Array Bool} (hr : Region.ready .any l0.toArray listed = [i0, i1, i2]) (ho0 : nth l0 i0 = some o0) (ho1 : nth l0 i1 = some o1) (ho2 : nth l0 i2 = some o2)
    (k0 : Lw P l0 (Then (fun a' w' => wpAny P .any l0.toArray Q fuel (listed.setIfInBounds i0 true) a' w') Q) n [o0] E w)
    (k1 : Lw P l0 (Then (fun a' w' => wpAny P .any l0.toArray Q fuel (listed.setIfInBounds i1 true) a' w') Q) n [o1] E w)
    (k2 : Lw P l0 (Then (fun a' w' => wpAny P .any l0.toArray Q fuel (listed.setIfInBounds i2 true) a' w') Q) n [o2] E w) : Aw P l0 Q n (fuel + 1) listed E w :=
  Aw.all [i0, i1, i2] hr (by simp) fun m hm o' ho' => by
    simp only [List.mem_cons, List.not_mem_nil, or_false] at hm
    rcases hm with rfl | rfl | rfl
    · obtain rfl : o' = o0 := Option.some.inj (ho'.symm.trans ho0)
      exact Pw.one ho0 k0
    · obtain rfl : o' = o1 := Option.some.inj (ho'.symm.trans ho1)
      exact Pw.one ho1 k1
    · obtain rfl : o' = o2 := Option.some.inj (ho'.symm.trans ho2)
      exact Pw.one ho2 k2
theorem Aw.four {i0 i1 i2 i3 fuel : Nat} {o0 o1 o2 o3 : Oper} {listed : Array Bool} (hr : Region.ready .any l0.toArray listed = [i0, i1, i2, i3]) (ho0 : nth l0 i0 = some o0) (ho1 : nth l0 i1 = some o1) (ho2 : nth l0 i2 = some o2) (ho3 : nth l0 i3 = some o3)
    (k0 : Lw P l0 (Then (fun a' w' => wpAny P .any l0.toArray Q fuel (listed.setIfInBounds i0 true) a' w') Q) n [o0] E w)
    (k1 : Lw P l0 (Then (fun a' w' => wpAny P .any l0.toArray Q fuel (listed.setIfInBounds i1 true) a' w') Q) n [o1] E w)
    (k2 : Lw P l0 (Then (fun a' w' => wpAny P .any l0.toArray Q fuel (listed.setIfInBounds i2 true) a' w') Q) n [o2] E w)
    (k3 : Lw P l0 (Then (fun a' w' => wpAny P .any l0.toArray Q fuel (listed.setIfInBounds i3 true) a' w') Q) n [o3] E w) : Aw P l0 Q n (fuel + 1) listed E w :=
  Aw.all [i0, i1, i2, i3] hr (by simp) fun m hm o' ho' => by
    simp only [List.mem_cons, List.not_mem_nil, or_false] at hm
    rcases hm with rfl | rfl | rfl | rfl
    · obtain rfl : o' = o0 := Option.some.inj (ho'.symm.trans ho0)
      exact Pw.one ho0 k0
    · obtain rfl : o' = o1 := Option.some.inj (ho'.symm.trans ho1)
      exact Pw.one ho1 k1
    · obtain rfl : o' = o2 := Option.some.inj (ho'.symm.trans ho2)
      exact Pw.one ho2 k2
    · obtain rfl : o' = o3 := Option.some.inj (ho'.symm.trans ho3)
      exact Pw.one ho3 k3
theorem Aw.five {i0 i1 i2 i3 i4 fuel : Nat} {o0 o1 o2 o3 o4 : Oper} {listed : Array Bool} (hr : Region.ready .any l0.toArray listed = [i0, i1, i2, i3, i4]) (ho0 : nth l0 i0 = some o0) (ho1 : nth l0 i1 = some o1) (ho2 : nth l0 i2 = some o2) (ho3 : nth l0 i3 = some o3) (ho4 : nth l0 i4 = some o4)
    (k0 : Lw P l0 (Then (fun a' w' => wpAny P .any l0.toArray Q fuel (listed.setIfInBounds i0 true) a' w') Q) n [o0] E w)
    (k1 : Lw P l0 (Then (fun a' w' => wpAny P .any l0.toArray Q fuel (listed.setIfInBounds i1 true) a' w') Q) n [o1] E w)
    (k2 : Lw P l0 (Then (fun a' w' => wpAny P .any l0.toArray Q fuel (listed.setIfInBounds i2 true) a' w') Q) n [o2] E w)
    (k3 : Lw P l0 (Then (fun a' w' => wpAny P .any l0.toArray Q fuel (listed.setIfInBounds i3 true) a' w') Q) n [o3] E w)
    (k4 : Lw P l0 (Then (fun a' w' => wpAny P .any l0.toArray Q fuel (listed.setIfInBounds i4 true) a' w') Q) n [o4] E w) : Aw P l0 Q n (fuel + 1) listed E w :=
  Aw.all [i0, i1, i2, i3, i4] hr (by simp) fun m hm o' ho' => by
    simp only [List.mem_cons, List.not_mem_nil, or_false] at hm
    rcases hm with rfl | rfl | rfl | rfl | rfl
    · obtain rfl : o' = o0 := Option.some.inj (ho'.symm.trans ho0)
      exact Pw.one ho0 k0
    · obtain rfl : o' = o1 := Option.some.inj (ho'.symm.trans ho1)
      exact Pw.one ho1 k1
    · obtain rfl : o' = o2 := Option.some.inj (ho'.symm.trans ho2)
      exact Pw.one ho2 k2
    · obtain rfl : o' = o3 := Option.some.inj (ho'.symm.trans ho3)
      exact Pw.one ho3 k3
    · obtain rfl : o' = o4 := Option.some.inj (ho'.symm.trans ho4)
      exact Pw.one ho4 k4
theorem AwC.three {i0 i1 i2 fuel : Nat} {o0 o1 o2 : Oper} {listed : Array Bool} (hC : C w) (hr : Region.ready .any l0.toArray listed = [i0, i1, i2]) (ho0 : nth l0 i0 = some o0) (ho1 : nth l0 i1 = some o1) (ho2 : nth l0 i2 = some o2)
    (k0 : Lw P l0 (Then (fun a' w' => C w' ∧ wpAnyC P l0.toArray Q C fuel (listed.setIfInBounds i0 true) a' w') Q) n [o0] E w)
    (k1 : Lw P l0 (Then (fun a' w' => C w' ∧ wpAnyC P l0.toArray Q C fuel (listed.setIfInBounds i1 true) a' w') Q) n [o1] E w)
    (k2 : Lw P l0 (Then (fun a' w' => C w' ∧ wpAnyC P l0.toArray Q C fuel (listed.setIfInBounds i2 true) a' w') Q) n [o2] E w) : AwC P l0 Q C n (fuel + 1) listed E w :=
  AwC.all hC [i0, i1, i2] hr (by simp) fun m hm o' ho' => by
    simp only [List.mem_cons, List.not_mem_nil, or_false] at hm
    rcases hm with rfl | rfl | rfl
    · obtain rfl : o' = o0 := Option.some.inj (ho'.symm.trans ho0)
      exact k0
    · obtain rfl : o' = o1 := Option.some.inj (ho'.symm.trans ho1)
      exact k1
    · obtain rfl : o' = o2 := Option.some.inj (ho'.symm.trans ho2)
      exact k2
theorem AwC.four {i0 i1 i2 i3 fuel : Nat} {o0 o1 o2 o3 : Oper} {listed : Array Bool} (hC : C w) (hr : Region.ready .any l0.toArray listed = [i0, i1, i2, i3]) (ho0 : nth l0 i0 = some o0) (ho1 : nth l0 i1 = some o1) (ho2 : nth l0 i2 = some o2) (ho3 : nth l0 i3 = some o3)
    (k0 : Lw P l0 (Then (fun a' w' => C w' ∧ wpAnyC P l0.toArray Q C fuel (listed.setIfInBounds i0 true) a' w') Q) n [o0] E w)
    (k1 : Lw P l0 (Then (fun a' w' => C w' ∧ wpAnyC P l0.toArray Q C fuel (listed.setIfInBounds i1 true) a' w') Q) n [o1] E w)
    (k2 : Lw P l0 (Then (fun a' w' => C w' ∧ wpAnyC P l0.toArray Q C fuel (listed.setIfInBounds i2 true) a' w') Q) n [o2] E w)
    (k3 : Lw P l0 (Then (fun a' w' => C w' ∧ wpAnyC P l0.toArray Q C fuel (listed.setIfInBounds i3 true) a' w') Q) n [o3] E w) : AwC P l0 Q C n (fuel + 1) listed E w :=
  AwC.all hC [i0, i1, i2, i3] hr (by simp) fun m hm o' ho' => by
    simp only [List.mem_cons, List.not_mem_nil, or_false] at hm
    rcases hm with rfl | rfl | rfl | rfl
    · obtain rfl : o' = o0 := Option.some.inj (ho'.symm.trans ho0)
      exact k0
    · obtain rfl : o' = o1 := Option.some.inj (ho'.symm.trans ho1)
      exact k1
    · obtain rfl : o' = o2 := Option.some.inj (ho'.symm.trans ho2)
      exact k2
    · obtain rfl : o' = o3 := Option.some.inj (ho'.symm.trans ho3)
      exact k3
theorem AwC.five {i0 i1 i2 i3 i4 fuel : Nat} {o0 o1 o2 o3 o4 : Oper} {listed : Array Bool} (hC : C w) (hr : Region.ready .any l0.toArray listed = [i0, i1, i2, i3, i4]) (ho0 : nth l0 i0 = some o0) (ho1 : nth l0 i1 = some o1) (ho2 : nth l0 i2 = some o2) (ho3 : nth l0 i3 = some o3) (ho4 : nth l0 i4 = some o4)
    (k0 : Lw P l0 (Then (fun a' w' => C w' ∧ wpAnyC P l0.toArray Q C fuel (listed.setIfInBounds i0 true) a' w') Q) n [o0] E w)
    (k1 : Lw P l0 (Then (fun a' w' => C w' ∧ wpAnyC P l0.toArray Q C fuel (listed.setIfInBounds i1 true) a' w') Q) n [o1] E w)
    (k2 : Lw P l0 (Then (fun a' w' => C w' ∧ wpAnyC P l0.toArray Q C fuel (listed.setIfInBounds i2 true) a' w') Q) n [o2] E w)
    (k3 : Lw P l0 (Then (fun a' w' => C w' ∧ wpAnyC P l0.toArray Q C fuel (listed.setIfInBounds i3 true) a' w') Q) n [o3] E w)
    (k4 : Lw P l0 (Then (fun a' w' => C w' ∧ wpAnyC P l0.toArray Q C fuel (listed.setIfInBounds i4 true) a' w') Q) n [o4] E w) : AwC P l0 Q C n (fuel + 1) listed E w :=
  AwC.all hC [i0, i1, i2, i3, i4] hr (by simp) fun m hm o' ho' => by
    simp only [List.mem_cons, List.not_mem_nil, or_false] at hm
    rcases hm with rfl | rfl | rfl | rfl | rfl
    · obtain rfl : o' = o0 := Option.some.inj (ho'.symm.trans ho0)
      exact k0
    · obtain rfl : o' = o1 := Option.some.inj (ho'.symm.trans ho1)
      exact k1
    · obtain rfl : o' = o2 := Option.some.inj (ho'.symm.trans ho2)
      exact k2
    · obtain rfl : o' = o3 := Option.some.inj (ho'.symm.trans ho3)
      exact k3
    · obtain rfl : o' = o4 := Option.some.inj (ho'.symm.trans ho4)
      exact k4
end
end Go.Dd
