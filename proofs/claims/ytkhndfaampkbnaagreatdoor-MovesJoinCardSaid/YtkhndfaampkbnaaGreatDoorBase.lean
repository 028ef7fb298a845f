/- The step layer, part 1: frames as lists of known slots; rules for control and for pure operations. Nothing here names a program. -/
import Derived.WalkKit
import Derived.Deep.Quiet
namespace Go.Dd
open Go Go.RowKit

abbrev Env := List (Nat × Value)

def get : Env → Nat → Option Value
  | [], _ => none
  | (j, v) :: E, i => match Nat.beq j i with
    | true => some v
    | false => get E i

theorem get_cons_self (d : Nat) (v : Value) (E : Env) : get ((d, v) :: E) d = some v := by simp [get]
theorem get_cons_ne {d i : Nat} (v : Value) (E : Env) (h : d ≠ i) : get ((d, v) :: E) i = get E i := by
  have : Nat.beq d i = false := by
    cases hb : Nat.beq d i with
    | false => rfl
    | true => exact absurd (Nat.eq_of_beq_eq_true hb) h
  simp [get, this]

structure Fits (n : Nat) (E : Env) (a : Act) : Prop where
  dfr : a.defers = []
  size : a.tmps.size = n
  has : ∀ i v, get E i = some v → a.tmps[i]? = some v

def ev (E : Env) : Operand → Option Value
  | .tmp t => get E t
  | .const v => some v
  | .global g => some (.pointer (some ⟨g, 0, none⟩))
  | .func f => some (.func (.func f) #[] #[])

theorem Fits.ev {n : Nat} {E : Env} {a : Act} (h : Fits n E a) {x : Operand} {v : Value} (hx : ev E x = some v) : a.eval x = v := by
  cases x <;> simp [Dd.ev, Act.eval] at *
  · have := h.has _ _ hx
    simp [this]
  · exact hx
  · exact hx
  · exact hx

theorem Fits.put {n : Nat} {E : Env} {a : Act} (h : Fits n E a) {d : Nat} (v : Value) (hd : Nat.blt d n = true) : Fits n ((d, v) :: E) (a.put (some d) v) := by
  have hd' : d < n := by simpa [Nat.blt_eq] using hd
  refine ⟨h.dfr, by simp [Act.put, h.size], fun i u hu => ?_⟩
  simp only [Act.put, Array.getElem?_setIfInBounds, h.size]
  by_cases hi : d = i
  · subst hi
    rw [get_cons_self] at hu
    simpa [hd'] using hu
  · rw [get_cons_ne v E hi] at hu
    simp [hi, h.has i u hu]

theorem Fits.put_none {n : Nat} {E : Env} {a : Act} (h : Fits n E a) (v : Value) : Fits n E (a.put none v) := h

/-- Each entry of the second list is known in the first one. -/
def Sub (E : Env) : Env → Prop
  | [] => True
  | (j, v) :: F => get E j = some v ∧ Sub E F

theorem Sub.get {E : Env} : ∀ {F : Env}, Sub E F → ∀ i v, get F i = some v → Dd.get E i = some v
  | [], _, i, v, h => by simp [Dd.get] at h
  | (j, u) :: F, hs, i, v, h => by
    simp only [Dd.get] at h
    split at h
    · rename_i hb
      have : j = i := Nat.eq_of_beq_eq_true hb
      subst this
      simp only [Option.some.injEq] at h
      subst h
      exact hs.1
    · exact Sub.get hs.2 i v h

theorem Fits.sub {n : Nat} {E F : Env} {a : Act} (h : Fits n E a) (hs : Sub E F) : Fits n F a := ⟨h.dfr, h.size, fun i v hv => h.has i v (hs.get i v hv)⟩

/-! ### Code -/

abbrev Post := Exit → Act → World → Prop

def Cw (P : Program) (Q : Post) (n : Nat) (c : Code) (E : Env) (w : World) : Prop := ∀ a, Fits n E a → c.wp P Q a w
/-- A post, of every frame that fits. -/
def Pw (n : Nat) (E : Env) (R : Act → World → Prop) (w : World) : Prop := ∀ a, Fits n E a → R a w

def Lw (P : Program) (l0 : List Oper) (Q : Post) (n : Nat) (l : List Oper) (E : Env) (w : World) : Prop := ∀ a, Fits n E a → wpList P l0.toArray Q l a w

abbrev Then (K : Act → World → Prop) (Q : Post) : Post := fun e a w => match e with
  | .normal => K a w
  | e => Q e a w

abbrev InBlk (id : Nat) (Q : Post) : Post := fun e a w => match e with
  | .exit id' => if id' = id then Q .normal a w else Q (.exit id') a w
  | e => Q e a w

section
variable {P : Program} {Q : Post} {n : Nat} {E : Env} {w : World}

theorem then_eq (K : Act → World → Prop) (Q : Post) : Then K Q = Exit.then K Q := by
  funext e a w; cases e <;> rfl
theorem inblk_eq (id : Nat) (Q : Post) : InBlk id Q = Exit.inBlock id Q := by
  funext e a w; cases e <;> rfl

theorem Cw.seq {x y : Code} (h : Cw P (Then (fun a w => y.wp P Q a w) Q) n x E w) : Cw P Q n (.seq x y) E w := fun a ha => wp_seq (by have := h a ha; rwa [then_eq] at this)
theorem Cw.block {id : Nat} {c : Code} (h : Cw P (InBlk id Q) n c E w) : Cw P Q n (.block id c) E w := fun a ha => wp_block (by have := h a ha; rwa [inblk_eq] at this)
theorem Cw.skip (h : Pw n E (Q .normal) w) : Cw P Q n .skip E w := fun a ha => wp_skip (h a ha)
theorem Cw.exit {id : Nat} (h : Pw n E (Q (.exit id)) w) : Cw P Q n (.exit id) E w := fun a ha => wp_exit (h a ha)
theorem Cw.ret (h : Pw n E (Q .ret) w) : Cw P Q n .ret E w := fun a ha => wp_ret (h a ha)
theorem Cw.label {l : Nat} (h : Pw n E (Q .normal) w) : Cw P Q n (.label l) E w := fun a ha => wp_label (h a ha)
theorem Cw.cond {c : Operand} {x y : Code} {t : Bool} (hc : ev E c = some (.bool t)) (ht : t = true → Cw P Q n x E w) (hf : t = false → Cw P Q n y E w) : Cw P Q n (.cond c x y) E w :=
  fun a ha => wp_cond_split (ha.ev hc) (fun h => ht h a ha) (fun h => hf h a ha)
theorem Cw.condT {c : Operand} {x y : Code} (hc : ev E c = some (.bool true)) (ht : Cw P Q n x E w) : Cw P Q n (.cond c x y) E w := fun a ha => wp_cond_true (ha.ev hc) (ht a ha)
theorem Cw.condF {c : Operand} {x y : Code} (hc : ev E c = some (.bool false)) (hf : Cw P Q n y E w) : Cw P Q n (.cond c x y) E w := fun a ha => wp_cond_false (ha.ev hc) (hf a ha)
theorem Cw.condB {c : Operand} {x y : Code} {t : Bool} (hc : ev E c = some (.bool t)) (b : Bool) (hb : t = b) (h : Cw P Q n (if b then x else y) E w) : Cw P Q n (.cond c x y) E w :=
  fun a ha => wp_cond (ha.ev hc) (by rw [hb]; exact h a ha)
theorem Cw.region {id : Nat} {l : List Oper} (h : Lw P l Q n l E w) : Cw P Q n (.region id l.toArray false) E w := fun a ha => wp_region_lit (h a ha)
theorem Cw.sub {c : Code} {F : Env} (hs : Sub E F) (h : Cw P Q n c F w) : Cw P Q n c E w := fun a ha => h a (ha.sub hs)
/-- A slot's value, told otherwise. -/
theorem Cw.know {c : Code} (d : Nat) {v v' : Value} (hd : get E d = some v) (hv : v = v') (h : Cw P Q n c ((d, v') :: E) w) : Cw P Q n c E w := fun a ha => h a <| by
  subst hv
  refine ⟨ha.dfr, ha.size, fun i u hu => ?_⟩
  by_cases hi : d = i
  · subst hi; rw [get_cons_self] at hu; exact ha.has _ _ (hd.trans hu)
  · rw [get_cons_ne _ _ hi] at hu; exact ha.has _ _ hu

theorem Cw.out {c : Code} (h : Cw P Q n c E w) : Pw n E (fun a w => c.wp P Q a w) w := h
theorem Lw.nil {l0 : List Oper} (h : Pw n E (Q .normal) w) : Lw P l0 Q n [] E w := fun a ha => wpList_nil (h a ha)

/-- What stands behind a piece of code, in a sequence. -/
theorem Pw.thenN {K : Act → World → Prop} (h : Pw n E K w) : Pw n E (Then K Q .normal) w := h
theorem Pw.thenR {K : Act → World → Prop} (h : Pw n E (Q .ret) w) : Pw n E (Then K Q .ret) w := h
theorem Pw.thenE {K : Act → World → Prop} {id : Nat} (h : Pw n E (Q (.exit id)) w) : Pw n E (Then K Q (.exit id)) w := h
theorem Pw.blkN {id : Nat} (h : Pw n E (Q .normal) w) : Pw n E (InBlk id Q .normal) w := h
theorem Pw.blkR {id : Nat} (h : Pw n E (Q .ret) w) : Pw n E (InBlk id Q .ret) w := h
theorem Pw.blkHit {id : Nat} (h : Pw n E (Q .normal) w) : Pw n E (InBlk id Q (.exit id)) w := fun a ha => by
  show if id = id then Q .normal a w else Q (.exit id) a w
  rw [if_pos rfl]; exact h a ha
theorem Pw.blkE {id id' : Nat} (hne : Nat.beq id' id = false) (h : Pw n E (Q (.exit id')) w) : Pw n E (InBlk id Q (.exit id')) w := fun a ha => by
  have hne' : id' ≠ id := Nat.ne_of_beq_eq_false hne
  show if id' = id then Q .normal a w else Q (.exit id') a w
  rw [if_neg hne']; exact h a ha

/-- A loop: 'Ei', 'I' and 'm' go by a state of any type. -/
theorem Cw.loop {S : Type} (Ei : S → Env) (I : S → World → Prop) (m : S → Nat) {c : Code} (s0 : S) (hE : Sub E (Ei s0)) (h0 : I s0 w)
    (round : ∀ s w, I s w → Cw P (Then (fun a' w' => ∃ s', Fits n (Ei s') a' ∧ I s' w' ∧ m s' < m s) Q) n c (Ei s) w) : Cw P Q n (.loop c) E w := by
  intro a ha
  have key : ∀ k s a w, m s = k → Fits n (Ei s) a → I s w → (Code.loop c).wp P Q a w := by
    intro k s a w hk hfit hI
    refine wp_loop (fun a' w' => ∃ s', Fits n (Ei s') a' ∧ I s' w') (fun a' w' => Classical.epsilon fun k => ∃ s', Fits n (Ei s') a' ∧ I s' w' ∧ m s' = k ∧ ∀ s'', Fits n (Ei s'') a' → I s'' w' → k ≤ m s'') ⟨s, hfit, hI⟩ ?_
    have least : ∀ a' w', (∃ s', Fits n (Ei s') a' ∧ I s' w') → ∃ k, ∃ s', Fits n (Ei s') a' ∧ I s' w' ∧ m s' = k ∧ ∀ s'', Fits n (Ei s'') a' → I s'' w' → k ≤ m s'' := by
      intro a' w' ⟨s', h1, h2⟩
      have : ∀ b s', Fits n (Ei s') a' → I s' w' → m s' ≤ b → ∃ k, ∃ s', Fits n (Ei s') a' ∧ I s' w' ∧ m s' = k ∧ ∀ s'', Fits n (Ei s'') a' → I s'' w' → k ≤ m s'' := by
        intro b
        induction b with
        | zero => intro s' h1 h2 h3; exact ⟨m s', s', h1, h2, rfl, fun s'' _ _ => by omega⟩
        | succ b ih =>
          intro s' h1 h2 h3
          by_cases hex : ∃ s'', Fits n (Ei s'') a' ∧ I s'' w' ∧ m s'' ≤ b
          · obtain ⟨s'', q1, q2, q3⟩ := hex; exact ih s'' q1 q2 q3
          · refine ⟨m s', s', h1, h2, rfl, fun s'' q1 q2 => ?_⟩
            rcases Nat.lt_or_ge (m s'') (m s') with hlt | hge
            · exact absurd ⟨s'', q1, q2, by omega⟩ hex
            · exact hge
      exact this (m s') s' h1 h2 (Nat.le_refl _)
    intro a1 w1 hin
    obtain ⟨s1, g1, g2, g3, g4⟩ := Classical.epsilon_spec (least a1 w1 hin)
    have hr := round s1 w1 g2 a1 g1
    rw [then_eq] at hr
    refine Code.wp_mono (fun e a2 w2 hq => ?_) hr
    cases e with
    | normal =>
      obtain ⟨s2, q1, q2, q3⟩ := hq
      refine ⟨⟨s2, q1, q2⟩, ?_⟩
      obtain ⟨s3, r1, r2, r3, r4⟩ := Classical.epsilon_spec (least a2 w2 ⟨s2, q1, q2⟩)
      have := r4 s2 q1 q2
      rw [← g3]
      omega
    | _ => exact hq
  exact key _ s0 a w rfl (ha.sub hE) h0

theorem Pw.next {S : Type} {Ei : S → Env} {I : S → World → Prop} {m : S → Nat} {k : Nat} (s' : S) (hE : Sub E (Ei s')) (hI : I s' w) (hm : m s' < k) : Pw n E (fun a' w' => ∃ s', Fits n (Ei s') a' ∧ I s' w' ∧ m s' < k) w :=
  fun _ ha => ⟨s', ha.sub hE, hI, hm⟩

/-! ### Functions -/

/-- The call returns, with a value and in a world of that kind. -/
def Fnc (P : Program) (f : FuncId) (args : List Value) (w : World) (R : Value → World → Prop) : Prop :=
  (∃ fn, P.funcs[f]? = some fn ∧ (fn.name == "runtime.NumGoroutine") = false ∧ fn.body.isSome = true) ∧ Calls P f args.toArray w (fun e w' => ∃ v, e = .returned v ∧ R v w')

def Ret (P : Program) (fn : Func) (R : Value → World → Prop) : Post := bodyPost P fn (fun e w' => ∃ v, e = .returned v ∧ R v w')

theorem Fnc.mono {f : FuncId} {args : List Value} {R R' : Value → World → Prop} (h : Fnc P f args w R) (hr : ∀ v w', R v w' → R' v w') : Fnc P f args w R' :=
  ⟨h.1, h.2.mono fun _ _ ⟨v, he, hv⟩ => ⟨v, he, hr _ _ hv⟩⟩

def params : Nat → List Value → Env
  | _, [] => []
  | k, v :: l => (k, v) :: params (k + 1) l

theorem params_get : ∀ (l : List Value) (k i : Nat) (v : Value), get (params k l) i = some v → k ≤ i ∧ l[i - k]? = some v
  | [], _, _, _, h => by simp [params, Dd.get] at h
  | x :: l, k, i, v, h => by
    simp only [params, Dd.get] at h
    split at h
    · rename_i hb
      have : k = i := Nat.eq_of_beq_eq_true hb
      subst this
      simpa using h
    · have := params_get l (k + 1) i v h
      refine ⟨by omega, ?_⟩
      have h2 : i - k = (i - (k + 1)) + 1 := by omega
      rw [h2]; simpa using this.2

theorem Fnc.enter {f : FuncId} {fn : Func} {c : Code} {args : List Value} {R : Value → World → Prop} (hf : P.funcs[f]? = some fn) (hname : (fn.name == "runtime.NumGoroutine") = false) (hb : fn.body = some c)
    (hn : fn.ntmps = n) (hl : Nat.ble args.length n = true) (h : Cw P (Ret P fn R) n c (params 0 args) w) : Fnc P f args w R := by
  refine ⟨⟨fn, hf, hname, by simp [hb]⟩, calls_of_wp hf hb (h _ ⟨rfl, ?_, fun i v hv => ?_⟩)⟩
  · have : args.length ≤ n := Nat.le_of_ble_eq_true hl
    simp [hn]; omega
  · have hg := (params_get args 0 i v hv).2
    simp only [Nat.sub_zero] at hg
    have hlt : i < args.length := by
      rcases Nat.lt_or_ge i args.length with h | h
      · exact h
      · simp [List.getElem?_eq_none h] at hg
    rw [Array.getElem?_append]
    simp only [List.size_toArray, hlt, if_true, List.getElem?_toArray]
    exact hg

theorem Pw.ret1 {fn : Func} {R : Value → World → Prop} {t : Nat} {v : Value} (hr : fn.results = #[.tmp t]) (he : get E t = some v) (h : R v w) : Pw n E (Ret P fn R .ret) w := fun a ha =>
  bodyPost_ret (v := v) (by rw [results_tmp hr]; simp [Array.getD_eq_getD_getElem?, ha.has _ _ he]) ha.dfr ⟨v, rfl, h⟩
theorem Pw.ret0 {fn : Func} {R : Value → World → Prop} (hr : fn.results = #[]) (h : R (.tuple #[]) w) : Pw n E (Ret P fn R .ret) w := fun _ ha =>
  bodyPost_ret (v := .tuple #[]) (by rw [results_none hr]) ha.dfr ⟨_, rfl, h⟩
theorem Pw.end0 {fn : Func} {R : Value → World → Prop} (hr : fn.results = #[]) (h : R (.tuple #[]) w) : Pw n E (Ret P fn R .normal) w := fun _ ha =>
  bodyPost_end (v := .tuple #[]) (by rw [results_none hr]) ha.dfr ⟨_, rfl, h⟩
theorem Pw.ret2 {fn : Func} {R : Value → World → Prop} {t u : Nat} {v x : Value} (hr : fn.results = #[.tmp t, .tmp u]) (he : get E t = some v) (hx : get E u = some x) (h : R (.tuple #[v, x]) w) : Pw n E (Ret P fn R .ret) w := fun a ha =>
  bodyPost_ret (v := .tuple #[v, x]) (by rw [results_tmp2 hr]; simp [Array.getD_eq_getD_getElem?, ha.has _ _ he, ha.has _ _ hx]) ha.dfr ⟨_, rfl, h⟩

end
end Go.Dd
