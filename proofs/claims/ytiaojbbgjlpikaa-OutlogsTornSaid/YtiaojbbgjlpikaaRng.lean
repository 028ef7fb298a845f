/- The step layer, part 12: ranges over functions; a round's frame; the code behind such a loop. Nothing here names a program. -/
import Derived.Test.YtiaojbbgjlpikaaSeg
import Derived.RangeFuncNested
import Derived.RangeFuncLeaves
import Derived.TacticsIn
import Derived.OrdersIn
namespace Go.Dd
open Go Go.RowKit

/-- No fence, in a round of that loop. -/
def rnd (ro : Option Nat) : Fence := { Fence.wide with round := ro }
theorem room_rnd (ro : Option Nat) (n : Nat) : (rnd ro).room n := fun _ h => by simp [rnd, Fence.wide] at h
theorem callsIn_rnd {ro : Option Nat} {n : Nat} {P : Program} {f : FuncId} {args : Array Value} {w : World} {R : Ending → World → Prop} : CallsIn (rnd ro) n P f args w R ↔ Calls P f args w R :=
  (callsIn_wide (n := n) (P := P) (f := f) (args := args) (w := w) (R := R))
theorem rowsIn_rnd {ro : Option Nat} {n : Nat} {P : Program} {row : String} {args : Array Value} {w : World} {R : Value → World → Prop} (h : Rows P row args w R) : RowsIn (rnd ro) n P row args w R :=
  fun c cs _ => let ⟨v, w', r, s⟩ := h c cs; ⟨v, w', r, (stepsIn_wide (P := P)).2 s⟩
theorem wpIn_any {ro : Option Nat} {n m : Nat} {P : Program} {c : Code} {Q : Post} {a : Act} {w : World} (h : c.wpIn (rnd ro) n P Q a w) : c.wpIn (rnd ro) m P Q a w :=
  fun b k cs h1 h2 _ => h b k cs h1 h2 (room_rnd _ _)

/-- A post, of the same frame with more calls put off. -/
def Lift (D : List Deferred) (Q : Post) : Post := fun e a w => match e with
  | .outgrown => False
  | e => Q e { a with defers := a.defers ++ D } w
theorem not_out {D : List Deferred} {Q : Post} : ¬ LetsOut (Lift D Q) := fun ⟨_, _, h⟩ => h
theorem NoP.lift {D : List Deferred} {Q : Post} (h : NoP Q) : NoP (Lift D Q) := fun c a w hq => h c _ w hq
theorem put_app (a : Act) (D : List Deferred) (d : Option Tmp) (v : Value) : ({ a with defers := a.defers ++ D } : Act).put d v = { a.put d v with defers := (a.put d v).defers ++ D } := by
  cases d <;> rfl
theorem eval_app (a : Act) (D : List Deferred) : ({ a with defers := D } : Act).eval = a.eval := by
  funext x; cases x <;> rfl

def isDefer (o : Oper) : Bool := match o.op with
  | .defer _ => true
  | _ => false
def noDefer (l : List Oper) : Bool := l.all fun o => !isDefer o
theorem isDefer_ne {o : Oper} (h : isDefer o = false) : ∀ c, o.op ≠ .defer c := fun c e => by simp [isDefer, e] at h
theorem semAt_any {ro : Option Nat} {o : Oper} (h : isDefer o = false) (ρ : Operand → Value) : o.semAt ro ρ = execOp ρ o := by
  cases ro with
  | none => exact Oper.semAt_none ρ o
  | some l => exact Oper.semAt_some l ρ o (isDefer_ne h)

section
variable {P : Program} {Q : Post} {ro : Option Nat} {D : List Deferred} {m : Nat}

theorem op_rnd {Q0 : Post} {o : Oper} {a : Act} {w : World} {K K' : Act → World → Prop} (hp : ∀ c a w, Q0 (.panic c) a w → Q (.panic c) a w) (hd : isDefer o = false) (hK : ∀ a w, K a w → K' { a with defers := a.defers ++ D } w) (h : o.wp P a w K (Lift D Q0)) :
    o.wpIn (rnd ro) m P { a with defers := a.defers ++ D } w K' Q := by
  refine ⟨fun _ _ => trivial, ?_⟩
  rw [show (rnd ro).round = ro from rfl, semAt_any hd, eval_app]
  unfold Oper.wp at h
  generalize (execOp a.eval o).run P w = r at h
  cases r with
  | ok nx w' =>
    cases nx with
    | value v => show K' _ _; rw [put_app]; exact hK _ _ h
    | skip => show K' _ _; rw [put_app]; exact hK _ _ h
    | «defer» d =>
      have h1 : K (({ a with defers := d :: a.defers } : Act).put o.dst undef) w' := h
      have h2 := hK _ _ h1
      show K' (({ tmps := a.tmps, defers := d :: (a.defers ++ D) } : Act).put o.dst undef) w'
      rw [← put_app] at h2
      exact h2
    | enter f args =>
      refine ⟨fun h => by simp [rnd, Fence.wide] at h, callsIn_rnd.2 ?_⟩
      have h1 : Calls P f args w' _ := h
      refine h1.mono fun e w'' he => ?_
      cases e with
      | returned v => show K' _ _; rw [put_app]; exact hK _ _ he
      | panicked chain => exact hp _ _ _ he
      | outgrown => exact absurd he not_out
    | row row args =>
      refine ⟨fun h => by simp [rnd, Fence.wide] at h, rowsIn_rnd ?_⟩
      have h1 : Rows P row args w' _ := h
      refine h1.mono fun v w'' he => ?_
      show K' _ _; rw [put_app]; exact hK _ _ he
    | _ => exact h.elim
  | halt x w' =>
    cases x with
    | panic v => exact hp _ _ _ h
    | _ => exact h.elim

theorem list_rnd {ops : Array Oper} {K : Act → World → Prop} {l2 : List Oper} (hK : ∀ (a : Act) (w : World), K { a with defers := a.defers ++ D } w → wpListIn (rnd ro) m P ops Q l2 { a with defers := a.defers ++ D } w) :
    ∀ (l : List Oper) (a : Act) (w : World), noDefer l = true → wpList P ops (Lift D (Then K Q)) l a w → wpListIn (rnd ro) m P ops Q (l ++ l2) { a with defers := a.defers ++ D } w
  | [], a, w, _, h => hK a w h
  | o :: l, a, w, hd, h => by
    simp only [noDefer, List.all_cons, Bool.and_eq_true, Bool.not_eq_true'] at hd
    have ih : ∀ a w, wpList P ops (Lift D (Then K Q)) l a w → wpListIn (rnd ro) m P ops Q (l ++ l2) { a with defers := a.defers ++ D } w := fun a w h => list_rnd hK l a w hd.2 h
    unfold wpList at h
    show wpListIn (rnd ro) m P ops Q (o :: (l ++ l2)) { a with defers := a.defers ++ D } w
    unfold wpListIn
    split at h
    · rename_i hw
      rw [if_pos hw]
      rcases h with h | ⟨_, h⟩
      · exact op_rnd (fun _ _ _ h => h) hd.1 ih h
      · exact absurd h not_out
    · rename_i hw
      rw [if_neg hw]
      refine ⟨fun _ _ => trivial, ?_⟩
      rw [put_app]
      exact ih _ _ h

theorem ops_rnd {ops : Array Oper} (hd : noDefer ops.toList = true) : ∀ (l : List Nat) (a : Act) (w : World), wpOps P ops (Lift D Q) l a w → wpOpsIn (rnd ro) m P ops Q l { a with defers := a.defers ++ D } w
  | [], a, w, h => h
  | i :: l, a, w, h => by
    have ih := ops_rnd hd l
    unfold wpOps at h
    unfold wpOpsIn
    cases ho : ops[i]? with
    | none => simp only [ho] at h ⊢; exact ih _ _ h
    | some o =>
      simp only [ho] at h ⊢
      have hdo : isDefer o = false := by
        have h1 := List.all_eq_true.1 hd o (by obtain ⟨hlt, he⟩ := Array.getElem?_eq_some_iff.1 ho; rw [← he]; exact Array.getElem_mem_toList hlt)
        simpa using h1
      split at h
      · rename_i hw
        rw [if_pos hw]
        rcases h with h | ⟨_, h⟩
        · exact op_rnd (fun _ _ _ h => h) hdo ih h
        · exact absurd h not_out
      · rename_i hw
        rw [if_neg hw]
        refine ⟨fun _ _ => trivial, ?_⟩
        rw [put_app]
        exact ih _ _ h
end

/-! ### Frames with calls put off -/
structure FitsG (D : List Deferred) (n : Nat) (E : Env) (a : Act) : Prop where
  dfr : a.defers = D
  size : a.tmps.size = n
  has : ∀ i v, get E i = some v → a.tmps[i]? = some v
theorem FitsG.fits {D : List Deferred} {n : Nat} {E : Env} {a : Act} (h : FitsG D n E a) : Fits n E { a with defers := [] } := ⟨rfl, h.size, h.has⟩
theorem FitsG.back {D : List Deferred} {n : Nat} {E : Env} {a : Act} (h : FitsG D n E a) : ({ ({ a with defers := [] } : Act) with defers := ({ a with defers := [] } : Act).defers ++ D } : Act) = a := by
  cases a; simp only [List.nil_append]; rw [← h.dfr]
theorem Fits.g {n : Nat} {E : Env} {a : Act} (h : Fits n E a) (D : List Deferred) : FitsG D n E { a with defers := a.defers ++ D } := ⟨by simp [h.dfr], h.size, h.has⟩
theorem Fits.g0 {n : Nat} {E : Env} {a : Act} (h : Fits n E a) : FitsG [] n E a := ⟨h.dfr, h.size, h.has⟩
theorem FitsG.ev {D : List Deferred} {n : Nat} {E : Env} {a : Act} (h : FitsG D n E a) {x : Operand} {v : Value} (hx : Dd.ev E x = some v) : a.eval x = v := by
  have := h.fits.ev hx
  rwa [eval_app] at this
theorem FitsG.evs {D : List Deferred} {n : Nat} {E : Env} {a : Act} (h : FitsG D n E a) {l : List Operand} {vs : List Value} (hl : Dd.evs E l = some vs) : l.map a.eval = vs := by
  have := h.fits.evs hl
  rwa [eval_app] at this
theorem FitsG.put {D : List Deferred} {n : Nat} {E : Env} {a : Act} (h : FitsG D n E a) {d : Nat} (v : Value) (hd : Nat.blt d n = true) : FitsG D n ((d, v) :: E) (a.put (some d) v) :=
  ⟨h.dfr, (h.fits.put v hd).size, (h.fits.put v hd).has⟩
theorem FitsG.sub {D : List Deferred} {n : Nat} {E F : Env} {a : Act} (h : FitsG D n E a) (hs : Sub E F) : FitsG D n F a := ⟨h.dfr, h.size, fun i v hv => h.has i v (hs.get i v hv)⟩

def Cg (ro : Option Nat) (D : List Deferred) (P : Program) (Q : Post) (n : Nat) (c : Code) (E : Env) (w : World) : Prop := ∀ a, FitsG D n E a → c.wpIn (rnd ro) 9 P Q a w
def Pg (D : List Deferred) (n : Nat) (E : Env) (R : Act → World → Prop) (w : World) : Prop := ∀ a, FitsG D n E a → R a w
/-- A list of operations, in a round, or with calls put off. -/
def Lg (ro : Option Nat) (D : List Deferred) (P : Program) (l0 : List Oper) (Q : Post) (n : Nat) (l : List Oper) (E : Env) (w : World) : Prop := ∀ a, FitsG D n E a → wpListIn (rnd ro) 9 P l0.toArray Q l a w

section
variable {P : Program} {Q : Post} {n : Nat} {E : Env} {w : World} {ro : Option Nat} {D : List Deferred}

theorem Cg.seq {x y : Code} (h : Cg ro D P (Then (fun a w => y.wpIn (rnd ro) 9 P Q a w) Q) n x E w) : Cg ro D P Q n (.seq x y) E w := fun a ha => wpIn_seq (by have := h a ha; rwa [then_eq] at this)
theorem Cg.block {id : Nat} {c : Code} (h : Cg ro D P (InBlk id Q) n c E w) : Cg ro D P Q n (.block id c) E w := fun a ha => wpIn_block (by have := h a ha; rwa [inblk_eq] at this)
theorem Cg.skip (h : Pg D n E (Q .normal) w) : Cg ro D P Q n .skip E w := fun a ha => wpIn_skip (h a ha)
theorem Cg.exit {id : Nat} (h : Pg D n E (Q (.exit id)) w) : Cg ro D P Q n (.exit id) E w := fun a ha => wpIn_exit (h a ha)
theorem Cg.ret (h : Pg D n E (Q .ret) w) : Cg ro D P Q n .ret E w := fun a ha => wpIn_ret (h a ha)
theorem Cg.label {l : Nat} (h : Pg D n E (Q .normal) w) : Cg ro D P Q n (.label l) E w := fun a ha => wpIn_label (h a ha)
theorem Cg.cond {c : Operand} {x y : Code} {t : Bool} (hc : ev E c = some (.bool t)) (ht : t = true → Cg ro D P Q n x E w) (hf : t = false → Cg ro D P Q n y E w) : Cg ro D P Q n (.cond c x y) E w :=
  fun a ha => wpIn_cond_split (ha.ev hc) (fun h => ht h a ha) (fun h => hf h a ha)
theorem Cg.condT {c : Operand} {x y : Code} (hc : ev E c = some (.bool true)) (ht : Cg ro D P Q n x E w) : Cg ro D P Q n (.cond c x y) E w := fun a ha => wpIn_cond_true (ha.ev hc) (ht a ha)
theorem Cg.condF {c : Operand} {x y : Code} (hc : ev E c = some (.bool false)) (hf : Cg ro D P Q n y E w) : Cg ro D P Q n (.cond c x y) E w := fun a ha => wpIn_cond_false (ha.ev hc) (hf a ha)
theorem Cg.condB {c : Operand} {x y : Code} {t : Bool} (hc : ev E c = some (.bool t)) (b : Bool) (hb : t = b) (h : Cg ro D P Q n (if b then x else y) E w) : Cg ro D P Q n (.cond c x y) E w :=
  fun a ha => wpIn_cond (ha.ev hc) (by rw [hb]; exact h a ha)
theorem Cg.sub {c : Code} {F : Env} (hs : Sub E F) (h : Cg ro D P Q n c F w) : Cg ro D P Q n c E w := fun a ha => h a (ha.sub hs)
theorem Cg.know {c : Code} (d : Nat) {v v' : Value} (hd : get E d = some v) (hv : v = v') (h : Cg ro D P Q n c ((d, v') :: E) w) : Cg ro D P Q n c E w := fun a ha => h a <| by
  subst hv
  refine ⟨ha.dfr, ha.size, fun i u hu => ?_⟩
  by_cases hi : d = i
  · subst hi; rw [get_cons_self] at hu; exact ha.has _ _ (hd.trans hu)
  · rw [get_cons_ne _ _ hi] at hu; exact ha.has _ _ hu
theorem Cg.out {c : Code} (h : Cg ro D P Q n c E w) : Pg D n E (fun a w => c.wpIn (rnd ro) 9 P Q a w) w := h
theorem Pg.thenN {K : Act → World → Prop} (h : Pg D n E K w) : Pg D n E (Then K Q .normal) w := h
theorem Pg.thenR {K : Act → World → Prop} (h : Pg D n E (Q .ret) w) : Pg D n E (Then K Q .ret) w := h
theorem Pg.thenE {K : Act → World → Prop} {id : Nat} (h : Pg D n E (Q (.exit id)) w) : Pg D n E (Then K Q (.exit id)) w := h
theorem Pg.blkN {id : Nat} (h : Pg D n E (Q .normal) w) : Pg D n E (InBlk id Q .normal) w := h
theorem Pg.blkR {id : Nat} (h : Pg D n E (Q .ret) w) : Pg D n E (InBlk id Q .ret) w := h
theorem Pg.blkHit {id : Nat} (h : Pg D n E (Q .normal) w) : Pg D n E (InBlk id Q (.exit id)) w := fun a ha => by
  show if id = id then Q .normal a w else Q (.exit id) a w
  rw [if_pos rfl]; exact h a ha
theorem Pg.blkE {id id' : Nat} (hne : Nat.beq id' id = false) (h : Pg D n E (Q (.exit id')) w) : Pg D n E (InBlk id Q (.exit id')) w := fun a ha => by
  have hne' : id' ≠ id := Nat.ne_of_beq_eq_false hne
  show if id' = id then Q .normal a w else Q (.exit id') a w
  rw [if_neg hne']; exact h a ha

/-- A loop. -/
theorem Cg.loop {S : Type} (Ei : S → Env) (I : S → World → Prop) (m : S → Nat) {c : Code} (s0 : S) (hE : Sub E (Ei s0)) (h0 : I s0 w)
    (round : ∀ s w, I s w → Cg ro D P (Then (fun a' w' => ∃ s', FitsG D n (Ei s') a' ∧ I s' w' ∧ m s' < m s) Q) n c (Ei s) w) : Cg ro D P Q n (.loop c) E w := by
  intro a ha
  have key : ∀ k s a w, m s = k → FitsG D n (Ei s) a → I s w → (Code.loop c).wpIn (rnd ro) 9 P Q a w := by
    intro k s a w hk hfit hI
    refine wpIn_loop (fun a' w' => ∃ s', FitsG D n (Ei s') a' ∧ I s' w') (fun a' w' => Classical.epsilon fun k => ∃ s', FitsG D n (Ei s') a' ∧ I s' w' ∧ m s' = k ∧ ∀ s'', FitsG D n (Ei s'') a' → I s'' w' → k ≤ m s'') ⟨s, hfit, hI⟩ ?_
    have least : ∀ a' w', (∃ s', FitsG D n (Ei s') a' ∧ I s' w') → ∃ k, ∃ s', FitsG D n (Ei s') a' ∧ I s' w' ∧ m s' = k ∧ ∀ s'', FitsG D n (Ei s'') a' → I s'' w' → k ≤ m s'' := by
      intro a' w' ⟨s', h1, h2⟩
      have : ∀ b s', FitsG D n (Ei s') a' → I s' w' → m s' ≤ b → ∃ k, ∃ s', FitsG D n (Ei s') a' ∧ I s' w' ∧ m s' = k ∧ ∀ s'', FitsG D n (Ei s'') a' → I s'' w' → k ≤ m s'' := by
        intro b
        induction b with
        | zero => intro s' h1 h2 h3; exact ⟨m s', s', h1, h2, rfl, fun s'' _ _ => by omega⟩
        | succ b ih =>
          intro s' h1 h2 h3
          by_cases hex : ∃ s'', FitsG D n (Ei s'') a' ∧ I s'' w' ∧ m s'' ≤ b
          · obtain ⟨s'', q1, q2, q3⟩ := hex; exact ih s'' q1 q2 q3
          · refine ⟨m s', s', h1, h2, rfl, fun s'' q1 q2 => ?_⟩
            rcases Nat.lt_or_ge (m s'') (m s') with hlt | hge
            · exact absurd ⟨s'', q1, q2, by omega⟩ hex
            · exact hge
      exact this (m s') s' h1 h2 (Nat.le_refl _)
    intro a1 w1 hin
    obtain ⟨s1, g1, g2, g3, g4⟩ := Classical.epsilon_spec (least a1 w1 hin)
    have hr := round s1 w1 g2 a1 g1
    rw [then_eq] at hr
    refine Code.wpIn_mono (fun e a2 w2 hq => ?_) hr
    cases e with
    | normal =>
      obtain ⟨s2, q1, q2, q3⟩ := hq
      refine ⟨⟨s2, q1, q2⟩, ?_⟩
      obtain ⟨s3, r1, r2, r3, r4⟩ := Classical.epsilon_spec (least a2 w2 ⟨s2, q1, q2⟩)
      have := r4 s2 q1 q2
      rw [← g3]
      omega
    | _ => exact hq
  exact key _ s0 a w rfl (ha.sub hE) h0
theorem Pg.next {S : Type} {Ei : S → Env} {I : S → World → Prop} {m : S → Nat} {k : Nat} (s' : S) (hE : Sub E (Ei s')) (hI : I s' w) (hm : m s' < k) : Pg D n E (fun a' w' => ∃ s', FitsG D n (Ei s') a' ∧ I s' w' ∧ m s' < k) w :=
  fun _ ha => ⟨s', ha.sub hE, hI, hm⟩

/-- Out of a region, back into such a frame. -/
theorem Pg.low (h : Pg D n E (Q .normal) w) : Pw n E (Lift D Q .normal) w := fun a ha => h _ (ha.g D)
theorem lift_then {D : List Deferred} {Q : Post} : Lift D Q = Lift D (Then (fun a w => Q .normal a w) Q) := by
  funext e a w; cases e <;> rfl
theorem Cg.region {id : Nat} {l : List Oper} (hd : noDefer l = true) (h : Lw P l (Lift D Q) n l E w) : Cg ro D P Q n (.region id l.toArray false) E w := fun a ha => by
  have h1 := h _ ha.fits
  rw [← ha.back]
  rw [lift_then] at h1
  have := list_rnd (ro := ro) (m := 9) (l2 := []) (fun a w h => h) l _ w hd h1
  rw [List.append_nil] at this
  exact wpIn_region_lit this
theorem wpIn_of_any {id : Nat} {l : List Oper} {a : Act} (hm : P.follows .mixedOrders = true) (hd : noDefer l = true) (ha : FitsG D n E a)
    (h : wpAny P .any l.toArray (Lift D Q) l.length (Array.replicate l.length false) { a with defers := [] } { w with drawn := w.drawn + 1 }) : (Code.region id l.toArray true).wpIn (rnd ro) 9 P Q a w :=
  wpIn_region_draw fun t => by
    simp only [Region.schedule, hm, Bool.true_or, if_true]
    have h1 := wpAny_sound l.toArray.size t _ _ _ (by simpa using h)
    have h2 := ops_rnd (ro := ro) (m := 9) (by simpa using hd) _ _ _ h1
    rw [ha.back] at h2
    exact h2
theorem Cg.any {id : Nat} {l : List Oper} (hm : P.follows .mixedOrders = true) (hd : noDefer l = true) (h : ∀ w', Below w.heap.size w w' → w'.heap.size = w.heap.size → Aw P l (Lift D Q) n l.length (Array.replicate l.length false) E w') : Cg ro D P Q n (.region id l.toArray true) E w := fun a ha =>
  wpIn_of_any hm hd ha (h _ (below_draw w) rfl _ ha.fits)
theorem Cg.quiet {id : Nat} {l : List Oper} (hm : P.follows .mixedOrders = true) (hd : noDefer l = true) (hB : Region.lexB .any l.toArray = true) (h : Qw P l (Below w.heap.size w) (fun a' => ∀ w', Below w.heap.size w w' → Lift D Q .normal a' w') n l E) :
    Cg ro D P Q n (.region id l.toArray true) E w := fun a ha => by
  refine wpIn_of_any hm hd ha ?_
  simp only [Region.lexB, Bool.and_eq_true] at hB
  have := wpAnyQ_lex (C := Below w.heap.size w) (md := .any) hB.1 l.toArray.toList 0 (Array.replicate l.toArray.size false) _ (by simp) (by simpa using hB.2) (by simpa using h _ ha.fits)
  have h2 := wpAny_of_quiet (Q := fun a' => ∀ w', Below w.heap.size w w' → Lift D Q .normal a' w') (Q' := Lift D Q) (fun _ w' hw' h => h w' hw') _ _ _ _ (below_draw w) this
  simpa using h2
theorem Cg.tail {id : Nat} {l : List Oper} (k : Nat) (hm : P.follows .mixedOrders = true) (hd : noDefer l = true) (hB : Region.lexTailB .any l.toArray k = true)
    (h : Qw P l (Below w.heap.size w) (fun a' => ∀ w', Below w.heap.size w w' → wpList P l.toArray (Lift D Q) (l.drop k) a' w') n (l.take k) E) : Cg ro D P Q n (.region id l.toArray true) E w := fun a ha => by
  refine wpIn_of_any hm hd ha ?_
  simp only [Region.lexTailB, Bool.and_eq_true, decide_eq_true_eq] at hB
  obtain ⟨⟨⟨⟨hsel, hn⟩, hs⟩, hc⟩, hlex⟩ := hB
  have hn' : k < l.length := by simpa using hn
  have htl : (l.take k).length = k := by simp; omega
  have hdl : (l.drop k).length = l.toArray.size - k := by simp
  have inv0 : HeadInv .any l.toArray k (Array.replicate l.toArray.size false) :=
    ⟨by simp, fun j oj _ hl => (by rw [getD_replicate_false] at hl; cases hl), fun t _ ht => getD_in (by simpa using ht) (getD_replicate_false _ _)⟩
  have H := wpAnyLC_lex (P := P) (C := Below w.heap.size w) (md := .any) (g := l.toArray.size - k) hsel hs hc hn (l.take k) 0 _ _ (fun j hj => by
    have hj' : j < k := by rw [htl] at hj; exact hj
    simp [hj']) (by simpa using htl) inv0 (by rw [htl]; exact hlex) (h _ ha.fits)
  have := wpAny_of_headC (Q' := Lift D Q) (g := l.toArray.size - k) (fun listed a' w' hw' hL => by
    have := wpAny_of_seq (md := .any) (Q' := Lift D Q) (l.drop k) k listed a' w' (fun j => by simp [List.getElem?_drop]) (by rw [hdl]; exact hL.1) (hL.2 w' hw')
    rwa [hdl] at this) _ _ _ _ (below_draw w) H
  rw [htl, show k + (l.toArray.size - k) = l.toArray.size by omega] at this
  simpa using this

/-! ### Lists in which an iterator calls its loop -/
theorem Cg.regionY {id : Nat} {l : List Oper} (h : Lg ro D P l Q n l E w) : Cg ro D P Q n (.region id l.toArray false) E w := fun a ha => wpIn_region_lit (h a ha)
theorem Lg.plain {l0 l : List Oper} (k : Nat) (hd : noDefer (l.take k) = true) (h : Lw P l0 (Lift D (Then (fun a w => wpListIn (rnd ro) 9 P l0.toArray Q (l.drop k) a w) Q)) n (l.take k) E w) : Lg ro D P l0 Q n l E w := fun a ha => by
  have := list_rnd (ro := ro) (m := 9) (l2 := l.drop k) (fun a w h => h) (l.take k) _ w hd (h _ ha.fits)
  rwa [ha.back, List.take_append_drop] at this
theorem Lg.nil {l0 : List Oper} (h : Pg D n E (Q .normal) w) : Lg ro D P l0 Q n [] E w := fun a ha => wpListIn_nil (h a ha)
theorem Lg.out {l0 l : List Oper} (h : Lg ro D P l0 Q n l E w) : Pg D n E (Then (fun a w => wpListIn (rnd ro) 9 P l0.toArray Q l a w) Q .normal) w := h
theorem Lg.sub {l0 l : List Oper} {F : Env} (hs : Sub E F) (h : Lg ro D P l0 Q n l F w) : Lg ro D P l0 Q n l E w := fun a ha => h a (ha.sub hs)
end

/-! ### The loop's call back -/
/-- The iterator calls its loop: a round is run. -/
def Yd (P : Program) (l : Nat) (args : List Value) (W : World) (R : Bool → World → Prop) : Prop := YieldAt Fence.wide 9 P l args.toArray W fun e w' => ∃ b, e = .returned (.bool b) ∧ R b w'
theorem Yd.mono {P : Program} {l : Nat} {args : List Value} {W : World} {R R' : Bool → World → Prop} (h : Yd P l args W R) (hr : ∀ b w', R b w' → R' b w') : Yd P l args W R' := by
  obtain ⟨fn, tmps, assign, body, h1, h2⟩ := h
  exact ⟨fn, tmps, assign, body, h1, h2.mono fun e w' ⟨b, he, hb⟩ => ⟨b, he, hr _ _ hb⟩⟩
theorem round_rnd {ro : Option Nat} {m m' : Nat} {P : Program} {l : Nat} {f : FuncId} {tmps : Array Value} {assign body : Code} {w : World} {R : Ending → World → Prop} (h : RoundIn Fence.wide m P l f tmps assign body w R) : RoundIn (rnd ro) m' P l f tmps assign body w R :=
  ⟨trivial, fun c cs _ => h.2 c cs (room_wide _)⟩

section
variable {P : Program} {Q : Post} {n : Nat} {E : Env} {w : World} {ro : Option Nat} {D : List Deferred} {l0 rest : List Oper} {ty : TypeId} {pos : String} {af : Array Edge}
theorem run_callYield {a : Act} {y : Operand} {xs : List Operand} {vs : List Value} {ts : Array TypeId} {d : Option Nat} {g : Option (Nat × Bool)} {l : Nat} {r : Next} (hy : a.eval y = .func (.yield l) #[] #[]) (hx : xs.map a.eval = vs) (hr : (Instr.yield l vs.toArray).run P w = .ok r w) :
    (execOp a.eval ⟨d, .call { callee := .value y, args := xs.toArray, argTypes := ts }, ty, pos, af, g⟩).run P w = .ok r w := by
  have hmap : xs.toArray.map a.eval = vs.toArray := by rw [List.map_toArray, hx]
  simp [execOp, resolve, hmap, hy, Deferred.ofValue, invoke, hr]
theorem Lg.yield {d l : Nat} {y : Operand} {xs : List Operand} {vs : List Value} {ts : Array TypeId} {R : Bool → World → Prop} (hy : ev E y = some (.func (.yield l) #[] #[])) (hx : evs E xs = some vs) (hd : Nat.blt d n = true) (h : Yd P l vs w R)
    (k : ∀ b w', R b w' → Lg ro D P l0 Q n rest ((d, .bool b) :: E) w') : Lg ro D P l0 Q n (⟨some d, .call { callee := .value y, args := xs.toArray, argTypes := ts }, ty, pos, af, none⟩ :: rest) E w :=
  fun a ha => wpListIn_plain rfl fun K hK => by
    obtain ⟨fn, tmps, assign, body, hr, hR⟩ := h
    refine ⟨fun _ _ => trivial, ?_⟩
    rw [show (rnd ro).round = ro from rfl, semAt_any rfl, run_callYield (ha.ev hy) (ha.evs hx) hr]
    refine ⟨fun h => by simp [rnd, Fence.wide] at h, ?_⟩
    refine (round_rnd hR).mono fun e w' ⟨b, he, hb⟩ => ?_
    subst he
    exact hK _ _ (k b w' hb _ (ha.put _ hd))
end

/-! ### A region that draws its order, and calls its loop in the end: a quiet head, a fenced tail -/
section
variable {P : Program} {Q : Post} {ro : Option Nat} {D : List Deferred} {ops : Array Oper} {md : Region.Mode} {m : Nat}
theorem opAt_rnd (hd : noDefer ops.toList = true) {Q0 : Post} (hp : ∀ c a w, Q0 (.panic c) a w → Q (.panic c) a w) {K K' : Act → World → Prop} (hK : ∀ a w, K a w → K' { a with defers := a.defers ++ D } w) {i : Nat} {a : Act} {w : World}
    (h : wpOp P ops (Lift D Q0) i K a w) : wpOpIn (rnd ro) m P ops Q i K' { a with defers := a.defers ++ D } w := by
  unfold wpOp at h
  unfold wpOpIn
  cases ho : ops[i]? with
  | none => simp only [ho] at h ⊢; exact hK _ _ h
  | some o =>
    simp only [ho] at h ⊢
    have hdo : isDefer o = false := by
      have h1 := List.all_eq_true.1 hd o (by obtain ⟨hlt, he⟩ := Array.getElem?_eq_some_iff.1 ho; rw [← he]; exact Array.getElem_mem_toList hlt)
      simpa using h1
    split at h
    · rename_i hw
      rw [if_pos hw]
      rcases h with h | ⟨_, h⟩
      · exact op_rnd hp hdo hK h
      · exact absurd h not_out
    · rename_i hw
      rw [if_neg hw]
      refine ⟨fun _ _ => trivial, ?_⟩
      rw [put_app]
      exact hK _ _ h
theorem headIn {C : World → Prop} {k g : Nat} {L : Array Bool → Act → Prop} (hd : noDefer ops.toList = true) (hL : ∀ listed a w, C w → L listed a → wpAnyIn (rnd ro) m P md ops Q g listed { a with defers := a.defers ++ D } w) :
    ∀ (f : Nat) (listed : Array Bool) (a : Act) (w : World), C w → wpAnyLC P md ops C k L f listed a → wpAnyIn (rnd ro) m P md ops Q (f + g) listed { a with defers := a.defers ++ D } w
  | 0, listed, a, w, hw, h => by rw [Nat.zero_add]; exact hL _ _ _ hw h
  | f + 1, listed, a, w, hw, h => by
    rw [show f + 1 + g = (f + g) + 1 by omega]
    exact ⟨fun h0 => absurd h0 h.1, fun i hi => opAt_rnd (Q0 := Q) hd (fun _ _ _ h => h) (K := fun a' w' => C w' ∧ wpAnyLC P md ops C k L f (listed.setIfInBounds i true) a') (fun a' w' h' => headIn hd hL f _ a' w' h'.1 h'.2)
      (wpOp_of_qOp hw (fun a' w' hw' h' => ⟨hw', h'⟩) (h.2 i hi).2)⟩
theorem wpAnyIn_of_seq {F : Fence} : ∀ (l : List Oper) (k : Nat) (listed : Array Bool) (a : Act) (w : World), (∀ j, l[j]? = ops[k + j]?) →
    Region.seqB md ops l.length k listed = true → wpListIn F m P ops Q l a w → wpAnyIn F m P md ops Q l.length listed a w
  | [], _, _, _, _, _, hB, h => ⟨by simpa [Region.seqB] using hB, h⟩
  | o :: l, k, listed, a, w, hl, hB, h => by
    have h0 : ops[k]? = some o := by simpa using (hl 0).symm
    simp only [List.length_cons, Region.seqB, Bool.and_eq_true, decide_eq_true_eq] at hB
    refine ⟨fun h1 => (by rw [hB.1] at h1; cases h1), fun i hi => ?_⟩
    rw [hB.1] at hi
    have hik : i = k := by simpa using hi
    subst hik
    have hw : wpOpIn F m P ops Q i (wpListIn F m P ops Q l) a w := by unfold wpOpIn; simp only [h0]; exact h
    exact wpOpIn_mono (fun a' w' h' => wpAnyIn_of_seq l (i + 1) _ a' w' (fun j => by have := hl (j + 1); simpa [Nat.add_assoc, Nat.add_comm 1 j] using this) hB.2 h') hw
theorem Cg.tailY {n : Nat} {E : Env} {w : World} {id : Nat} {l : List Oper} (k : Nat) (hm : P.follows .mixedOrders = true) (hd : noDefer l = true) (hB : Region.lexTailB .any l.toArray k = true)
    (h : Qw P l (Below w.heap.size w) (fun a' => ∀ w', Below w.heap.size w w' → wpListIn (rnd ro) 9 P l.toArray Q (l.drop k) { a' with defers := a'.defers ++ D } w') n (l.take k) E) : Cg ro D P Q n (.region id l.toArray true) E w := fun a ha => by
  simp only [Region.lexTailB, Bool.and_eq_true, decide_eq_true_eq] at hB
  obtain ⟨⟨⟨⟨hsel, hn⟩, hs⟩, hc⟩, hlex⟩ := hB
  have hn' : k < l.length := by simpa using hn
  have htl : (l.take k).length = k := by simp; omega
  have hdl : (l.drop k).length = l.toArray.size - k := by simp
  have inv0 : HeadInv .any l.toArray k (Array.replicate l.toArray.size false) :=
    ⟨by simp, fun j oj _ hl => (by rw [getD_replicate_false] at hl; cases hl), fun t _ ht => getD_in (by simpa using ht) (getD_replicate_false _ _)⟩
  have H := wpAnyLC_lex (P := P) (C := Below w.heap.size w) (md := .any) (g := l.toArray.size - k) hsel hs hc hn (l.take k) 0 _ _ (fun j hj => by
    have hj' : j < k := by rw [htl] at hj; exact hj
    simp [hj']) (by simpa using htl) inv0 (by rw [htl]; exact hlex) (h _ ha.fits)
  have := headIn (ro := ro) (D := D) (Q := Q) (m := 9) (g := l.toArray.size - k) (ops := l.toArray) (by simpa using hd) (fun listed a' w' hw' hL => by
    have := wpAnyIn_of_seq (md := .any) (F := rnd ro) (m := 9) (Q := Q) (l.drop k) k listed { a' with defers := a'.defers ++ D } w' (fun j => by simp [List.getElem?_drop]) (by rw [hdl]; exact hL.1) (hL.2 w' hw')
    rwa [hdl] at this) _ _ _ { w with drawn := w.drawn + 1 } (below_draw w) H
  rw [htl, show k + (l.toArray.size - k) = l.toArray.size by omega, ha.back] at this
  exact wpIn_region_any hm this
theorem Qw.doneY {l0 l : List Oper} {C : World → Prop} {n : Nat} {E : Env} (h : ∀ w', C w' → Lg ro D P l0 Q n l E w') : Qw P l0 C (fun a' => ∀ w', C w' → wpListIn (rnd ro) 9 P l0.toArray Q l { a' with defers := a'.defers ++ D } w') n [] E :=
  fun a ha => wpQuiet_nil fun w' hw' => h w' hw' _ (ha.g D)
end

/-! ### What stays -/
/-- What the loop's own books may turn: blocks that are no cells, from B on. -/
def Nc (B : Nat) (A A' : World) : Prop := ∃ r, A.grownBy A' r ∧ ∀ b, r = some b → B ≤ b ∧ ∃ o : Obj, A.heap[b]? = some o ∧ o.isCells = false
/-- What the iterator may turn between two rounds: one block, if any. -/
def Itr (wr : Option Nat) (A A' : World) : Prop := ∃ r, A.grownBy A' r ∧ (r = none ∨ r = wr)
theorem nc_put {B l : Nat} {A : World} {r : Loop} (o : Obj) (hB : B ≤ l) (h : A.heap[l]? = some (.loop r)) : Nc B A (A.putObj l o) := ⟨some l, grownBy_putObj' A l o, fun b e => by cases e; exact ⟨hB, _, h, rfl⟩⟩
theorem nc_alloc (B : Nat) (A : World) (o : Obj) : Nc B A (A.alloc o) := ⟨none, World.grownBy_alloc A o none, fun b e => by cases e⟩
theorem Nc.mono {B B' : Nat} {A A' : World} (h : Nc B A A') (hB : B' ≤ B) : Nc B' A A' := by
  obtain ⟨r, h1, h2⟩ := h
  exact ⟨r, h1, fun b e => ⟨Nat.le_trans hB (h2 b e).1, (h2 b e).2⟩⟩
theorem Nc.size {B : Nat} {A A' : World} (h : Nc B A A') : A.heap.size ≤ A'.heap.size := by obtain ⟨r, h1, _⟩ := h; exact h1.size
theorem Nc.blk {B : Nat} {A A' : World} (h : Nc B A A') {k : Nat} {o : Obj} (hk : A.heap[k]? = some o) (hc : o.isCells = true) : A'.heap[k]? = A.heap[k]? := by
  obtain ⟨r, h1, h2⟩ := h
  refine h1.block k (Array.getElem?_eq_some_iff.1 hk).1 fun e => ?_
  obtain ⟨_, o', ho', hc'⟩ := h2 k e.symm
  rw [hk] at ho'; cases ho'
  rw [hc] at hc'; cases hc'
theorem Nc.below {B : Nat} {A A' : World} (h : Nc B A A') {n0 : Nat} (hn : n0 ≤ B) (hz : n0 ≤ A.heap.size) : Below n0 A A' := by
  obtain ⟨r, h1, h2⟩ := h
  exact grown_below h1 hz fun k e => Nat.le_trans hn (h2 k e).1
theorem _root_.Go.RowKit.Below.nc {B n0 : Nat} {W A A' : World} (h : Below n0 W A) (k : Nc B A A') (hn : n0 ≤ B) (hz : n0 ≤ W.heap.size) : Below n0 W A' := h.trans (k.below hn (Nat.le_trans hz h.size))
theorem Blk.nc {B : Nat} {w w' : World} {b : Nat} {T : TypeId} {cs : List Value} (h : Blk w b T cs) (k : Nc B w w') : Blk w' b T cs := h.keep (k.blk h rfl)
theorem Cells.nc {B : Nat} {w w' : World} {ao : Option Addr} {ys : List Value} (h : Cells w ao ys) (k : Nc B w w') : Cells w' ao ys := h.keep fun a ha hne => by
  obtain ⟨u, ys, rfl⟩ := List.exists_cons_of_ne_nil hne
  have h1 := h a ha 0 u (by simp)
  unfold World.cell? at h1
  rw [add_block] at h1
  cases ho : w.heap[a.block]? with
  | none => simp [ho] at h1
  | some o =>
    have hc : o.isCells = true := by cases o <;> simp_all [Obj.isCells]
    rw [k.blk ho hc, ho]
theorem Sl.nc {B : Nat} {w w' : World} {sz : Nat} {v : Value} {n : Nat} {xs : List Value} (h : Sl w sz v n xs) (k : Nc B w w') : Sl w' sz v n xs := by
  obtain ⟨h1, ao, cap, rfl, h2, h3, h4, h5⟩ := h
  exact ⟨h1, ao, cap, rfl, h2, h3, h4, h5.nc k⟩
theorem own_nc {B : Nat} {w w' : World} {base : Nat} {e : TypeId} {sz : Nat} {v : Value} {n : Nat} {xs : List Value} (h : w.ownsRow base e sz v n xs) (k : Nc B w w') : w'.ownsRow base e sz v n xs := by
  obtain ⟨h1, h2⟩ := h
  rcases h2 with h2 | ⟨b, cap, cur, rfl, hb, hg, h3⟩
  · exact ⟨h1, .inl h2⟩
  · exact ⟨h1, .inr ⟨b, cap, cur, rfl, hb, (k.blk hg rfl).trans hg, h3⟩⟩
theorem KRow.nc {B : Nat} {w w' : World} {base : Nat} {e : TypeId} {sz : Nat} {v : Value} {n : Nat} {xs : List Value} (h : KRow w base e sz v n xs) (k : Nc B w w') : KRow w' base e sz v n xs := by
  rcases h with h | ⟨g, cur, rfl, h0, hb, h1⟩
  · exact .inl (own_nc h k)
  · exact .inr ⟨g, cur, rfl, h0, hb.nc k, h1⟩
/-- What a round owes: what is no cells, from B on, lies as it lay. -/
theorem kf_bs {B : Nat} {W w w' : World} (h : KeepsFrom B W w) (k : Below w.heap.size w w') : KeepsFrom B W w' := h.trans ⟨k.size, fun i o _ hi _ => (k.block i (Array.getElem?_eq_some_iff.1 hi).1).trans hi⟩
theorem _root_.Go.KeepsFrom.bs {B : Nat} {W w w' : World} (h : KeepsFrom B W w) (k : Below w.heap.size w w') : KeepsFrom B W w' := kf_bs h k
theorem _root_.Go.KeepsFrom.blk {B b : Nat} {W w w' : World} {T : TypeId} {cs : List Value} (h : KeepsFrom B W w) (hb : Blk w b T cs) (k : w.grownBy w' (some b)) : KeepsFrom B W w' :=
  h.trans ⟨k.size, fun i o _ hi hc => (k.block i (Array.getElem?_eq_some_iff.1 hi).1 (fun e => by cases e; rw [show w.heap[b]? = _ from hb] at hi; cases hi; cases hc)).trans hi⟩
theorem _root_.Go.KeepsFrom.own {B base : Nat} {W w w' : World} {e : TypeId} {sz k : Nat} {v : Value} {xs : List Value} (h : KeepsFrom B W w) (ho : w.ownsRow base e sz v k xs) (g : w.grownBy w' v.ownBlock) : KeepsFrom B W w' :=
  h.trans ⟨g.size, fun i o _ hi hc => (g.block i (Array.getElem?_eq_some_iff.1 hi).1 (fun e => by
    rcases ho.2 with ⟨rfl, _⟩ | ⟨b, cap, cur, rfl, _, hg, _⟩
    · simp [Value.ownBlock] at e
    · simp only [Value.ownBlock, Option.some.injEq] at e
      subst e
      rw [hg] at hi; cases hi; cases hc)).trans hi⟩
theorem _root_.Go.KeepsFrom.nc {B : Nat} {w A A' : World} (h : KeepsFrom B w A) (k : Nc w.heap.size A A') : KeepsFrom B w A' := by
  obtain ⟨r, g, hr⟩ := k
  refine ⟨Nat.le_trans h.size g.size, fun i o hB hi ho => ?_⟩
  have h1 := h.same i o hB hi ho
  refine (g.block i (Array.getElem?_eq_some_iff.1 h1).1 fun e => ?_).trans h1
  have := (hr i e.symm).1
  have := (Array.getElem?_eq_some_iff.1 hi).1
  omega
theorem nc_kf {B l : Nat} {A A' : World} (h : Nc l A A') : A.heap.size ≤ A'.heap.size := h.size

/-- What must stay: these blocks. -/
def Kp (Nd : Nat → Prop) (w w' : World) : Prop := w.heap.size ≤ w'.heap.size ∧ ∀ b, Nd b → b < w.heap.size → w'.heap[b]? = w.heap[b]?
theorem Kp.refl {Nd : Nat → Prop} {w : World} : Kp Nd w w := ⟨Nat.le_refl _, fun _ _ _ => rfl⟩
theorem Kp.trans {Nd : Nat → Prop} {a b c : World} (h : Kp Nd a b) (k : Kp Nd b c) : Kp Nd a c := ⟨Nat.le_trans h.1 k.1, fun i hi hl => (k.2 i hi (Nat.lt_of_lt_of_le hl h.1)).trans (h.2 i hi hl)⟩
theorem Kp.grown {Nd : Nat → Prop} {a b c : World} (h : Kp Nd a b) {r : Option Nat} (g : b.grownBy c r) (hr : ∀ i, r = some i → ¬ Nd i) : Kp Nd a c := h.trans ⟨g.size, fun i hi hl => g.block i hl fun e => hr i e.symm hi⟩
theorem Kp.bs {Nd : Nat → Prop} {a b c : World} (h : Kp Nd a b) (g : Below b.heap.size b c) : Kp Nd a c := h.trans ⟨g.size, fun i _ hl => g.block i hl⟩
theorem Kp.nc {Nd : Nat → Prop} {B : Nat} {a b c : World} (h : Kp Nd a b) (g : Nc B b c) (hB : ∀ i, Nd i → i < B) : Kp Nd a c := by
  obtain ⟨r, h1, h2⟩ := g
  exact h.grown h1 fun i e hi => by have := (h2 i e).1; have := hB i hi; omega
theorem Kp.below {Nd : Nat → Prop} {B : Nat} {a b c : World} (h : Kp Nd a b) (g : Below B b c) (hB : ∀ i, Nd i → i < B) : Kp Nd a c := h.trans ⟨g.size, fun i hi _ => g.block i (hB i hi)⟩

/-! ### The statement -/
/-- What an iterator promises: it hands over just these, one by one; between two rounds it turns that one block, if any; the blocks that it needs must stay. -/
def Sq {α : Type} (P : Program) (gf : FuncId) (lf lb : List Value) (encs : α → List Value) (Nd : Nat → Prop) (wr : Option Nat) (xs : List α) (w : World) : Prop :=
  ∀ (l : Nat) (J : List α → World → Prop) (W : World), Below w.heap.size w W → (∀ pre A A', J pre A → Itr wr A A' → J pre A') →
    (∀ pre x A, J pre A → pre ++ [x] <+: xs → Yd P l (encs x) A fun b A' => b = true ∧ J (pre ++ [x]) A' ∧ Kp Nd A A') → J [] W →
    Fnc P gf (lf ++ .func (.yield l) #[] #[] :: lb) W fun _ A => J xs A
/-- How a round ends. -/
def Rnd (B : Nat) (Nd : Nat → Prop) (W : World) (K : World → Prop) : Post := fun e _ w' => match e with
  | .normal => KeepsFrom B W w' ∧ Kp Nd W w' ∧ K w'
  | _ => False
/-- What stands behind the loop variable's assignment: the books tell that a round runs; the body. -/
def Asg (B : Nat) (Nd : Nat → Prop) (l : Nat) (P : Program) (body : Code) (W : World) (K : World → Prop) : Post := fun e a w => match e with
  | .normal => KeepsFrom B W w ∧ Kp Nd W w ∧ ∀ w2, Nc l w w2 → w2.heap.size = w.heap.size → (∃ r, w2.heap[l]? = some (.loop r)) → body.wpIn (rnd (some l)) 9 P (Rnd B Nd w2 K) a w2
  | _ => False
theorem NoP.rnd {B : Nat} {Nd : Nat → Prop} {W : World} {K : World → Prop} : NoP (Rnd B Nd W K) := fun _ _ _ h => h
theorem NoP.asg {B l : Nat} {Nd : Nat → Prop} {P : Program} {body : Code} {W : World} {K : World → Prop} : NoP (Asg B Nd l P body W K) := fun _ _ _ h => h
section
variable {P : Program} {n : Nat} {E : Env} {w W : World} {B l : Nat} {Nd : Nat → Prop} {body : Code} {K : World → Prop}
theorem Pg.asg (h1 : KeepsFrom B W w) (h2 : Kp Nd W w) (h : ∀ w2, Nc l w w2 → w2.heap.size = w.heap.size → (∃ r, w2.heap[l]? = some (.loop r)) → Cg (some l) [] P (Rnd B Nd w2 K) n body E w2) : Pg [] n E (Asg B Nd l P body W K .normal) w :=
  fun a ha => ⟨h1, h2, fun w2 a1 a2 a3 => h w2 a1 a2 a3 a ha⟩
theorem Pg.rnd {D : List Deferred} (h1 : KeepsFrom B W w) (h2 : Kp Nd W w) (h : K w) : Pg D n E (Rnd B Nd W K .normal) w := fun _ _ => ⟨h1, h2, h⟩
end

abbrev recd (fn : FuncId) (tmps : Array Value) (ps : Array Tmp) (assign body : Code) (dD : Nat) (st : LoopState) : Loop := { state := st, pending := none, fn, tmps, params := ps, assign, body, defers := dD }

theorem yd_of {α : Type} {P : Program} {l dD : Nat} {fn : FuncId} {tmps : Array Value} {ps : Array Tmp} {assign body : Code} {B : Nat} {Nd : Nat → Prop} {xs : List α} {encs : α → List Value} (hps : ∀ x, (encs x).length = ps.size) {I : List α → World → Prop} {Ex : World → Prop} (hBl : B ≤ l) (hnl : ∀ b, Nd b → b < l)
    (hI : ∀ pre A A', I pre A → Nc B A A' → I pre A') (hE1 : ∀ A A', Ex A → KeepsFrom B A A' → Ex A') (hE2 : ∀ A o, Ex A → Ex (A.putObj l o))
    (hround : ∀ pre x W, I pre W → pre ++ [x] <+: xs → (∃ r, W.heap[l]? = some (.loop r)) → assign.wpIn (rnd (some l)) 9 P (Asg B Nd l P body W (I (pre ++ [x]))) { tmps := (ps.zip (encs x).toArray).foldl (fun t (p, v) => t.setIfInBounds p v) tmps, defers := [] } W)
    (pre : List α) (x : α) (W : World) (h : I pre W ∧ W.heap[l]? = some (.loop (recd fn tmps ps assign body dD .ready)) ∧ Ex W) (hlen : pre ++ [x] <+: xs) :
    Yd P l (encs x) W fun b W' => b = true ∧ (I (pre ++ [x]) W' ∧ W'.heap[l]? = some (.loop (recd fn tmps ps assign body dD .ready)) ∧ Ex W') ∧ Kp Nd W W' := by
  obtain ⟨hi, hl, hex⟩ := h
  refine ⟨fn, _, assign, body, run_yield hl (by simpa using hps x), roundIn_of_wpIn (F := Fence.wide) trivial ?_⟩
  refine wpIn_mono (hround pre x W hi hlen ⟨_, hl⟩) ?_
  rintro e a1 W1 hq
  cases e with
  | normal =>
    obtain ⟨hk1, hb1, hq⟩ := hq
    have hl1 := hk1.same l _ hBl hl rfl
    have hlt1 := (Array.getElem?_eq_some_iff.1 hl1).1
    refine ⟨_, run_beginRound hl1 rfl, ?_⟩
    have hl2 : (W1.putObj l (.loop (recd fn tmps ps assign body dD .busy))).heap[l]? = some (.loop (recd fn tmps ps assign body dD .busy)) := World.putObj_heap_same hlt1
    have hn2 : Nc l W1 (W1.putObj l (.loop (recd fn tmps ps assign body dD .busy))) := nc_put _ (Nat.le_refl _) hl1
    refine wpIn_mono (hq _ hn2 (by simp) ⟨_, hl2⟩) ?_
    rintro e a3 W3 hp
    cases e with
    | normal =>
      obtain ⟨hk3, hb3, hi3⟩ := hp
      have hl3 := hk3.same l _ hBl hl2 rfl
      have hlt3 := (Array.getElem?_eq_some_iff.1 hl3).1
      have hn3 : Nc l W3 (W3.putObj l (.loop (recd fn tmps ps assign body dD .ready))) := nc_put _ (Nat.le_refl _) hl3
      refine ⟨_, _, run_endRound none hl3, true, rfl, rfl, ⟨hI _ _ _ hi3 (hn3.mono hBl), World.putObj_heap_same hlt3, hE2 _ _ (hE1 _ _ (hE2 _ _ (hE1 _ _ hex hk1)) hk3)⟩, ?_⟩
      exact (((hb1.nc hn2 hnl).trans hb3).nc hn3 hnl)
    | _ => exact hp.elim
  | _ => exact hq.elim

/-- The frame in a round. -/
def binds : List Nat → List Value → Env → Env
  | p :: ps, v :: vs, E => binds ps vs ((p, v) :: E)
  | _, _, E => E
theorem fits_binds {n : Nat} : ∀ (pl : List Nat) (vs : List Value) (E : Env) (a : Act), pl.all (Nat.blt · n) = true → Fits n E a → Fits n (binds pl vs E) { a with tmps := (pl.zip vs).foldl (fun t (p, v) => t.setIfInBounds p v) a.tmps }
  | [], _, _, _, _, h => h
  | _ :: _, [], _, _, _, h => h
  | p :: ps, v :: vs, E, a, hp, h => by
    simp only [List.all_cons, Bool.and_eq_true] at hp
    exact fits_binds ps vs ((p, v) :: E) (a.put (some p) v) hp.2 (h.put v hp.1)

section
variable {P : Program} {Q : Post} {n : Nat} {E : Env} {w : World} {D : List Deferred} {α : Type} {g : Operand} {pl : List Nat} {assign body : Code} {gf : FuncId} {lf lb : List Value} {encs : α → List Value} {Nd : Nat → Prop} {wr : Option Nat} {xs : List α}
theorem run_rangeCall {a : Act} {l : Nat} {W : World} (hf : ∃ fn, P.funcs[gf]? = some fn ∧ (fn.name == "runtime.NumGoroutine") = false ∧ fn.body.isSome = true) (hg : a.eval g = .func (.func gf) lf.toArray lb.toArray) :
    ∃ d : Deferred, (resolve a.eval (rangeCall g l) 0).run P W = .ok d W ∧ (∀ f', Target.leads P W d.target d.args = some f' → (rnd none).fn f') ∧ (invoke d.target d.args).run P W = .ok (.enter gf (lf ++ .func (.yield l) #[] #[] :: lb).toArray) W := by
  refine ⟨_, by simp only [resolve, hg]; simp [go_sem]; rfl, fun _ _ => trivial, ?_⟩
  simp [invoke, go_sem, run_callFunc (P := P) (w := W) hf]

/-- An outermost range over a function. -/
theorem Cg.range (hg : ev E g = some (.func (.func gf) lf.toArray lb.toArray)) (hsq : Sq P gf lf lb encs Nd wr xs w) (hn0 : ∀ b, Nd b → b < w.heap.size) (hps : ∀ x, (encs x).length = pl.length) (hpl : pl.all (Nat.blt · n) = true) (I : List α → World → Prop)
    (hwr : ∀ b, wr = some b → b < w.heap.size) (h0 : I [] w) (hI : ∀ pre A A', I pre A → Nc w.heap.size A A' → I pre A') (hW : ∀ pre A A', I pre A → Itr wr A A' → I pre A')
    (hround : ∀ l pre x W, w.heap.size ≤ l → I pre W → pre ++ [x] <+: xs → (∃ r, W.heap[l]? = some (.loop r)) → Cg (some l) [] P (Asg w.heap.size Nd l P body W (I (pre ++ [x]))) n assign (binds pl (encs x) E) W)
    (hdone : ∀ d W, w.heap.size ≤ d → I xs W → W.heap[d]? = some (.deferred (some [])) → Pg ({ target := .collected d, args := #[] } :: D) n E (Q .normal) W) : Cg none D P Q n (.rangeFunc g pl.toArray assign body) E w := fun a ha => by
  refine wpIn_rangeFunc ?_
  intro fn hfn
  rw [show (rnd none).round = none from rfl]
  obtain ⟨W1, hW1⟩ : ∃ W1, (w.alloc (.deferred (some []))).alloc (.loop (recd fn a.tmps pl.toArray assign body w.heap.size .ready)) = W1 := ⟨_, rfl⟩
  have hL1 : W1.heap[w.heap.size + 1]? = some (.loop (recd fn a.tmps pl.toArray assign body w.heap.size .ready)) := by
    rw [← hW1]; have := World.alloc_heap_new (w.alloc (.deferred (some []))) (.loop (recd fn a.tmps pl.toArray assign body w.heap.size .ready)); rwa [World.size_alloc] at this
  have hK1 : W1.heap[w.heap.size]? = some (.deferred (some [])) := by
    rw [← hW1]; exact (Below.heap_alloc _ _ _ (by simp)).trans (World.alloc_heap_new w _)
  have hI1 : I [] W1 := by rw [← hW1]; exact hI _ _ _ (hI _ _ _ h0 (nc_alloc _ _ _)) (nc_alloc _ _ _)
  have hb1 : Below w.heap.size w W1 := by
    rw [← hW1]; exact ((Below.refl _ w).alloc (Nat.le_refl _) _).alloc (by simp) _
  have hcall := hsq (w.heap.size + 1) (fun pre W => I pre W ∧ W.heap[w.heap.size + 1]? = some (.loop (recd fn a.tmps pl.toArray assign body w.heap.size .ready)) ∧ W.heap[w.heap.size]? = some (.deferred (some []))) W1 hb1
    (fun pre A A' ⟨h1, h2, h3⟩ hit => by
      refine ⟨hW pre A A' h1 hit, ?_, ?_⟩
      · obtain ⟨r, hgr, hr⟩ := hit
        refine (hgr.block _ (Array.getElem?_eq_some_iff.1 h2).1 fun e => ?_).trans h2
        rcases hr with hr | hr
        · rw [hr] at e; cases e
        · have := hwr _ (hr ▸ e.symm); omega
      · obtain ⟨r, hgr, hr⟩ := hit
        refine (hgr.block _ (Array.getElem?_eq_some_iff.1 h3).1 fun e => ?_).trans h3
        rcases hr with hr | hr
        · rw [hr] at e; cases e
        · have := hwr _ (hr ▸ e.symm); omega)
    (fun pre x A h hlen => yd_of (by simpa using hps) (by omega) (fun b hb => by have := hn0 b hb; omega) hI (fun A A' h k => k.same _ _ (Nat.le_refl _) h rfl) (fun A o h => (World.putObj_heap_other (by omega)).trans h)
      (fun pre x W hi hl hr => by
        have hfit := fits_binds pl (encs x) E _ hpl ha.fits
        have := hround (w.heap.size + 1) pre x W (by omega) hi hl hr _ hfit.g0
        simpa using this) pre x A h hlen)
    ⟨hI1, hL1, hK1⟩
  obtain ⟨d, hd1, hd2, hd3⟩ := run_rangeCall (P := P) (l := w.heap.size + 1) (W := W1) (lf := lf) (lb := lb) hcall.1 (ha.ev hg)
  refine ⟨w.heap.size + 1, [{ target := .collected w.heap.size, args := #[] }], W1, d, W1, gf, _, W1, ?_, hd1, hd2, hd3, fun h => by simp [rnd, Fence.wide] at h, callsIn_rnd.2 (hcall.2.mono ?_)⟩
  · rw [← hW1]; exact run_enterLoop_outer _ _ _ _ _
  · rintro e W2 ⟨v, rfl, hi, hl, hk⟩
    refine ⟨none, _, run_endLoop hl (by simp), ?_⟩
    refine hdone w.heap.size _ (Nat.le_refl _) (hI _ _ _ hi (nc_put _ (by omega) hl)) ((World.putObj_heap_other (by omega)).trans hk) _ ⟨?_, ha.size, ha.has⟩
    show _ ++ _ = _
    rw [ha.dfr]; rfl

/-- One within a round of loop l₀. -/
theorem Cg.rangeN {lo : Nat} (hlo : ∃ r, w.heap[lo]? = some (.loop r)) (hg : ev E g = some (.func (.func gf) lf.toArray lb.toArray)) (hsq : Sq P gf lf lb encs Nd wr xs w) (hn0 : ∀ b, Nd b → b < w.heap.size) (hps : ∀ x, (encs x).length = pl.length) (hpl : pl.all (Nat.blt · n) = true) (I : List α → World → Prop)
    (hwr : ∀ b, wr = some b → b < w.heap.size) (h0 : I [] w) (hI : ∀ pre A A', I pre A → Nc w.heap.size A A' → I pre A') (hW : ∀ pre A A', I pre A → Itr wr A A' → I pre A')
    (hround : ∀ l pre x W, w.heap.size ≤ l → I pre W → pre ++ [x] <+: xs → (∃ r, W.heap[l]? = some (.loop r)) → Cg (some l) [] P (Asg w.heap.size Nd l P body W (I (pre ++ [x]))) n assign (binds pl (encs x) E) W)
    (hdone : ∀ W, I xs W → Pg D n E (Q .normal) W) : Cg (some lo) D P Q n (.rangeFunc g pl.toArray assign body) E w := fun a ha => by
  obtain ⟨r0, hlo⟩ := hlo
  refine wpIn_rangeFunc ?_
  intro fn hfn
  rw [show (rnd (some lo)).round = some lo from rfl]
  obtain ⟨W1, hW1⟩ : ∃ W1, w.alloc (.loop (recd fn a.tmps pl.toArray assign body r0.defers .ready)) = W1 := ⟨_, rfl⟩
  have hL1 : W1.heap[w.heap.size]? = some (.loop (recd fn a.tmps pl.toArray assign body r0.defers .ready)) := by rw [← hW1]; exact World.alloc_heap_new w _
  have hI1 : I [] W1 := by rw [← hW1]; exact hI _ _ _ h0 (nc_alloc _ _ _)
  have hb1 : Below w.heap.size w W1 := by rw [← hW1]; exact (Below.refl _ w).alloc (Nat.le_refl _) _
  have hcall := hsq w.heap.size (fun pre W => I pre W ∧ W.heap[w.heap.size]? = some (.loop (recd fn a.tmps pl.toArray assign body r0.defers .ready)) ∧ True) W1 hb1
    (fun pre A A' ⟨h1, h2, _⟩ hit => by
      refine ⟨hW pre A A' h1 hit, ?_, trivial⟩
      obtain ⟨r, hgr, hr⟩ := hit
      refine (hgr.block _ (Array.getElem?_eq_some_iff.1 h2).1 fun e => ?_).trans h2
      rcases hr with hr | hr
      · rw [hr] at e; cases e
      · have := hwr _ (hr ▸ e.symm); omega)
    (fun pre x A h hlen => yd_of (by simpa using hps) (Nat.le_refl _) hn0 hI (fun _ _ _ _ => trivial) (fun _ _ _ => trivial)
      (fun pre x W hi hl hr => by
        have hfit := fits_binds pl (encs x) E _ hpl ha.fits
        have := hround w.heap.size pre x W (Nat.le_refl _) hi hl hr _ hfit.g0
        simpa using this) pre x A h hlen)
    ⟨hI1, hL1, trivial⟩
  obtain ⟨d, hd1, hd2, hd3⟩ := run_rangeCall (P := P) (l := w.heap.size) (W := W1) (lf := lf) (lb := lb) hcall.1 (ha.ev hg)
  refine ⟨w.heap.size, [], W1, d, W1, gf, _, W1, ?_, hd1, fun f h => trivial, hd3, fun h => by simp [rnd, Fence.wide] at h, callsIn_rnd.2 (hcall.2.mono ?_)⟩
  · rw [← hW1]; exact run_enterLoop_inner hlo _ _ _ _ _
  · rintro e W2 ⟨v, rfl, hi, hl, _⟩
    refine ⟨none, _, run_endLoop hl (by simp), ?_⟩
    exact hdone _ (hI _ _ _ hi (nc_put _ (Nat.le_refl _) hl)) _ ⟨ha.dfr, ha.size, ha.has⟩
end

/-! ### Ways that meet again -/
section
variable {P : Program} {n : Nat} {E : Env} {w : World} {ro : Option Nat} {D : List Deferred}
def MidG {St : Type} (D : List Deferred) (n : Nat) (Ei : St → Env) (I : St → World → Prop) : Post := fun x a w => x = .normal ∧ ∃ s, FitsG D n (Ei s) a ∧ I s w
theorem NoP.midG {St : Type} {Ei : St → Env} {I : St → World → Prop} : NoP (MidG D n Ei I) := fun _ _ _ h => by cases h.1
theorem Cg.midS {St : Type} {c : Code} (Ei : St → Env) (I : St → World → Prop) {K : Act → World → Prop} {Q : Post} (h : Cg ro D P (MidG D n Ei I) n c E w) (k : ∀ s w', I s w' → Pg D n (Ei s) K w') : Cg ro D P (Then K Q) n c E w := fun a ha =>
  Code.wpIn_mono (fun x a' w' hm => by
    obtain ⟨rfl, s, hf, hi⟩ := hm
    exact k s w' hi a' hf) (h a ha)
theorem Pg.midS {St : Type} {Ei : St → Env} {I : St → World → Prop} (s : St) (hs : Sub E (Ei s)) (hi : I s w) : Pg D n E (MidG D n Ei I .normal) w := fun _ ha => ⟨rfl, s, ha.sub hs, hi⟩
end

/-! ### Functions that hold such loops -/
def RetG (P : Program) (fn : Func) (R : Value → World → Prop) : Post := fun e a w => match e with
  | .panic _ => False
  | e => bodyPostM Fence.wide 9 P fn (fun e w' => ∃ v, e = .returned v ∧ R v w') e a w
theorem NoP.retG {P : Program} {fn : Func} {R : Value → World → Prop} : NoP (RetG P fn R) := fun _ _ _ h => h
section
variable {P : Program} {n : Nat} {E : Env} {w : World} {fn : Func} {R : Value → World → Prop}
theorem Fnc.enterG {f : FuncId} {c : Code} {args : List Value} (hf : P.funcs[f]? = some fn) (hname : (fn.name == "runtime.NumGoroutine") = false) (hb : fn.body = some c)
    (hn : fn.ntmps = n) (hl : Nat.ble args.length n = true) (h : Cg none [] P (RetG P fn R) n c (params 0 args) w) : Fnc P f args w R := by
  refine ⟨⟨fn, hf, hname, by simp [hb]⟩, callsIn_wide.1 (callsIn_of_wp_marks (n := 9) (F := Fence.wide) hf hb trivial (wpIn_mono (h _ ⟨rfl, ?_, fun i v hv => ?_⟩) fun e a w hq => ?_) rfl)⟩
  · have : args.length ≤ n := Nat.le_of_ble_eq_true hl
    simp [hn]; omega
  · have hg := (params_get args 0 i v hv).2
    simp only [Nat.sub_zero] at hg
    have hlt : i < args.length := by
      rcases Nat.lt_or_ge i args.length with h | h
      · exact h
      · simp [List.getElem?_eq_none h] at hg
    rw [Array.getElem?_append]
    simp only [List.size_toArray, hlt, if_true, List.getElem?_toArray]
    exact hg
  · cases e <;> first | exact hq | exact hq.elim
/-- The function returns; the books are shut. -/
theorem Pg.close {d : Nat} (hd : w.heap[d]? = some (.deferred (some []))) (h : ∀ w', Nc d w w' → w'.heap.size = w.heap.size → Pw n E (Ret P fn R .ret) w') : Pg [{ target := .collected d, args := #[] }] n E (RetG P fn R .ret) w := fun a ha => by
  have hn : Nc d w (w.putObj d (.deferred none)) := ⟨some d, grownBy_putObj' w d _, fun b e => by cases e; exact ⟨Nat.le_refl _, _, hd, rfl⟩⟩
  obtain ⟨_, v, hr, hR⟩ := h _ hn (by simp) _ ha.fits
  show LeavesInM _ _ _ _ _ _ a.defers _ _
  rw [ha.dfr]
  exact ⟨by simp, .inl ⟨d, _, rfl, run_takeDeferred hd, v, hr, hR⟩⟩
theorem Pg.close0 (h : Pw n E (Ret P fn R .ret) w) : Pg [] n E (RetG P fn R .ret) w := fun a ha => by
  obtain ⟨_, v, hr, hR⟩ := h _ ha.fits
  show LeavesInM _ _ _ _ _ _ a.defers _ _
  rw [ha.dfr]
  exact ⟨v, hr, hR⟩
theorem Pg.closeE (h : Pw n E (Ret P fn R .normal) w) : Pg [] n E (RetG P fn R .normal) w := fun a ha => by
  obtain ⟨_, v, hr, hR⟩ := h _ ha.fits
  show LeavesInM _ _ _ _ _ _ a.defers _ _
  rw [ha.dfr]
  exact ⟨v, hr, hR⟩
end
end Go.Dd
