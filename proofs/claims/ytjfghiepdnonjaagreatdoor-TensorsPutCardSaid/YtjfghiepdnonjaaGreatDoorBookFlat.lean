/- A book's lists, one by one, of any kind: what Apart wants of them. -/
import Derived.Test.YtjfghiepdnonjaaGreatDoorBookTen
namespace Go.Proofs.YtjfghiepdnonjaaGreatDoor
open Go Go.Dd Go.RowKit
set_option maxRecDepth 100000

/-- One list: of bytes (0), whole numbers (1), numbers (2). -/
structure Fl where
  v : Value
  g : Nat
  xs : List Value
def kty : Nat → TypeId
  | 0 => 5
  | 1 => 3
  | _ => 21
/-- Lists in memory of their own, between two bounds. -/
structure Inn (w : World) (lo hi : Nat) (fs : List Fl) : Prop where
  row : ∀ f ∈ fs, KRow w lo (kty f.g) 1 f.v f.xs.length f.xs
  blk : ∀ f ∈ fs, ∀ b, f.v.ownBlock = some b → lo ≤ b ∧ b < hi
  apt : fs.Pairwise fun a b => Apt a.v b.v
  few : ∀ f ∈ fs, f.xs.length ≤ 16777216
theorem inn_nil (w : World) (lo hi : Nat) : Inn w lo hi [] := ⟨(fun _ h => by cases h), (fun _ h => by cases h), List.Pairwise.nil, (fun _ h => by cases h)⟩
theorem Inn.app {w : World} {lo mid mid' hi : Nat} {fs gs : List Fl} (h : Inn w lo mid fs) (k : Inn w mid' hi gs) (h1 : lo ≤ mid') (h2 : mid ≤ mid') (h3 : mid ≤ hi) : Inn w lo hi (fs ++ gs) where
  row := fun f hf => by
    rcases List.mem_append.1 hf with h4 | h4
    · exact h.row f h4
    · exact (k.row f h4).mono h1
  blk := fun f hf b e => by
    rcases List.mem_append.1 hf with h4 | h4
    · have := h.blk f h4 b e; omega
    · have := k.blk f h4 b e; omega
  apt := List.pairwise_append.2 ⟨h.apt, k.apt, fun a ha b hb c e1 e2 => by have := h.blk a ha c e1; have := k.blk b hb c e2; omega⟩
  few := fun f hf => by
    rcases List.mem_append.1 hf with h4 | h4
    · exact h.few f h4
    · exact k.few f h4
theorem Inn.bs {w w' : World} {lo hi : Nat} {fs : List Fl} (h : Inn w lo hi fs) (g : Below w.heap.size w w') : Inn w' lo hi fs := ⟨fun f hf => (h.row f hf).bs g, h.blk, h.apt, h.few⟩
theorem Inn.below {w w' : World} {lo hi B : Nat} {fs : List Fl} (h : Inn w lo hi fs) (g : Below B w w') (hB : hi ≤ B) : Inn w' lo hi fs :=
  ⟨fun f hf => (h.row f hf).heap fun b e => g.block b (by have := h.blk f hf b e; omega), h.blk, h.apt, h.few⟩
theorem Inn.wide {w : World} {lo hi lo' hi' : Nat} {fs : List Fl} (h : Inn w lo hi fs) (h1 : lo' ≤ lo) (h2 : hi ≤ hi') : Inn w lo' hi' fs :=
  ⟨fun f hf => (h.row f hf).mono h1, fun f hf b e => by have := h.blk f hf b e; omega, h.apt, h.few⟩
theorem Inn.sl {w : World} {lo hi : Nat} {fs : List Fl} (h : Inn w lo hi fs) (i : Nat) {f : Fl} (e : fs[i]? = some f) : Sl w 1 f.v f.xs.length f.xs := (h.row f (List.mem_of_getElem? e)).sl
theorem Inn.lt {w : World} {lo hi : Nat} {fs : List Fl} (h : Inn w lo hi fs) (i : Nat) {f : Fl} (e : fs[i]? = some f) : ∀ b, f.v.ownBlock = some b → b < hi := fun b eb => (h.blk f (List.mem_of_getElem? e) b eb).2
/-- Two lists: a tensor's. -/
theorem Held.inn {w : World} {lo hi : Nat} {c : T4} (h : Held w lo hi c) (h1 : c.s.length ≤ 16777216) (h2 : c.l.length ≤ 16777216) : Inn w lo hi [⟨c.x, 1, c.s.map (Value.int .i64)⟩, ⟨c.y, 2, c.l.map i32⟩] where
  row := fun f hf => by
    simp only [List.mem_cons, List.not_mem_nil, or_false] at hf
    rcases hf with rfl | rfl
    · show KRow w lo 3 1 c.x (c.s.map (Value.int .i64)).length _
      rw [List.length_map]; exact h.rx
    · show KRow w lo 21 1 c.y (c.l.map i32).length _
      rw [List.length_map]; exact h.ry
  blk := fun f hf => by
    simp only [List.mem_cons, List.not_mem_nil, or_false] at hf
    rcases hf with rfl | rfl
    · exact h.bx
    · exact h.by'
  apt := List.Pairwise.cons (fun d hd => by simp only [List.mem_cons, List.not_mem_nil, or_false] at hd; subst hd; exact h.apart.symm) (List.Pairwise.cons (fun _ h => by cases h) List.Pairwise.nil)
  few := fun f hf => by
    simp only [List.mem_cons, List.not_mem_nil, or_false] at hf
    rcases hf with rfl | rfl
    · simpa using h1
    · simpa using h2
/-- One list. -/
theorem inn_one {w : World} {lo hi : Nat} {v : Value} {xs : List Value} {k : Nat} (g : Nat) (h : KRow w lo (kty g) 1 v k xs) (hk : xs.length = k) (hb : ∀ b, v.ownBlock = some b → lo ≤ b ∧ b < hi) (h1 : k ≤ 16777216) : Inn w lo hi [⟨v, g, xs⟩] where
  row := fun f hf => by
    simp only [List.mem_cons, List.not_mem_nil, or_false] at hf
    subst hf; subst hk; exact h
  blk := fun f hf => by
    simp only [List.mem_cons, List.not_mem_nil, or_false] at hf
    subst hf; exact hb
  apt := List.Pairwise.cons (fun _ h => by cases h) List.Pairwise.nil
  few := fun f hf => by
    simp only [List.mem_cons, List.not_mem_nil, or_false] at hf
    subst hf; subst hk; exact h1
/-- Those of one kind, as a book keeps them. -/
def fl (g : Nat) : List Fl → Int → List Hd
  | [], _ => []
  | f :: fs, n => match Nat.beq f.g g with
    | true => newHd f.v f.xs.length f.xs (n + 1) :: fl g fs (n + 1)
    | false => fl g fs (n + 1)
theorem fl_in {g : Nat} {fs : List Fl} : ∀ {n : Int} {h : Hd}, h ∈ fl g fs n → ∃ f ∈ fs, f.g = g ∧ h.v = f.v ∧ h.k = f.xs.length ∧ h.xs = f.xs ∧ h.g = .slice none 0 0 ∧ n < h.n ∧ h.n ≤ n + fs.length := by
  induction fs with
  | nil => intro n h hm; cases hm
  | cons c cs ih =>
    intro n h hm
    unfold fl at hm
    split at hm
    · rename_i hb
      rcases List.mem_cons.1 hm with rfl | hm
      · exact ⟨c, by simp, Nat.eq_of_beq_eq_true hb, rfl, rfl, rfl, rfl, by show n < n + 1; omega, by show n + 1 ≤ _; simp only [List.length_cons]; omega⟩
      · obtain ⟨d, hd, h0, h1, h2, h3, h4, h5, h6⟩ := ih hm
        exact ⟨d, List.mem_cons_of_mem _ hd, h0, h1, h2, h3, h4, by omega, by simp only [List.length_cons]; omega⟩
    · obtain ⟨d, hd, h0, h1, h2, h3, h4, h5, h6⟩ := ih hm
      exact ⟨d, List.mem_cons_of_mem _ hd, h0, h1, h2, h3, h4, by omega, by simp only [List.length_cons]; omega⟩
theorem fl_apt {g : Nat} {fs : List Fl} : ∀ (_ : fs.Pairwise fun a b => Apt a.v b.v) (n : Int), (fl g fs n).Pairwise fun a b => Apt a.v b.v := by
  induction fs with
  | nil => intro _ _; exact List.Pairwise.nil
  | cons c cs ih =>
    intro h n
    obtain ⟨h1, h2⟩ := List.pairwise_cons.1 h
    unfold fl
    split
    · exact List.Pairwise.cons (fun x hx => by obtain ⟨d, hd, _, e, _⟩ := fl_in hx; rw [e]; exact h1 d hd) (ih h2 _)
    · exact ih h2 _
theorem apt_all {l : List Fl} (h : l.Pairwise fun a b => Apt a.v b.v) : ∀ c ∈ l, ∀ d ∈ l, c = d ∨ Apt c.v d.v := by
  induction l with
  | nil => intro c hc; cases hc
  | cons f fs ih =>
    obtain ⟨h1, h2⟩ := List.pairwise_cons.1 h
    intro c hc d hd
    rcases List.mem_cons.1 hc with hc1 | hc1
    · rcases List.mem_cons.1 hd with hd1 | hd1
      · exact .inl (hc1.trans hd1.symm)
      · exact .inr (hc1 ▸ h1 d hd1)
    · rcases List.mem_cons.1 hd with hd1 | hd1
      · exact .inr (hd1 ▸ (h1 c hc1).symm)
      · exact ih h2 c hc1 d hd1
theorem Inn.kept {w : World} {base top : Nat} {fs : List Fl} (h : Inn w base top fs) {n : Int} (h0 : 0 ≤ n) (h1 : n + fs.length ≤ 1000000) (g : Nat) : Kept w base (kty g) 1 (fl g fs n) :=
  ⟨⟨fun x hx => by obtain ⟨c, hc, _, _, _, _, _, e5, e6⟩ := fl_in hx; omega, fun x hx => by obtain ⟨c, hc, _, _, e2, _⟩ := fl_in hx; have := h.few c hc; omega, fl_apt h.apt n, fun x hx => by obtain ⟨c, hc, _, _, _, _, e4, _⟩ := fl_in hx; exact e4⟩,
    fun x hx => by obtain ⟨c, hc, rfl, e1, e2, e3, _⟩ := fl_in hx; rw [e1, e2, e3]; exact h.row c hc⟩
theorem Inn.in {w : World} {base top : Nat} {fs : List Fl} (h : Inn w base top fs) {n : Int} {g b : Nat} : blks (fl g fs n) b → b < top := fun ⟨x, hx, e⟩ => by
  obtain ⟨c, hc, _, e1, _⟩ := fl_in hx
  rw [e1] at e
  exact (h.blk c hc b e).2
theorem Inn.cross {w : World} {base top : Nat} {fs : List Fl} (h : Inn w base top fs) {n m : Int} {g g' b : Nat} (hg : g ≠ g') : blks (fl g fs n) b → ¬ blks (fl g' fs m) b := fun ⟨x, hx, e⟩ ⟨y, hy, e'⟩ => by
  obtain ⟨c, hc, g1, e1, _⟩ := fl_in hx
  obtain ⟨d, hd, g2, e2, _⟩ := fl_in hy
  rw [e1] at e
  rw [e2] at e'
  rcases apt_all h.apt c hc d hd with h1 | h1
  · exact hg (by rw [← g1, ← g2, h1])
  · exact h1 b e e'
/-- Apart, of lists of these kinds. -/
theorem apartF_c (w : World) (lo A base : Nat) (n : Int) (fs : List Fl) (ub ui un : Value) (k : Inn w base lo fs) (h : Bk w lo A n (fl 0 fs 0) (fl 1 fs 0) (fl 2 fs 0) ub ui un) (hm : fs.length ≤ 1000000) (hbl : base ≤ lo) :
    Fnc Tryz.prog 19 [.pointer (some ⟨A, 0, none⟩)] w (fun r w' => r = .bool true ∧ Below base w w') :=
  apart_c w lo A base n _ _ _ ub ui un h (k.kept (Int.le_refl 0) (by omega) 0) (k.kept (Int.le_refl 0) (by omega) 1) (k.kept (Int.le_refl 0) (by omega) 2)
    (fun _ => k.in) (fun _ => k.in) (fun _ => k.in) (fun _ => k.cross (by decide)) (fun _ => k.cross (by decide)) (fun _ => k.cross (by decide)) hbl
theorem bookBytes2_c (w : World) (lo A : Nat) (n : Int) (hb hi hn : List Hd) (ub ui un v : Value) (k : Nat) (xs : List Value) (h : Bk w lo A n hb hi hn ub ui un) (hv : Sl w 1 v k xs) (hf : n ≤ 800) (hf2 : hb.length + hi.length + hn.length ≤ 800) :
    Fnc Tryz.prog 27 [.pointer (some ⟨A, 0, none⟩), v] w (fun r w' => r = .tuple #[] ∧ Below lo w w' ∧ ∃ u', Bk w' lo A (n + 1) (hb ++ [newHd v k xs (n + 1)]) hi hn u' ui un) :=
  (bookBytes_c w lo A n hb hi hn ub ui un v k xs h hv hf hf2).mono fun _ _ ⟨h1, h2, h3⟩ => ⟨h1, h.low (fun b e => (own_block h.ob b e).1) h2, h3⟩
/-- Bytes in memory of their own, between two bounds. -/
structure HeldB (w : World) (lo hi : Nat) (v : Value) (l : List (BitVec 8)) : Prop where
  row : KRow w lo 5 1 v l.length (l.map b8)
  blk : ∀ b, v.ownBlock = some b → lo ≤ b ∧ b < hi
theorem HeldB.bs {w w' : World} {lo hi : Nat} {v : Value} {l : List (BitVec 8)} (h : HeldB w lo hi v l) (g : Below w.heap.size w w') : HeldB w' lo hi v l := ⟨h.row.bs g, h.blk⟩
theorem HeldB.below {w w' : World} {lo hi B : Nat} {v : Value} {l : List (BitVec 8)} (h : HeldB w lo hi v l) (g : Below B w w') (hB : hi ≤ B) : HeldB w' lo hi v l := ⟨h.row.heap fun b e => g.block b (by have := h.blk b e; omega), h.blk⟩
theorem HeldB.at {w : World} {lo hi : Nat} {v : Value} {l : List (BitVec 8)} (h : HeldB w lo hi v l) : SlT b8 w v l := h.row.slT
theorem HeldB.inn {w : World} {lo hi : Nat} {v : Value} {l : List (BitVec 8)} (h : HeldB w lo hi v l) (h1 : l.length ≤ 16777216) : Inn w lo hi [⟨v, 0, l.map b8⟩] :=
  inn_one 0 h.row (by simp) h.blk h1
/-- Bytes' twin, with the room behind it. -/
structure TwinB (w : World) (lo hi : Nat) (x : Value) (l : List (BitVec 8)) : Prop where
  held : HeldB w lo hi x l
  tx : Twn w lo 5 b8 (b8 (77#8)) x l
theorem TwinB.bs {w w' : World} {lo hi : Nat} {x : Value} {l : List (BitVec 8)} (h : TwinB w lo hi x l) (g : Below w.heap.size w w') : TwinB w' lo hi x l := ⟨h.held.bs g, h.tx.bs g⟩
theorem twinB_c (v : Value) (l : List (BitVec 8)) (w : World) (hv : SlT b8 w v l) (hl : l.length ≤ 4194304) :
    Fnc Tryz.prog 20 [v] w (fun r w' => Below w.heap.size w w' ∧ TwinB w' w.heap.size w'.heap.size r l) :=
  (twinBytes_c v l w hv hl).mono fun _ _ ⟨h1, h2⟩ => ⟨h2, ⟨.inl h1.own, fun b e => own_block h1.own b e⟩, h1⟩
end Go.Proofs.YtjfghiepdnonjaaGreatDoor
