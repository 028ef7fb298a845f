/- Tensors that a book keeps; a tensor against its twin. -/
import Derived.Test.YtkhndfaampkbnaaGreatDoorBookLaw
import Derived.Test.YtkhndfaampkbnaaGreatDoorRefCode
import Derived.Test.YtkhndfaampkbnaaGreatDoorTwinTensor
namespace Go.Proofs.YtkhndfaampkbnaaGreatDoor
open Go Go.Dd Go.RowKit
set_option maxRecDepth 100000

/-- A tensor in memory of its own, between two bounds. -/
structure Held (w : World) (lo hi : Nat) (c : T4) : Prop where
  rx : KRow w lo 3 1 c.x c.s.length (c.s.map (Value.int .i64))
  ry : KRow w lo 21 1 c.y c.l.length (c.l.map i32)
  bx : ∀ b, c.x.ownBlock = some b → lo ≤ b ∧ b < hi
  by' : ∀ b, c.y.ownBlock = some b → lo ≤ b ∧ b < hi
  apart : Apt c.y c.x
theorem Held.bs {w w' : World} {lo hi : Nat} {c : T4} (h : Held w lo hi c) (g : Below w.heap.size w w') : Held w' lo hi c := ⟨h.rx.bs g, h.ry.bs g, h.bx, h.by', h.apart⟩
theorem Held.below {w w' : World} {lo hi B : Nat} {c : T4} (h : Held w lo hi c) (g : Below B w w') (hB : hi ≤ B) : Held w' lo hi c :=
  ⟨h.rx.heap fun b e => g.block b (by have := h.bx b e; omega), h.ry.heap fun b e => g.block b (by have := h.by' b e; omega), h.bx, h.by', h.apart⟩
theorem Held.at {w : World} {lo hi : Nat} {c : T4} (h : Held w lo hi c) : c.at w := ⟨h.rx.slT, h.ry.slT⟩
theorem Held.wide {w : World} {lo hi lo' hi' : Nat} {c : T4} (h : Held w lo hi c) (h1 : lo' ≤ lo) (h2 : hi ≤ hi') : Held w lo' hi' c :=
  ⟨h.rx.mono h1, h.ry.mono h1, fun b e => by have := h.bx b e; omega, fun b e => by have := h.by' b e; omega, h.apart⟩
theorem held_nil (w : World) (lo hi : Nat) : Held w lo hi ⟨.slice none 0 0, .slice none 0 0, [], []⟩ :=
  ⟨.inl ⟨rfl, .inl ⟨rfl, rfl⟩⟩, .inl ⟨rfl, .inl ⟨rfl, rfl⟩⟩, (fun b e => by cases e), (fun b e => by cases e), (fun b e => by cases e)⟩
theorem Made1.held {W w : World} {x y : Value} {s : List Int} {l : List (BitVec 32)} (h : Made1 W w x y s l) : Held w W.heap.size w.heap.size ⟨x, y, s, l⟩ :=
  ⟨h.row, .inl h.own, h.row.lt, own_block h.own, h.apart⟩
/-- Tensors, one behind the other in memory. -/
def Heldall (w : World) : Nat → Nat → List T4 → Prop
  | base, top, [] => base ≤ top
  | base, top, c :: cs => ∃ lo hi, base ≤ lo ∧ lo ≤ hi ∧ Held w lo hi c ∧ Heldall w hi top cs
theorem Heldall.le : ∀ {w : World} {cs : List T4} {base top : Nat}, Heldall w base top cs → base ≤ top
  | _, [], _, _, h => h
  | _, _ :: _, _, _, ⟨_, _, h1, h2, _, h3⟩ => by have := h3.le; omega
theorem Heldall.bs {w w' : World} (g : Below w.heap.size w w') : ∀ {cs : List T4} {base top : Nat}, Heldall w base top cs → Heldall w' base top cs
  | [], _, _, h => h
  | _ :: _, _, _, ⟨lo, hi, h1, h2, h3, h4⟩ => ⟨lo, hi, h1, h2, h3.bs g, Heldall.bs g h4⟩
def hdI : List T4 → Int → List Hd
  | [], _ => []
  | c :: cs, n => newHd c.x c.s.length (c.s.map (Value.int .i64)) (n + 1) :: hdI cs (n + 2)
def hdN : List T4 → Int → List Hd
  | [], _ => []
  | c :: cs, n => newHd c.y c.l.length (c.l.map i32) (n + 2) :: hdN cs (n + 2)
theorem hdI_in {cs : List T4} : ∀ {n : Int} {h : Hd}, h ∈ hdI cs n → ∃ c ∈ cs, h.v = c.x ∧ h.k = c.s.length ∧ h.xs = c.s.map (Value.int .i64) ∧ h.g = .slice none 0 0 ∧ n < h.n ∧ h.n ≤ n + 2 * cs.length := by
  induction cs with
  | nil => intro n h hm; cases hm
  | cons c cs ih =>
    intro n h hm
    rcases List.mem_cons.1 hm with rfl | hm
    · exact ⟨c, by simp, rfl, rfl, rfl, rfl, by show n < n + 1; omega, by show n + 1 ≤ _; simp only [List.length_cons]; omega⟩
    · obtain ⟨d, hd, h1, h2, h3, h4, h5, h6⟩ := ih hm
      exact ⟨d, by simp [hd], h1, h2, h3, h4, by omega, by simp only [List.length_cons]; omega⟩
theorem hdN_in {cs : List T4} : ∀ {n : Int} {h : Hd}, h ∈ hdN cs n → ∃ c ∈ cs, h.v = c.y ∧ h.k = c.l.length ∧ h.xs = c.l.map i32 ∧ h.g = .slice none 0 0 ∧ n < h.n ∧ h.n ≤ n + 2 * cs.length := by
  induction cs with
  | nil => intro n h hm; cases hm
  | cons c cs ih =>
    intro n h hm
    rcases List.mem_cons.1 hm with rfl | hm
    · exact ⟨c, by simp, rfl, rfl, rfl, rfl, by show n < n + 2; omega, by show n + 2 ≤ _; simp only [List.length_cons]; omega⟩
    · obtain ⟨d, hd, h1, h2, h3, h4, h5, h6⟩ := ih hm
      exact ⟨d, by simp [hd], h1, h2, h3, h4, by omega, by simp only [List.length_cons]; omega⟩
theorem Heldall.each : ∀ {w : World} {cs : List T4} {base top : Nat}, Heldall w base top cs → ∀ c ∈ cs, Held w base top c
  | _, [], _, _, _ => fun c hc => by cases hc
  | _, d :: ds, _, _, ⟨lo, hi, h1, h2, h3, h4⟩ => fun c hc => by
    have := h4.le
    rcases List.mem_cons.1 hc with rfl | hc
    · exact h3.wide h1 (by omega)
    · exact (h4.each c hc).wide (by omega) (Nat.le_refl _)
theorem Heldall.pwI : ∀ {w : World} {cs : List T4} {base top : Nat} (_ : Heldall w base top cs) (n : Int), (hdI cs n).Pairwise fun a b => Apt a.v b.v
  | _, [], _, _, _, _ => List.Pairwise.nil
  | _, d :: ds, _, _, ⟨lo, hi, h1, h2, h3, h4⟩, n => List.Pairwise.cons (fun h hm b e1 e2 => by
      obtain ⟨c, hc, hv, _⟩ := hdI_in hm
      rw [hv] at e2
      have := h3.bx b e1
      have := (h4.each c hc).bx b e2
      omega) (h4.pwI (n + 2))
theorem Heldall.pwN : ∀ {w : World} {cs : List T4} {base top : Nat} (_ : Heldall w base top cs) (n : Int), (hdN cs n).Pairwise fun a b => Apt a.v b.v
  | _, [], _, _, _, _ => List.Pairwise.nil
  | _, d :: ds, _, _, ⟨lo, hi, h1, h2, h3, h4⟩, n => List.Pairwise.cons (fun h hm b e1 e2 => by
      obtain ⟨c, hc, hv, _⟩ := hdN_in hm
      rw [hv] at e2
      have := h3.by' b e1
      have := (h4.each c hc).by' b e2
      omega) (h4.pwN (n + 2))
theorem Heldall.cross : ∀ {w : World} {cs : List T4} {base top : Nat} (_ : Heldall w base top cs), ∀ c ∈ cs, ∀ d ∈ cs, Apt c.y d.x
  | _, [], _, _, _ => fun c hc => by cases hc
  | _, f :: fs, _, _, ⟨lo, hi, h1, h2, h3, h4⟩ => fun c hc d hd b e1 e2 => by
    rcases List.mem_cons.1 hc with hc1 | hc1
    · subst hc1
      rcases List.mem_cons.1 hd with hd1 | hd1
      · subst hd1; exact h3.apart b e1 e2
      · have := h3.by' b e1
        have := (h4.each d hd1).bx b e2
        omega
    · rcases List.mem_cons.1 hd with hd1 | hd1
      · subst hd1
        have := h3.bx b e2
        have := (h4.each c hc1).by' b e1
        omega
      · exact h4.cross c hc1 d hd1 b e1 e2
/-- What Apart wants, of tensors. -/
structure Keeps (w : World) (base top : Nat) (hi hn : List Hd) : Prop where
  ki : Kept w base 3 1 hi
  kn : Kept w base 21 1 hn
  li : ∀ b, blks hi b → b < top
  ln : ∀ b, blks hn b → b < top
  xin : ∀ b, blks hi b → ¬ blks hn b
theorem Heldall.keeps {w : World} {cs : List T4} {base top : Nat} (h : Heldall w base top cs) {n : Int} (h0 : 0 ≤ n) (h1 : n + 2 * cs.length ≤ 1000000) (hk : ∀ c ∈ cs, c.s.length ≤ 16777216 ∧ c.l.length ≤ 16777216) : Keeps w base top (hdI cs n) (hdN cs n) where
  ki := ⟨⟨fun x hx => by obtain ⟨c, hc, _, _, _, _, e5, e6⟩ := hdI_in hx; omega, fun x hx => by obtain ⟨c, hc, _, e2, _⟩ := hdI_in hx; have := hk c hc; omega, h.pwI n, fun x hx => by obtain ⟨c, hc, _, _, _, e4, _⟩ := hdI_in hx; exact e4⟩,
    fun x hx => by obtain ⟨c, hc, e1, e2, e3, _⟩ := hdI_in hx; rw [e1, e2, e3]; exact (h.each c hc).rx⟩
  kn := ⟨⟨fun x hx => by obtain ⟨c, hc, _, _, _, _, e5, e6⟩ := hdN_in hx; omega, fun x hx => by obtain ⟨c, hc, _, e2, _⟩ := hdN_in hx; have := hk c hc; omega, h.pwN n, fun x hx => by obtain ⟨c, hc, _, _, _, e4, _⟩ := hdN_in hx; exact e4⟩,
    fun x hx => by obtain ⟨c, hc, e1, e2, e3, _⟩ := hdN_in hx; rw [e1, e2, e3]; exact (h.each c hc).ry⟩
  li := fun b ⟨x, hx, e⟩ => by
    obtain ⟨c, hc, e1, _⟩ := hdI_in hx
    rw [e1] at e
    exact ((h.each c hc).bx b e).2
  ln := fun b ⟨x, hx, e⟩ => by
    obtain ⟨c, hc, e1, _⟩ := hdN_in hx
    rw [e1] at e
    exact ((h.each c hc).by' b e).2
  xin := fun b ⟨x, hx, e⟩ ⟨y, hy, e'⟩ => by
    obtain ⟨c, hc, e1, _⟩ := hdI_in hx
    obtain ⟨d, hd, e2, _⟩ := hdN_in hy
    rw [e1] at e
    rw [e2] at e'
    exact h.cross d hd c hc b e' e
theorem Keeps.bs {w w' : World} {base top : Nat} {hi hn : List Hd} (h : Keeps w base top hi hn) (g : Below w.heap.size w w') : Keeps w' base top hi hn := ⟨h.ki.bs g, h.kn.bs g, h.li, h.ln, h.xin⟩
theorem Keeps.below {w w' : World} {base top : Nat} {hi hn : List Hd} (h : Keeps w base top hi hn) (g : Below top w w') : Keeps w' base top hi hn :=
  ⟨⟨h.ki.toKOk, fun x hx => (h.ki.own x hx).heap fun b e => g.block b (h.li b ⟨x, hx, e⟩)⟩, ⟨h.kn.toKOk, fun x hx => (h.kn.own x hx).heap fun b e => g.block b (h.ln b ⟨x, hx, e⟩)⟩, h.li, h.ln, h.xin⟩
/-- Apart, of tensors alone. -/
theorem apartT_c (w : World) (lo A base : Nat) (n : Int) (hi hn : List Hd) (ub ui un : Value) (h : Bk w lo A n [] hi hn ub ui un) (k : Keeps w base lo hi hn) (hbl : base ≤ lo) :
    Fnc Tryz.prog 14 [.pointer (some ⟨A, 0, none⟩)] w (fun r w' => r = .bool true ∧ Below base w w') :=
  apart_c w lo A base n [] hi hn ub ui un h (Kept.nil _ _ _ _) k.ki k.kn (fun b ⟨_, h, _⟩ => by cases h) k.li k.ln (fun b ⟨_, h, _⟩ => by cases h) (fun b ⟨_, h, _⟩ => by cases h) k.xin hbl
/-- An empty book. -/
theorem bk_new {w : World} {A : Nat} (h : Blk w A bookT (.int .i64 0 :: List.replicate 15 (.slice none 0 0))) : Bk w A A 0 [] [] [] (.slice none 0 0) (.slice none 0 0) (.slice none 0 0) :=
  ⟨h, ⟨rfl, .inl ⟨rfl, rfl⟩⟩, ⟨rfl, .inl ⟨rfl, rfl⟩⟩, ⟨rfl, .inl ⟨rfl, rfl⟩⟩, Nat.le_refl _, (by rintro ⟨⟩), (by rintro ⟨⟩), (by rintro ⟨⟩), (fun b e => by cases e), (fun b e => by cases e), (fun b e => by cases e), by decide, by decide⟩

/-- An answer: a tensor in memory of its own, or none. -/
def Gives (W w : World) (r : Value) (e : Int) (s : List Int) (l : List (BitVec 32)) : Prop :=
  ∃ c : T4, r = .tuple #[c.v, .int .i64 e] ∧ Held w W.heap.size w.heap.size c ∧ (e ≠ 0 → c.s = [] ∧ c.l = []) ∧ (e = 0 → c.s = s ∧ c.l = l)

/-- A tensor's twin, with the room behind it. -/
structure TwinT (w : World) (lo hi : Nat) (x y : Value) (a : T4) : Prop where
  held : Held w lo hi ⟨x, y, a.s, a.l⟩
  tx : Twn w lo 3 (Value.int .i64) (Value.int .i64 (77)) x a.s
  ty : Twn w lo 21 i32 (i32 (77#32)) y a.l
theorem TwinT.bs {w w' : World} {lo hi : Nat} {x y : Value} {a : T4} (h : TwinT w lo hi x y a) (g : Below w.heap.size w w') : TwinT w' lo hi x y a := ⟨h.held.bs g, h.tx.bs g, h.ty.bs g⟩
theorem Twn.mono {α : Type} {w : World} {B B' : Nat} {T : TypeId} {enc : α → Value} {mark v : Value} {l : List α} (h : Twn w B T enc mark v l) (hb : B' ≤ B) : Twn w B' T enc mark v l := by
  obtain ⟨b, cap, rfl, ho⟩ := h
  exact ⟨b, cap, rfl, own_mono ho hb⟩
theorem Twn.by {α : Type} {w w' : World} {B r : Nat} {T : TypeId} {enc : α → Value} {mark v : Value} {l : List α} (h : Twn w B T enc mark v l) (hg : w.grownBy w' (some r)) (hr : r < B) : Twn w' B T enc mark v l := by
  obtain ⟨b, cap, rfl, ho⟩ := h
  exact ⟨b, cap, rfl, ho.kept hg (.inr fun e => by have := (own_block ho r e).1; omega)⟩
theorem twin2_c (a : T4) (w : World) (ha : a.at w) (hs : a.s.length ≤ 4194304) (hl : a.l.length ≤ 4194304) :
    Fnc Tryz.prog 16 [a.v] w (fun r w' => Below w.heap.size w w' ∧ ∃ x y, r = .agg #[x, y] ∧ TwinT w' w.heap.size w'.heap.size x y a) := by
  have hB := Below.refl w.heap.size w
  refine Fnc.enter (n := 10) Tryz.func16 (by kernel_rfl) rfl rfl rfl ?_
  refine Cw.seq ?_
  refine Cw.region ?_
  refine Lw.valW (Xw.box (cs := [a.x, a.y]) rfl rfl) rfl ?_
  rintro _ w1 ⟨rfl, b, hn, -⟩
  replace hB := hB.bs hn
  replace ha := ha.bs hn
  clear hn
  have z1 := below_size hB
  refine Lw.valW (Xw.new it_29) rfl ?_
  rintro _ w2 ⟨rfl, c, hn, hs2⟩
  replace hB := hB.bs hn
  replace ha := ha.bs hn
  replace b := b.bs hn
  clear hn
  refine Lw.nil ?_
  refine Pw.thenN (Cw.out ?_)
  refine Cw.seq ?_
  refine Cw.any mixed (fun w3 hd _ => ?_)
  replace hB := hB.bs hd
  replace ha := ha.bs hd
  replace b := b.bs hd
  replace c := c.bs hd
  clear hd
  refine Aw.take (i := 0) (NoP.thn NoP.ret) rfl (by kernel_rfl) (by kernel_rfl) (by kernel_rfl) (fun _ => Ex.fieldAddr (q := 0) Tryz.underlying29 rfl (sz_26 _) rfl) rfl ?_
  refine Aw.take (i := 3) (NoP.thn NoP.ret) rfl (by kernel_rfl) (by kernel_rfl) (by kernel_rfl) (fun _ => Ex.fieldAddr (q := 0) Tryz.underlying29 rfl (sz_27 _) rfl) rfl ?_
  have z0 := below_size hB
  have z3 : w1.heap.size < w3.heap.size := blk_lt c
  refine Aw.two (i := 1) (j := 4) (by kernel_rfl) rfl rfl ?_ ?_
  · refine Lw.val (Ex.ldB (ag_26 _) rfl (by assumption) rfl) rfl ?_
    refine Aw.back ?_
    refine Aw.two (i := 2) (j := 4) (by kernel_rfl) rfl rfl ?_ ?_
    · refine Lw.callF rfl rfl (twinInts_c a.x a.s w3 ha.1 hs) ?_
      rintro x w4 ⟨hx, hn⟩
      have hxb := own_block hx.own
      have z4 := hn.size
      replace hB := hB.bs hn
      replace ha := ha.bs hn
      replace b := b.bs hn
      replace c := c.bs hn
      clear hn
      refine Aw.back ?_
      refine Aw.only (i := 4) (by kernel_rfl) rfl ?_
      refine Lw.val (Ex.ldB (ag_27 _) rfl (by assumption) rfl) rfl ?_
      refine Aw.back ?_
      refine Aw.only (i := 5) (by kernel_rfl) rfl ?_
      refine Lw.callF rfl rfl (twinNumbers_c a.y a.l w4 ha.2 hl) ?_
      rintro y w5 ⟨hy, hn⟩
      have hyb := own_block hy.own
      have z5 := hn.size
      replace hB := hB.bs hn
      replace ha := ha.bs hn
      replace b := b.bs hn
      replace c := c.bs hn
      replace hx := hx.bs hn
      clear hn
      refine Aw.back ?_
      refine Aw.only (i := 6) (by kernel_rfl) rfl ?_
      refine Lw.val (Ex.build (vs := [(0, x), (1, y)]) (cs := [x, y]) rfl (bt_ten _ _ hx.sl.one hy.sl.one)) rfl ?_
      refine Aw.back ?_
      refine Aw.only (i := 7) (by kernel_rfl) rfl ?_
      refine Lw.unit (Xu.stA (cs := [x, y]) rfl rfl rfl rfl (by simp [hx.sl.one', hy.sl.one']) c rfl) ?_
      rintro w6 ⟨c6, hg, -⟩
      have hB6 := hB.grown hg (below_size hB) (by rintro _ ⟨⟩; exact z1)
      have z6 := hg.size
      have hx6 := Twn.mono (Twn.by hx hg (by omega)) z0
      have hy6 := Twn.mono (Twn.by hy hg (by omega)) (show w.heap.size ≤ w4.heap.size by omega)
      refine Aw.back ?_
      refine Aw.done (by kernel_rfl) ?_
      refine Pw.thenN (Cw.out ?_)
      refine Cw.ret ?_
      refine Pw.retC rfl rfl (by assumption) (Tryz.underlying29) rfl rfl rfl ?_
      exact ⟨hB6, x, y, rfl, ⟨.inl hx6.own, .inl hy6.own, fun b e => by have := hxb b e; omega, fun b e => by have := hyb b e; omega, fun b e1 e2 => by have := hxb b e2; have := hyb b e1; omega⟩, hx6, hy6⟩
    · refine Lw.val (Ex.ldB (ag_27 _) rfl (by assumption) rfl) rfl ?_
      refine Aw.back ?_
      refine Aw.only (i := 2) (by kernel_rfl) rfl ?_
      refine Lw.callF rfl rfl (twinInts_c a.x a.s w3 ha.1 hs) ?_
      rintro x w4 ⟨hx, hn⟩
      have hxb := own_block hx.own
      have z4 := hn.size
      replace hB := hB.bs hn
      replace ha := ha.bs hn
      replace b := b.bs hn
      replace c := c.bs hn
      clear hn
      refine Aw.back ?_
      refine Aw.only (i := 5) (by kernel_rfl) rfl ?_
      refine Lw.callF rfl rfl (twinNumbers_c a.y a.l w4 ha.2 hl) ?_
      rintro y w5 ⟨hy, hn⟩
      have hyb := own_block hy.own
      have z5 := hn.size
      replace hB := hB.bs hn
      replace ha := ha.bs hn
      replace b := b.bs hn
      replace c := c.bs hn
      replace hx := hx.bs hn
      clear hn
      refine Aw.back ?_
      refine Aw.only (i := 6) (by kernel_rfl) rfl ?_
      refine Lw.val (Ex.build (vs := [(0, x), (1, y)]) (cs := [x, y]) rfl (bt_ten _ _ hx.sl.one hy.sl.one)) rfl ?_
      refine Aw.back ?_
      refine Aw.only (i := 7) (by kernel_rfl) rfl ?_
      refine Lw.unit (Xu.stA (cs := [x, y]) rfl rfl rfl rfl (by simp [hx.sl.one', hy.sl.one']) c rfl) ?_
      rintro w6 ⟨c6, hg, -⟩
      have hB6 := hB.grown hg (below_size hB) (by rintro _ ⟨⟩; exact z1)
      have z6 := hg.size
      have hx6 := Twn.mono (Twn.by hx hg (by omega)) z0
      have hy6 := Twn.mono (Twn.by hy hg (by omega)) (show w.heap.size ≤ w4.heap.size by omega)
      refine Aw.back ?_
      refine Aw.done (by kernel_rfl) ?_
      refine Pw.thenN (Cw.out ?_)
      refine Cw.ret ?_
      refine Pw.retC rfl rfl (by assumption) (Tryz.underlying29) rfl rfl rfl ?_
      exact ⟨hB6, x, y, rfl, ⟨.inl hx6.own, .inl hy6.own, fun b e => by have := hxb b e; omega, fun b e => by have := hyb b e; omega, fun b e1 e2 => by have := hxb b e2; have := hyb b e1; omega⟩, hx6, hy6⟩
  · refine Lw.val (Ex.ldB (ag_27 _) rfl (by assumption) rfl) rfl ?_
    refine Aw.back ?_
    refine Aw.only (i := 1) (by kernel_rfl) rfl ?_
    refine Lw.val (Ex.ldB (ag_26 _) rfl (by assumption) rfl) rfl ?_
    refine Aw.back ?_
    refine Aw.only (i := 2) (by kernel_rfl) rfl ?_
    refine Lw.callF rfl rfl (twinInts_c a.x a.s w3 ha.1 hs) ?_
    rintro x w4 ⟨hx, hn⟩
    have hxb := own_block hx.own
    have z4 := hn.size
    replace hB := hB.bs hn
    replace ha := ha.bs hn
    replace b := b.bs hn
    replace c := c.bs hn
    clear hn
    refine Aw.back ?_
    refine Aw.only (i := 5) (by kernel_rfl) rfl ?_
    refine Lw.callF rfl rfl (twinNumbers_c a.y a.l w4 ha.2 hl) ?_
    rintro y w5 ⟨hy, hn⟩
    have hyb := own_block hy.own
    have z5 := hn.size
    replace hB := hB.bs hn
    replace ha := ha.bs hn
    replace b := b.bs hn
    replace c := c.bs hn
    replace hx := hx.bs hn
    clear hn
    refine Aw.back ?_
    refine Aw.only (i := 6) (by kernel_rfl) rfl ?_
    refine Lw.val (Ex.build (vs := [(0, x), (1, y)]) (cs := [x, y]) rfl (bt_ten _ _ hx.sl.one hy.sl.one)) rfl ?_
    refine Aw.back ?_
    refine Aw.only (i := 7) (by kernel_rfl) rfl ?_
    refine Lw.unit (Xu.stA (cs := [x, y]) rfl rfl rfl rfl (by simp [hx.sl.one', hy.sl.one']) c rfl) ?_
    rintro w6 ⟨c6, hg, -⟩
    have hB6 := hB.grown hg (below_size hB) (by rintro _ ⟨⟩; exact z1)
    have z6 := hg.size
    have hx6 := Twn.mono (Twn.by hx hg (by omega)) z0
    have hy6 := Twn.mono (Twn.by hy hg (by omega)) (show w.heap.size ≤ w4.heap.size by omega)
    refine Aw.back ?_
    refine Aw.done (by kernel_rfl) ?_
    refine Pw.thenN (Cw.out ?_)
    refine Cw.ret ?_
    refine Pw.retC rfl rfl (by assumption) (Tryz.underlying29) rfl rfl rfl ?_
    exact ⟨hB6, x, y, rfl, ⟨.inl hx6.own, .inl hy6.own, fun b e => by have := hxb b e; omega, fun b e => by have := hyb b e; omega, fun b e1 e2 => by have := hxb b e2; have := hyb b e1; omega⟩, hx6, hy6⟩
theorem sameTensor_c (a b : T4) (W : World) (h_a : a.at W) (h_b : b.at W) : Fnc Tryz.prog 10 [a.v, b.v] W (fun r w' => r = .bool (decide (a.s = b.s) && decide (a.l = b.l)) ∧ Below W.heap.size W w') := by
  have hB := Below.refl W.heap.size W
  refine Fnc.enter (n := 17) Tryz.func10 (by kernel_rfl) rfl rfl rfl ?_
  refine Cw.seq ?_
  refine Cw.region ?_
  refine Lw.boxV (cs := [a.x, a.y]) rfl rfl rfl ?_
  rintro A_a w eA_a b_a hn -
  replace hB := hB.bs hn
  replace h_a := h_a.bs hn
  replace h_b := h_b.bs hn
  clear hn
  refine Lw.boxV (cs := [b.x, b.y]) rfl rfl rfl ?_
  rintro A_b w eA_b b_b hn -
  replace hB := hB.bs hn
  replace h_a := h_a.bs hn
  replace h_b := h_b.bs hn
  replace b_a := b_a.bs hn
  clear hn
  refine Lw.val (Ex.assign rfl) rfl ?_
  refine Lw.nil ?_
  refine Pw.thenN (Cw.out ?_)
  refine Cw.seq ?_
  refine Cw.region ?_
  refine Lw.val (Ex.fieldAddr (q := 0) Tryz.underlying29 rfl (sz_26 _) rfl) rfl ?_
  refine Lw.val (Ex.ldB (ag_26 _) rfl (by assumption) rfl) rfl ?_
  refine Lw.val (Ex.fieldAddr (q := 0) Tryz.underlying29 rfl (sz_26 _) rfl) rfl ?_
  refine Lw.val (Ex.ldB (ag_26 _) rfl (by assumption) rfl) rfl ?_
  refine Lw.callF rfl rfl (sameInts_c a.x b.x a.s b.s _ h_a.1 h_b.1) ?_
  rintro _ w ⟨rfl, hn⟩
  replace hB := hB.bs hn
  replace h_a := h_a.bs hn
  replace h_b := h_b.bs hn
  replace b_a := b_a.bs hn
  replace b_b := b_b.bs hn
  clear hn
  refine Lw.val (Ex.move rfl) rfl ?_
  refine Lw.part 10 rfl ?_ ?_
  · intro g
    refine Lw.take (dj := 10) rfl rfl ?_
    refine Lw.val (Ex.fieldAddr (q := 0) Tryz.underlying29 rfl (sz_27 _) rfl) rfl ?_
    refine Lw.take (dj := 10) rfl rfl ?_
    refine Lw.val (Ex.ldB (ag_27 _) rfl (by assumption) rfl) rfl ?_
    refine Lw.take (dj := 10) rfl rfl ?_
    refine Lw.val (Ex.fieldAddr (q := 0) Tryz.underlying29 rfl (sz_27 _) rfl) rfl ?_
    refine Lw.take (dj := 10) rfl rfl ?_
    refine Lw.val (Ex.ldB (ag_27 _) rfl (by assumption) rfl) rfl ?_
    refine Lw.take (dj := 10) rfl rfl ?_
    refine Lw.callF rfl rfl (sameNumbers_c a.y b.y a.l b.l _ h_a.2 h_b.2) ?_
    rintro _ w ⟨rfl, hn⟩
    replace hB := hB.bs hn
    replace h_a := h_a.bs hn
    replace h_b := h_b.bs hn
    replace b_a := b_a.bs hn
    replace b_b := b_b.bs hn
    clear hn
    refine Lw.val (Ex.pickT rfl rfl) rfl ?_
    refine Lw.val (Ex.assign rfl) rfl ?_
    refine Lw.nil ?_
    refine Pw.thenN (Cw.out ?_)
    refine Cw.ret ?_
    refine Pw.ret1 rfl rfl ?_
    exact ⟨by rw [g]; rfl, hB⟩
  · intro g
    refine Lw.pass (dj := 10) rfl rfl rfl rfl ?_
    refine Lw.pass (dj := 10) rfl rfl rfl rfl ?_
    refine Lw.pass (dj := 10) rfl rfl rfl rfl ?_
    refine Lw.pass (dj := 10) rfl rfl rfl rfl ?_
    refine Lw.pass (dj := 10) rfl rfl rfl rfl ?_
    refine Lw.val (Ex.pickF rfl rfl) rfl ?_
    refine Lw.val (Ex.assign rfl) rfl ?_
    refine Lw.nil ?_
    refine Pw.thenN (Cw.out ?_)
    refine Cw.ret ?_
    refine Pw.ret1 rfl rfl ?_
    exact ⟨by rw [g]; rfl, hB⟩
theorem leftTensor_c (a : T4) (x y : Value) (lo hi : Nat) (W : World) (h_a : a.at W) (h_t : TwinT W lo hi x y a) : Fnc Tryz.prog 24 [.agg #[x, y], a.v] W (fun r w' => r = .bool true ∧ Below W.heap.size W w') := by
  have hB := Below.refl W.heap.size W
  refine Fnc.enter (n := 17) Tryz.func24 (by kernel_rfl) rfl rfl rfl ?_
  refine Cw.seq ?_
  refine Cw.region ?_
  refine Lw.boxV (cs := [x, y]) rfl rfl rfl ?_
  rintro A_t w eA_t b_t hn -
  replace hB := hB.bs hn
  replace h_a := h_a.bs hn
  replace h_t := h_t.bs hn
  clear hn
  refine Lw.boxV (cs := [a.x, a.y]) rfl rfl rfl ?_
  rintro A_a w eA_a b_a hn -
  replace hB := hB.bs hn
  replace h_a := h_a.bs hn
  replace h_t := h_t.bs hn
  replace b_t := b_t.bs hn
  clear hn
  refine Lw.val (Ex.assign rfl) rfl ?_
  refine Lw.nil ?_
  refine Pw.thenN (Cw.out ?_)
  refine Cw.seq ?_
  refine Cw.region ?_
  refine Lw.val (Ex.fieldAddr (q := 0) Tryz.underlying29 rfl (sz_26 _) rfl) rfl ?_
  refine Lw.val (Ex.ldB (ag_26 _) rfl (by assumption) rfl) rfl ?_
  refine Lw.val (Ex.fieldAddr (q := 0) Tryz.underlying29 rfl (sz_26 _) rfl) rfl ?_
  refine Lw.val (Ex.ldB (ag_26 _) rfl (by assumption) rfl) rfl ?_
  refine Lw.callF rfl rfl (leftInts_c x a.x a.s lo _ h_t.tx h_a.1) ?_
  rintro _ w ⟨rfl, hn⟩
  replace hB := hB.bs hn
  replace h_a := h_a.bs hn
  replace h_t := h_t.bs hn
  replace b_t := b_t.bs hn
  replace b_a := b_a.bs hn
  clear hn
  refine Lw.val (Ex.move rfl) rfl ?_
  refine Lw.know 10 (v' := .bool true) rfl (congrArg Value.bool (rfl)) ?_
  refine Lw.take (dj := 10) rfl rfl ?_
  refine Lw.val (Ex.fieldAddr (q := 0) Tryz.underlying29 rfl (sz_27 _) rfl) rfl ?_
  refine Lw.take (dj := 10) rfl rfl ?_
  refine Lw.val (Ex.ldB (ag_27 _) rfl (by assumption) rfl) rfl ?_
  refine Lw.take (dj := 10) rfl rfl ?_
  refine Lw.val (Ex.fieldAddr (q := 0) Tryz.underlying29 rfl (sz_27 _) rfl) rfl ?_
  refine Lw.take (dj := 10) rfl rfl ?_
  refine Lw.val (Ex.ldB (ag_27 _) rfl (by assumption) rfl) rfl ?_
  refine Lw.take (dj := 10) rfl rfl ?_
  refine Lw.callF rfl rfl (leftNumbers_c y a.y a.l lo _ h_t.ty h_a.2) ?_
  rintro _ w ⟨rfl, hn⟩
  replace hB := hB.bs hn
  replace h_a := h_a.bs hn
  replace h_t := h_t.bs hn
  replace b_t := b_t.bs hn
  replace b_a := b_a.bs hn
  clear hn
  refine Lw.val (Ex.pickT rfl rfl) rfl ?_
  refine Lw.val (Ex.assign rfl) rfl ?_
  refine Lw.nil ?_
  refine Pw.thenN (Cw.out ?_)
  refine Cw.ret ?_
  refine Pw.ret1 rfl rfl ?_
  exact ⟨rfl, hB⟩
end Go.Proofs.YtkhndfaampkbnaaGreatDoor
