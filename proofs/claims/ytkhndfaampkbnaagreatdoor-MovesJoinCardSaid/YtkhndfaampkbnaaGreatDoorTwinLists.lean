/- Contracts: the twins of a list of tensors, with marks behind; what is left of them. -/
import Derived.Test.YtkhndfaampkbnaaGreatDoorBookTen
import Derived.Test.YtkhndfaampkbnaaGreatDoorMovesJoin
import Derived.Test.YtkhndfaampkbnaaGreatDoorBkn
namespace Go.Proofs.YtkhndfaampkbnaaGreatDoor
open Go Go.Dd Go.RowKit
set_option maxRecDepth 100000

theorem own_tyS {w : World} {base sz n b : Nat} {e : TypeId} {v : Value} {xs : List Value} (h : w.ownsRow base e sz v n xs) (hb : v.ownBlock = some b) : ∃ cs, Blk w b e cs := KRow.ty (.inl h) hb
/-- A row stays when a row of another type grows. -/
theorem krow_awayS {w w' : World} {base base' : Nat} {e T : TypeId} {sz sz' n m : Nat} {v q : Value} {xs ys : List Value} (h : KRow w base e sz v n xs) (hk : KRow w base' T sz' q m ys) (hne : e ≠ T) (g : w.grownBy w' q.ownBlock) : KRow w' base e sz v n xs := by
  cases hq : q.ownBlock with
  | none => rw [hq] at g; exact h.bs (grown_below g (Nat.le_refl _) fun _ e => by cases e)
  | some A =>
    rw [hq] at g
    obtain ⟨cs, hb⟩ := hk.ty hq
    refine h.heap fun b eb => g.block b (h.lt b eb).2 fun e2 => ?_
    cases e2
    obtain ⟨ds, hd⟩ := h.ty eb
    exact hne (blk_tyB hd hb)
theorem own_awayS {w w' : World} {base base' : Nat} {e T : TypeId} {sz sz' n m : Nat} {v q : Value} {xs ys : List Value} (h : w.ownsRow base e sz v n xs) (hk : KRow w base' T sz' q m ys) (hne : e ≠ T) (g : w.grownBy w' q.ownBlock) : w'.ownsRow base e sz v n xs := by
  cases hq : q.ownBlock with
  | none => rw [hq] at g; exact own_bs h (grown_below g (Nat.le_refl _) fun _ e => by cases e)
  | some A =>
    rw [hq] at g
    obtain ⟨cs, hb⟩ := hk.ty hq
    refine h.kept g (.inr fun e2 => ?_)
    obtain ⟨ds, hd⟩ := own_tyS h e2
    exact hne (blk_tyB hd hb)
/-- A list of one's own, with a mark behind. -/
def TwnS (w : World) (base : Nat) (T : TypeId) (sz : Nat) (r : Value) (n : Nat) (cells mk : List Value) : Prop :=
  ∃ b cap, r = .slice (some ⟨b, 0, none⟩) n cap ∧ w.ownsRow base T sz (.slice (some ⟨b, 0, none⟩) (n + 1) cap) (n + 1) (cells ++ mk)
theorem TwnS.bs {w w' : World} {base : Nat} {T : TypeId} {sz : Nat} {r : Value} {n : Nat} {cells mk : List Value} (h : TwnS w base T sz r n cells mk) (g : Below w.heap.size w w') : TwnS w' base T sz r n cells mk := by
  obtain ⟨b, cap, e, ho⟩ := h
  exact ⟨b, cap, e, own_bs ho g⟩
theorem cut_z {b n m cap sz : Nat} : cut (.slice (some ⟨b, 0, none⟩) m cap) sz 0 n = .slice (some ⟨b, 0, none⟩) n cap := by
  show Value.slice (if cap = 0 then _ else Option.map _ _) (n - 0) (cap - 0) = _
  have e0 : (if cap = 0 then some (⟨b, 0, none⟩ : Addr) else (some (⟨b, 0, none⟩ : Addr)).map (·.add (0 * sz))) = some ⟨b, 0, none⟩ := by
    split
    · rfl
    · simp [add_lit]
  rw [e0]; rfl
theorem twnS_of {w : World} {base : Nat} {T : TypeId} {sz : Nat} {v : Value} {n : Nat} {cells mk : List Value} (h : w.ownsRow base T sz v (n + 1) (cells ++ mk)) : TwnS w base T sz (cut v sz 0 n) n cells mk := by
  have h0 := h
  rcases h.2 with ⟨_, h2⟩ | ⟨b, cap, cur, rfl, _⟩
  · omega
  · exact ⟨b, cap, cut_z, h0⟩
theorem TwnS.own {w : World} {base : Nat} {T : TypeId} {sz : Nat} {r : Value} {n : Nat} {cells mk : List Value} (h : TwnS w base T sz r n cells mk) (hl : cells.length = n * sz) : w.ownsRow base T sz r n cells := by
  obtain ⟨b, cap, rfl, ho⟩ := h
  have := own_cut0 ho (Nat.le_succ n)
  rw [List.take_append_of_le_length (by omega), List.take_of_length_le (by omega), cut_z] at this
  exact this
theorem Twn.awayS {α : Type} {w w' : World} {B base' : Nat} {e T : TypeId} {enc : α → Value} {mark v q : Value} {l : List α} {sz' m : Nat} {ys : List Value} (h : Twn w B e enc mark v l) (hk : KRow w base' T sz' q m ys) (hne : e ≠ T) (g : w.grownBy w' q.ownBlock) : Twn w' B e enc mark v l := by
  obtain ⟨b, cap, rfl, ho⟩ := h
  exact ⟨b, cap, rfl, own_awayS ho hk hne g⟩
theorem Held.awayS {w w' : World} {lo hi base' : Nat} {T : TypeId} {q : Value} {sz' m : Nat} {ys : List Value} {c : T4} (h : Held w lo hi c) (hk : KRow w base' T sz' q m ys) (h1 : 3 ≠ T) (h2 : 21 ≠ T) (g : w.grownBy w' q.ownBlock) : Held w' lo hi c :=
  ⟨krow_awayS h.rx hk h1 g, krow_awayS h.ry hk h2 g, h.bx, h.by', h.apart⟩
theorem TwinT.awayS {w w' : World} {lo hi base' : Nat} {T : TypeId} {q x y : Value} {sz' m : Nat} {ys : List Value} {c : T4} (h : TwinT w lo hi x y c) (hk : KRow w base' T sz' q m ys) (h1 : 3 ≠ T) (h2 : 21 ≠ T) (g : w.grownBy w' q.ownBlock) : TwinT w' lo hi x y c :=
  ⟨h.held.awayS hk h1 h2 g, Twn.awayS h.tx hk h1 g, Twn.awayS h.ty hk h2 g⟩
theorem TwinT.wide {w : World} {lo hi lo' hi' : Nat} {x y : Value} {c : T4} (h : TwinT w lo hi x y c) (h1 : lo' ≤ lo) (h2 : hi ≤ hi') : TwinT w lo' hi' x y c :=
  ⟨h.held.wide h1 h2, Twn.mono h.tx h1, Twn.mono h.ty h1⟩
theorem Heldall.awayS {w w' : World} {base' : Nat} {T : TypeId} {q : Value} {sz' m : Nat} {ys : List Value} (hk : KRow w base' T sz' q m ys) (h1 : 3 ≠ T) (h2 : 21 ≠ T) (g : w.grownBy w' q.ownBlock) : ∀ {cs : List T4} {base top : Nat}, Heldall w base top cs → Heldall w' base top cs
  | [], _, _, h => h
  | _ :: _, _, _, ⟨lo, hi, q1, q2, q3, q4⟩ => ⟨lo, hi, q1, q2, q3.awayS hk h1 h2 g, Heldall.awayS hk h1 h2 g q4⟩
theorem Heldall.snoc {w : World} {c : T4} {lo hi : Nat} (hc : Held w lo hi c) (hl : lo ≤ hi) : ∀ {cs : List T4} {base top : Nat}, Heldall w base top cs → top ≤ lo → Heldall w base hi (cs ++ [c])
  | [], _, _, h, ht => ⟨lo, hi, Nat.le_trans h ht, hl, hc, Nat.le_refl _⟩
  | _ :: _, _, _, ⟨l1, h1, q1, q2, q3, q4⟩, ht => ⟨l1, h1, q1, q2, q3, Heldall.snoc hc hl q4 ht⟩
theorem Heldall.top {w : World} {t' : Nat} : ∀ {cs : List T4} {base top : Nat}, Heldall w base top cs → top ≤ t' → Heldall w base t' cs
  | [], _, _, h, ht => Nat.le_trans h ht
  | _ :: _, _, _, ⟨l1, h1, q1, q2, q3, q4⟩, ht => ⟨l1, h1, q1, q2, q3, Heldall.top q4 ht⟩
theorem cellsOf_len2 : ∀ us : List T4, (cellsOf us).length = us.length * 2
  | [] => rfl
  | _ :: us => by simp only [cellsOf, List.length_cons, cellsOf_len2 us]; omega
theorem sl_formS {w : World} {sz n : Nat} {v : Value} {xs : List Value} (h : Sl w sz v n xs) : ∃ ao k c, v = .slice ao k c := by
  obtain ⟨_, ao, cap, rfl, _⟩ := h
  exact ⟨ao, n, cap, rfl⟩
def vl (t : T4) : List Int × List (BitVec 32) := (t.s, t.l)
/-- Twins of a list of tensors: each by itself, one behind the other, marks behind each and behind all. -/
structure TwinTs (w : World) (lo hi : Nat) (r : Value) (us : List T4) : Prop where
  all : Heldall w lo hi us
  tw : ∀ c ∈ us, TwinT w lo hi c.x c.y c
  m : ∃ m, TwnS w lo 29 2 r us.length (cellsOf us) [m, .slice none 0 0] ∧ SlT (Value.int .i64) w m [77]
  rb : ∀ b, r.ownBlock = some b → lo ≤ b ∧ b < hi
theorem TwinTs.bs {w w' : World} {lo hi : Nat} {r : Value} {us : List T4} (h : TwinTs w lo hi r us) (g : Below w.heap.size w w') : TwinTs w' lo hi r us :=
  ⟨h.all.bs g, fun c hc => (h.tw c hc).bs g, by obtain ⟨m, h1, h2⟩ := h.m; exact ⟨m, h1.bs g, h2.bs g⟩, h.rb⟩
theorem TwinTs.own {w : World} {lo hi : Nat} {r : Value} {us : List T4} (h : TwinTs w lo hi r us) : w.ownsRow lo 29 2 r us.length (cellsOf us) := by
  obtain ⟨m, h1, _⟩ := h.m
  exact h1.own (cellsOf_len2 us)
theorem TwinTs.tens {w : World} {lo hi : Nat} {r : Value} {us : List T4} (h : TwinTs w lo hi r us) : Tens w r us := ⟨own_sl h.own, fun c hc => (h.tw c hc).held.at⟩
theorem bt_tenS (x : Value) (hx : ∃ ao n c, x = .slice ao n c) : Tryz.prog.built 29 [(0, x)] = some [x, .slice none 0 0].toArray := by
  obtain ⟨ao, n, c, rfl⟩ := hx
  have h1 : Tryz.prog.info? 29 = some Tryz.t29 := rfl
  have h2 : Tryz.prog.info? 26 = some Tryz.t26 := rfl
  have h3 : Tryz.prog.info? 27 = some Tryz.t27 := rfl
  simp [Program.built, h1, Tryz.underlying29, h2, h3, Instr.fill, Value.cells]
  rfl
theorem ten_cellsS {ts : List T4} {j : Nat} (h : j < ts.length) : ∀ i, i < 2 → ∃ q, [ts[j].x, ts[j].y][i]? = some q ∧ (cellsOf ts)[j * 2 + i]? = some q := two_cells (cells_at h).1 (cells_at h).2
theorem cellsOf_app (a b : List T4) : cellsOf (a ++ b) = cellsOf a ++ cellsOf b := by
  induction a with
  | nil => rfl
  | cons x a ih => simp only [List.cons_append, cellsOf, ih]
theorem twinTs2_c (v : Value) (ts : List T4) (W : World) (h : Tens W v ts) (hb : ∀ t ∈ ts, t.s.length ≤ 4194304 ∧ t.l.length ≤ 4194304) (hl : ts.length ≤ 2097152) :
    Fnc Tryz.prog 7 [v] W (fun r w' => Below W.heap.size W w' ∧ ∃ us, TwinTs w' W.heap.size w'.heap.size r us ∧ us.map vl = ts.map vl) := by
  have sv := h.1
  refine Fnc.enter (n := 31) Tryz.func7 (by kernel_rfl) rfl rfl rfl ?_
  refine Cw.seq ?_
  refine Cw.region ?_
  refine Lw.val (Ex.assign rfl) rfl ?_
  refine Lw.nil ?_
  refine Pw.thenN (Cw.out ?_)
  refine Cw.seq ?_
  refine Cw.region ?_
  refine Lw.val (Ex.move rfl) rfl ?_
  refine Lw.val (Ex.lenS st_22 rfl (by assumption)) rfl ?_
  refine Lw.val (Ex.addI rfl rfl (by omega)) rfl ?_
  refine Lw.valW (Xw.make (l := 0) (c := ts.length + 1) st_22 it_29 rfl rfl rfl (by omega) (by omega) (by omega)) rfl ?_
  rintro r0 w1 ⟨o_r, -, hB, -⟩
  replace o_r : w1.ownsRow W.heap.size 29 2 r0 0 [] := o_r
  refine Lw.val (Ex.assign rfl) rfl ?_
  refine Lw.nil ?_
  refine Pw.thenN (Cw.out ?_)
  refine Cw.seq ?_
  refine Cw.seq ?_
  refine Cw.region ?_
  refine Lw.val (Ex.assign rfl) rfl ?_
  refine Lw.nil ?_
  refine Pw.thenN (Cw.out ?_)
  refine Cw.block ?_
  refine Cw.loop (S := (Nat × Value × List T4)) (fun z => [(0, v), (3, z.2.1), (4, .int .i64 (z.1 : Int))]) (fun z w' => z.1 ≤ ts.length ∧ Below W.heap.size W w' ∧ w'.ownsRow W.heap.size 29 2 z.2.1 z.1 (cellsOf z.2.2) ∧ Heldall w' W.heap.size w'.heap.size z.2.2 ∧ (∀ c ∈ z.2.2, TwinT w' W.heap.size w'.heap.size c.x c.y c) ∧ z.2.2.map vl = (ts.take z.1).map vl) (fun z => ts.length - z.1) ((0, r0, [])) ⟨rfl, rfl, rfl, trivial⟩ ?_ ?_
  · exact ⟨Nat.zero_le _, hB, o_r, hB.size, fun _ hc => absurd hc List.not_mem_nil, rfl⟩
  clear o_r hB
  rintro ⟨i, r, us⟩ w2 ⟨hi, hB, o_r, hH, hT, hp⟩
  replace hi : i ≤ ts.length := hi
  replace o_r : w2.ownsRow W.heap.size 29 2 r i (cellsOf us) := o_r
  replace hH : Heldall w2 W.heap.size w2.heap.size us := hH
  replace hT : ∀ c ∈ us, TwinT w2 W.heap.size w2.heap.size c.x c.y c := hT
  replace hp : us.map vl = (ts.take i).map vl := hp
  have sv2 := sv.bs hB
  have z2 := hB.size
  have lus : us.length = i := by have := congrArg List.length hp; rw [List.length_map, List.length_map, List.length_take] at this; omega
  refine Cw.seq ?_
  refine Cw.seq ?_
  refine Cw.region ?_
  refine Lw.val (Ex.move rfl) rfl ?_
  refine Lw.val (Ex.move rfl) rfl ?_
  refine Lw.val (Ex.lenS st_22 rfl (by assumption)) rfl ?_
  refine Lw.val (Ex.lss rfl rfl) rfl ?_
  refine Lw.nil ?_
  refine Pw.thenN (Cw.out ?_)
  refine Cw.cond rfl ?_ ?_
  · intro g
    have hi' : i < ts.length := by have := of_decide_eq_true g; omega
    obtain ⟨a, ha⟩ : ∃ a, a = ts[i] := ⟨_, rfl⟩
    have ham : a ∈ ts := ha ▸ List.getElem_mem hi'
    have hac := ten_cellsS hi'
    rw [← ha] at hac
    refine Cw.skip ?_
    refine Pw.thenN (Cw.out ?_)
    refine Cw.seq ?_
    refine Cw.block ?_
    refine Cw.region ?_
    refine Lw.val (Ex.move rfl) rfl ?_
    refine Lw.val (Ex.move rfl) rfl ?_
    refine Lw.val (Ex.move rfl) rfl ?_
    refine Lw.val (Ex.idx st_22 rfl rfl sv2 i rfl hi') rfl ?_
    refine Lw.val (Ex.ldE (cs := [a.x, a.y]) (ag_29 _) (sz_29 _) rfl sv2 rfl (by decide) hac) rfl ?_
    refine Lw.callF rfl rfl (twin2_c a w2 ((h.2 a ham).bs hB) (hb a ham).1 (hb a ham).2) ?_
    rintro _ w3 ⟨hn, x, y, rfl, M⟩
    have hB3 := bt hB hn
    have o_r3 := own_bs o_r hn
    have H3 := hH.bs hn
    have T3 : ∀ c ∈ us, TwinT w3 W.heap.size w2.heap.size c.x c.y c := fun c hc => (hT c hc).bs hn
    have z3 := hn.size
    clear hn
    refine Lw.valW (Xw.litA1 (cs := [x, y]) st_22 it_29 rfl rfl (by decide) (by decide)) rfl ?_
    rintro p w4 ⟨o_p, -, hn, -⟩
    have hB4 := bt hB3 hn
    have o_r4 := own_bs o_r3 hn
    have H4 := H3.bs hn
    have T4' : ∀ c ∈ us, TwinT w4 W.heap.size w2.heap.size c.x c.y c := fun c hc => (T3 c hc).bs hn
    replace M := M.bs hn
    have z4 := hn.size
    clear hn
    have ox := M.held.at.one
    refine Lw.valW (Xw.append2 (base := W.heap.size) st_22 it_29 rfl (by decide) rfl rfl o_r4 (own_sl o_p) ox (by omega) (by omega) hB4.size) rfl ?_
    rintro r' w5 ⟨o_r5, hn, hg, -⟩
    have hB5 := hB4.trans hn
    have z5 := hn.size
    have e1 : cellsOf (us ++ [⟨x, y, a.s, a.l⟩]) = cellsOf us ++ [x, y] := by rw [cellsOf_app]; rfl
    rw [← e1] at o_r5
    have k4 : KRow w4 W.heap.size 29 2 r i (cellsOf us) := .inl o_r4
    have T5 : ∀ c ∈ us ++ [⟨x, y, a.s, a.l⟩], TwinT w5 W.heap.size w5.heap.size c.x c.y c := by
      intro c hc
      rcases List.mem_append.1 hc with hc | hc
      · exact ((T4' c hc).awayS k4 (by decide) (by decide) hg).wide (Nat.le_refl _) (by omega)
      · rw [List.mem_singleton.1 hc]
        exact (show TwinT w4 w2.heap.size w3.heap.size x y (⟨x, y, a.s, a.l⟩ : T4) from ⟨M.held, M.tx, M.ty⟩).awayS k4 (by decide) (by decide) hg |>.wide z2 (by omega)
    have H5 : Heldall w5 W.heap.size w5.heap.size (us ++ [⟨x, y, a.s, a.l⟩]) := Heldall.top (Heldall.snoc (M.held.awayS k4 (by decide) (by decide) hg) z3 (H4.awayS k4 (by decide) (by decide) hg) (Nat.le_refl _)) (by omega)
    have hp5 : (us ++ [(⟨x, y, a.s, a.l⟩ : T4)]).map vl = (ts.take (i + 1)).map vl := by
      rw [List.map_append, hp, List.take_succ_eq_append_getElem hi', List.map_append, ← ha]; rfl
    refine Lw.val (Ex.assign rfl) rfl ?_
    refine Lw.nil ?_
    refine Pw.blkN ?_
    refine Pw.thenN (Cw.out ?_)
    refine Cw.region ?_
    refine Lw.val (Ex.move rfl) rfl ?_
    refine Lw.val (Ex.addI rfl rfl (by omega)) rfl ?_
    refine Lw.val (Ex.assign rfl) rfl ?_
    refine Lw.nil ?_
    exact Pw.thenN (Pw.next ((i + 1, r', us ++ [⟨x, y, a.s, a.l⟩])) ⟨rfl, rfl, rfl, trivial⟩ (⟨hi', hB5, o_r5, H5, T5, hp5⟩) (by simp only; omega))
  intro g
  have hi' : i = ts.length := by have := of_decide_eq_false g; omega
  rw [hi', List.take_length] at hp
  refine Cw.exit ?_
  refine Pw.thenE ?_
  refine Pw.thenE ?_
  refine Pw.blkHit ?_
  refine Pw.thenN (Cw.out ?_)
  refine Cw.seq ?_
  refine Cw.region ?_
  refine Lw.val (Ex.move rfl) rfl ?_
  refine Lw.valW (Xw.lit (vs := [(77 : Int)].map (Value.int .i64)) st_26 it_3 rfl rfl rfl rfl rfl) rfl ?_
  rintro m w3 ⟨o_m, -, hn, -⟩
  have hB3 := bt hB hn
  have o_r3 := own_bs o_r hn
  have H3 := hH.bs hn
  have T3 : ∀ c ∈ us, TwinT w3 W.heap.size w2.heap.size c.x c.y c := fun c hc => (hT c hc).bs hn
  have z3 := hn.size
  clear hn
  refine Lw.val (Ex.build (vs := [(0, m)]) (cs := [m, .slice none 0 0]) rfl (bt_tenS m (sl_formS (own_sl o_m)))) rfl ?_
  refine Lw.valW (Xw.litA1 (cs := [m, .slice none 0 0]) st_22 it_29 rfl rfl (by decide) (by decide)) rfl ?_
  rintro p w4 ⟨o_p, -, hn, -⟩
  have hB4 := bt hB3 hn
  have o_r4 := own_bs o_r3 hn
  have o_m4 := own_bs o_m hn
  have H4 := H3.bs hn
  have T4' : ∀ c ∈ us, TwinT w4 W.heap.size w2.heap.size c.x c.y c := fun c hc => (T3 c hc).bs hn
  have z4 := hn.size
  clear hn
  refine Lw.valW (Xw.append2 (base := W.heap.size) st_22 it_29 rfl (by decide) rfl rfl o_r4 (own_sl o_p) (by rw [List.all_cons, (own_sl o_m).one']; rfl) (by omega) (by omega) hB4.size) rfl ?_
  rintro r' w5 ⟨o_r5, hn, hg, -⟩
  have hB5 := hB4.trans hn
  have z5 := hn.size
  have k4 : KRow w4 W.heap.size 29 2 r i (cellsOf us) := .inl o_r4
  have o_m5 := own_awayS o_m4 k4 (by decide) hg
  have T5 : ∀ c ∈ us, TwinT w5 W.heap.size w5.heap.size c.x c.y c := fun c hc => ((T4' c hc).awayS k4 (by decide) (by decide) hg).wide (Nat.le_refl _) (by omega)
  have H5 : Heldall w5 W.heap.size w5.heap.size us := Heldall.top (H4.awayS k4 (by decide) (by decide) hg) (by omega)
  have s_r5 := own_sl o_r5
  rw [show i + 1 = us.length + 1 by omega] at o_r5
  have hS := twnS_of o_r5
  have sv5 := sv.bs hB5
  have hR : TwinTs w5 W.heap.size w5.heap.size (cut r' 2 0 us.length) us := ⟨H5, T5, ⟨m, hS, own_slT o_m5⟩, own_block (hS.own (cellsOf_len2 us))⟩
  rw [show us.length = ts.length by omega] at hR
  refine Lw.val (Ex.move rfl) rfl ?_
  refine Lw.val (Ex.lenS st_22 rfl (by assumption)) rfl ?_
  refine Lw.val (Ex.cutH (j := ts.length) st_22 rfl rfl s_r5 (by omega)) rfl ?_
  refine Lw.val (Ex.assign rfl) rfl ?_
  refine Lw.nil ?_
  refine Pw.thenN (Cw.out ?_)
  refine Cw.ret ?_
  refine Pw.ret1 rfl rfl ?_
  exact ⟨hB5, us, hR, hp⟩
theorem leftTs_c (r v : Value) (us ts : List T4) (lo hi : Nat) (W : World) (h : TwinTs W lo hi r us) (ht : Tens W v ts) (e : us.map vl = ts.map vl) :
    Fnc Tryz.prog 11 [r, v] W (fun r w' => r = .bool true ∧ Below W.heap.size W w') := by
  have sv := ht.1
  have hle := sv.le
  have s_r := own_sl h.own
  have lus : us.length = ts.length := by have := congrArg List.length e; simpa using this
  obtain ⟨m, hS, s_m⟩ := h.m
  obtain ⟨b, cap, rfl, ho⟩ := hS
  have hcap : us.length + 1 ≤ cap ∧ cap ≤ 9223372036854775807 := by
    obtain ⟨_, ao, cap', he, h1, h2, _⟩ := own_sl ho
    cases he; unfold maxLen at h2; exact ⟨h1, by omega⟩
  refine Fnc.enter (n := 55) Tryz.func11 (by kernel_rfl) rfl rfl rfl ?_
  refine Cw.seq ?_
  refine Cw.region ?_
  refine Lw.val (Ex.assign rfl) rfl ?_
  refine Lw.nil ?_
  refine Pw.thenN (Cw.out ?_)
  refine Cw.seq ?_
  refine Cw.seq ?_
  refine Cw.region ?_
  refine Lw.val (Ex.move rfl) rfl ?_
  refine Lw.val (Ex.lenS st_22 rfl (by assumption)) rfl ?_
  refine Lw.val (Ex.move rfl) rfl ?_
  refine Lw.val (Ex.lenS st_22 rfl (by assumption)) rfl ?_
  refine Lw.val (Ex.neq rfl rfl) rfl ?_
  refine Lw.val (Ex.move rfl) rfl ?_
  refine Lw.know 12 (v' := .bool false) rfl (congrArg Value.bool ((by simp [lus]))) ?_
  refine Lw.take (dj := 12) rfl rfl ?_
  refine Lw.val (Ex.move rfl) rfl ?_
  refine Lw.take (dj := 12) rfl rfl ?_
  refine Lw.val (Ex.capS st_22 rfl) rfl ?_
  refine Lw.take (dj := 12) rfl rfl ?_
  refine Lw.val (Ex.move rfl) rfl ?_
  refine Lw.take (dj := 12) rfl rfl ?_
  refine Lw.val (Ex.lenS st_22 rfl (by assumption)) rfl ?_
  refine Lw.take (dj := 12) rfl rfl ?_
  refine Lw.val (Ex.leq rfl rfl) rfl ?_
  refine Lw.val (Ex.pickF rfl rfl) rfl ?_
  refine Lw.nil ?_
  refine Pw.thenN (Cw.out ?_)
  refine Cw.condB rfl false ((by simp; omega)) ?_
  refine Cw.skip ?_
  refine Pw.thenN (Cw.out ?_)
  refine Cw.seq ?_
  refine Cw.seq ?_
  refine Cw.region ?_
  refine Lw.val (Ex.assign rfl) rfl ?_
  refine Lw.nil ?_
  refine Pw.thenN (Cw.out ?_)
  refine Cw.block ?_
  refine Cw.loop (S := Nat) (fun k => [(0, .slice (some ⟨b, 0, none⟩) us.length cap), (1, v), (5, .int .i64 (k : Int))]) (fun k w' => k ≤ ts.length ∧ Below W.heap.size W w') (fun k => ts.length - k) (0) ⟨rfl, rfl, rfl, trivial⟩ ?_ ?_
  · exact ⟨by omega, Below.refl _ _⟩
  rintro k w1 ⟨hk, hB1⟩
  have sv1 := sv.bs hB1
  have sr1 := s_r.bs hB1
  refine Cw.seq ?_
  refine Cw.seq ?_
  refine Cw.region ?_
  refine Lw.val (Ex.move rfl) rfl ?_
  refine Lw.val (Ex.move rfl) rfl ?_
  refine Lw.val (Ex.lenS st_22 rfl (by assumption)) rfl ?_
  refine Lw.val (Ex.lss rfl rfl) rfl ?_
  refine Lw.nil ?_
  refine Pw.thenN (Cw.out ?_)
  refine Cw.cond rfl ?_ ?_
  · intro g
    have hk' : k < ts.length := by have := of_decide_eq_true g; omega
    have hku : k < us.length := by omega
    obtain ⟨a, ha⟩ : ∃ a, a = ts[k] := ⟨_, rfl⟩
    obtain ⟨c, hc⟩ : ∃ c, c = us[k] := ⟨_, rfl⟩
    have ham : a ∈ ts := ha ▸ List.getElem_mem hk'
    have hcm : c ∈ us := hc ▸ List.getElem_mem hku
    have hac := ten_cellsS hk'
    rw [← ha] at hac
    have hcc := ten_cellsS hku
    rw [← hc] at hcc
    have ev : vl c = vl a := by
      have e1 : (us.map vl)[k]? = (ts.map vl)[k]? := by rw [e]
      rw [List.getElem?_map, List.getElem?_map, List.getElem?_eq_getElem hku, List.getElem?_eq_getElem hk', ← ha, ← hc] at e1
      exact Option.some.inj e1
    have es : c.s = a.s := congrArg Prod.fst ev
    have el : c.l = a.l := congrArg Prod.snd ev
    have hT := (h.tw c hcm).bs hB1
    have hT2 : TwinT w1 lo hi c.x c.y a := ⟨⟨by have := hT.held.rx; rw [es] at this; exact this, by have := hT.held.ry; rw [el] at this; exact this, hT.held.bx, hT.held.by', hT.held.apart⟩, es ▸ hT.tx, el ▸ hT.ty⟩
    refine Cw.skip ?_
    refine Pw.thenN (Cw.out ?_)
    refine Cw.seq ?_
    refine Cw.block ?_
    refine Cw.seq ?_
    refine Cw.tail 8 mixed (by kernel_rfl) ?_
    refine Qw.val (fun w1 hq => Ex.move rfl) rfl ?_
    refine Qw.val (fun w1 hq => Ex.move rfl) rfl ?_
    refine Qw.val (fun w1 hq => Ex.idx st_22 rfl rfl (Sl.bs sr1 hq) k rfl hku) rfl ?_
    refine Qw.val (fun w1 hq => Ex.ldE (cs := [c.x, c.y]) (ag_29 _) (sz_29 _) rfl (Sl.bs sr1 hq) rfl (by decide) hcc) rfl ?_
    refine Qw.val (fun w1 hq => Ex.move rfl) rfl ?_
    refine Qw.val (fun w1 hq => Ex.move rfl) rfl ?_
    refine Qw.val (fun w1 hq => Ex.idx st_22 rfl rfl (Sl.bs sv1 hq) k rfl hk') rfl ?_
    refine Qw.val (fun w1 hq => Ex.ldE (cs := [a.x, a.y]) (ag_29 _) (sz_29 _) rfl (Sl.bs sv1 hq) rfl (by decide) hac) rfl ?_
    refine Qw.done (fun w2 hq => ?_)
    refine Lw.callF rfl rfl (leftTensor_c a c.x c.y lo hi w2 (((ht.2 a ham).bs hB1).bs hq) (hT2.bs hq)) ?_
    rintro _ w3 ⟨rfl, hn⟩
    have hn := bt hq hn
    have hB2 := bt hB1 hn
    refine Lw.val (Ex.not rfl) rfl ?_
    refine Lw.nil ?_
    refine Pw.thenN (Cw.out ?_)
    refine Cw.condB rfl false ((by simp)) ?_
    refine Cw.skip ?_
    refine Pw.blkN ?_
    refine Pw.thenN (Cw.out ?_)
    refine Cw.region ?_
    refine Lw.val (Ex.move rfl) rfl ?_
    refine Lw.val (Ex.addI rfl rfl (by omega)) rfl ?_
    refine Lw.val (Ex.assign rfl) rfl ?_
    refine Lw.nil ?_
    exact Pw.thenN (Pw.next (k + 1) ⟨rfl, rfl, rfl, trivial⟩ (⟨by omega, hB2⟩) (by omega))
  · intro g
    have hk' : k = ts.length := by have := of_decide_eq_false g; omega
    subst hk'
    have hfull := own_sl (own_bs ho hB1)
    have s_m1 := s_m.bs hB1
    have lc := cellsOf_len2 us
    have e0 : (cellsOf us ++ [m, Value.slice none 0 0])[us.length * 2]? = some m := by rw [List.getElem?_append_right (by omega), lc, Nat.sub_self]; rfl
    have e1 : (cellsOf us ++ [m, Value.slice none 0 0])[us.length * 2 + 1]? = some (.slice none 0 0) := by rw [List.getElem?_append_right (by omega), lc, Nat.add_sub_cancel_left]; rfl
    rw [lus] at hfull e0 e1
    refine Cw.exit ?_
    refine Pw.thenE ?_
    refine Pw.thenE ?_
    refine Pw.blkHit ?_
    refine Pw.thenN (Cw.out ?_)
    refine Cw.seq ?_
    refine Cw.region ?_
    refine Lw.val (Ex.move rfl) rfl ?_
    refine Lw.val (Ex.move rfl) rfl ?_
    refine Lw.val (Ex.lenS st_22 rfl (by assumption)) rfl ?_
    refine Lw.val (Ex.addI rfl rfl (by omega)) rfl ?_
    refine Lw.val (Ex.extH (j := ts.length + 1) st_22 rfl rfl (by omega)) rfl ?_
    refine Lw.val (Ex.move rfl) rfl ?_
    refine Lw.val (Ex.lenS st_22 rfl (by assumption)) rfl ?_
    refine Lw.val (Ex.idx st_22 rfl rfl hfull ts.length rfl (by omega)) rfl ?_
    refine Lw.val (Ex.ldE (cs := [m, .slice none 0 0]) (ag_29 _) (sz_29 _) rfl hfull rfl (by decide) (two_cells e0 e1)) rfl ?_
    refine Lw.boxed (cs := [m, .slice none 0 0]) it_29 rfl rfl rfl rfl (fun _ => rfl) ((by rw [List.all_cons, s_m1.one']; rfl)) ?_
    rintro A_m w2 eA_m b_m hn zhn
    have s_m2 := s_m1.bs hn
    refine Lw.nil ?_
    refine Pw.thenN (Cw.out ?_)
    refine Cw.seq ?_
    refine Cw.region ?_
    refine Lw.val (Ex.fieldAddr (q := 0) Tryz.underlying29 rfl (sz_26 _) rfl) rfl ?_
    refine Lw.val (Ex.ldB (ag_26 _) rfl (by assumption) rfl) rfl ?_
    refine Lw.val (Ex.lenS st_26 rfl (by assumption)) rfl ?_
    refine Lw.val (Ex.eql rfl rfl) rfl ?_
    refine Lw.val (Ex.move rfl) rfl ?_
    refine Lw.know 48 (v' := .bool true) rfl (congrArg Value.bool (rfl)) ?_
    refine Lw.take (dj := 48) rfl rfl ?_
    refine Lw.val (Ex.fieldAddr (q := 0) Tryz.underlying29 rfl (sz_26 _) rfl) rfl ?_
    refine Lw.take (dj := 48) rfl rfl ?_
    refine Lw.val (Ex.ldB (ag_26 _) rfl (by assumption) rfl) rfl ?_
    refine Lw.take (dj := 48) rfl rfl ?_
    refine Lw.val (Ex.idxT st_26 rfl rfl s_m2 0 rfl (by decide)) rfl ?_
    refine Lw.take (dj := 48) rfl rfl ?_
    refine Lw.val (Ex.ldT (ag_3 _) rfl s_m2 (by decide)) rfl ?_
    refine Lw.take (dj := 48) rfl rfl ?_
    refine Lw.val (Ex.eql rfl rfl) rfl ?_
    refine Lw.val (Ex.pickT rfl rfl) rfl ?_
    refine Lw.val (Ex.assign rfl) rfl ?_
    refine Lw.nil ?_
    refine Pw.thenN (Cw.out ?_)
    refine Cw.ret ?_
    refine Pw.ret1 rfl rfl ?_
    exact ⟨congrArg Value.bool (by simp), bt hB1 hn⟩
end Go.Proofs.YtkhndfaampkbnaaGreatDoor
