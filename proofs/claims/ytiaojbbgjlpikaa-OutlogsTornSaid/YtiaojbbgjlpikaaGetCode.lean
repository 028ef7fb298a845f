/- Contracts: the tensor of any bytes. -/
import Derived.Test.YtiaojbbgjlpikaaGetLaw
import Derived.Test.YtiaojbbgjlpikaaRng
namespace Go.Proofs.Ytiaojbbgjlpikaa
open Go Go.Dd Go.RowKit
set_option maxRecDepth 100000

abbrev readT : TypeId := 125
theorem bt_reader (a : Value) (ha : a.cells = [a].toArray) : Try.prog.built readT [(0, a)] = some [a].toArray := by
  have h1 : Try.prog.info? 125 = some Try.t125 := rfl
  have h2 : Try.prog.info? 53 = some Try.t53 := rfl
  simp [Program.built, h1, Try.underlying125, h2, Instr.fill, ha]
  rfl
theorem stayA {w w' : World} {A : Nat} {v : Value} {l : List (BitVec 8)} (h : SlT b8 w v l) (g : w.grownBy w' (some A)) (hb : ∀ k, v.ownBlock = some k → l ≠ [] → k < A) : SlT b8 w' v l :=
  Sl.stay h fun k e hne => g.block k (Sl.blk h hne k e) fun e2 => by
    cases e2
    exact absurd (hb _ e fun e3 => hne (by rw [e3]; rfl)) (Nat.lt_irrefl _)
theorem stayB {w w' : World} {B : Nat} {v : Value} {l : List (BitVec 8)} (h : SlT b8 w v l) (g : Below B w w') (hb : ∀ k, v.ownBlock = some k → l ≠ [] → k < B) : SlT b8 w' v l :=
  Sl.stay h fun k e hne => g.block k (hb _ e fun e3 => hne (by rw [e3]; rfl))
theorem head_c (A n : Nat) (v : Value) (l : List (BitVec 8)) (w : World) (hA : Blk w A readT [v]) (hv : SlT b8 w v l) :
    Fnc Try.prog 60 [.pointer (some ⟨A, 0, none⟩), .int .i64 (n : Int)] w (fun r w' => r = cut v 1 0 (min n l.length) ∧ Blk w' A readT [cut v 1 (min n l.length) l.length] ∧ w.grownBy w' (some A) ∧ w'.heap.size = w.heap.size) := by
  obtain ⟨m, hm⟩ : ∃ m, m = min n l.length := ⟨_, rfl⟩
  have hml : m ≤ l.length := by omega
  rw [← hm]
  refine Fnc.enter (n := 29) Try.func60 (by kernel_rfl) rfl rfl rfl ?_
  refine Cw.seq ?_
  refine Cw.region ?_
  refine Lw.val (Ex.assign rfl) rfl ?_
  refine Lw.nil ?_
  refine Pw.thenN (Cw.out ?_)
  refine Cw.seq ?_
  refine Cw.region ?_
  refine Lw.val (Ex.move rfl) rfl ?_
  refine Lw.val (Ex.move rfl) rfl ?_
  refine Lw.val (Ex.nilCheck rfl) rfl ?_
  refine Lw.val (Ex.fieldAddr (q := 0) Try.underlying125 rfl (sz_53 _) rfl) rfl ?_
  refine Lw.val (Ex.ldB (ag_53 _) rfl (by assumption) rfl) rfl ?_
  refine Lw.val (Ex.lenS st_53 rfl (by assumption)) rfl ?_
  refine Lw.val (Ex.as (Ex.min2 rfl rfl) (congrArg (Value.int .i64) (show (if (l.length : Int) < (n : Int) then (l.length : Int) else (n : Int)) = (m : Int) by split <;> omega))) rfl ?_
  refine Lw.val (Ex.assign rfl) rfl ?_
  refine Lw.nil ?_
  refine Pw.thenN (Cw.out ?_)
  refine Cw.seq ?_
  refine Cw.region ?_
  refine Lw.val (Ex.move rfl) rfl ?_
  refine Lw.val (Ex.nilCheck rfl) rfl ?_
  refine Lw.val (Ex.fieldAddr (q := 0) Try.underlying125 rfl (sz_53 _) rfl) rfl ?_
  refine Lw.val (Ex.ldB (ag_53 _) rfl (by assumption) rfl) rfl ?_
  refine Lw.val (Ex.move rfl) rfl ?_
  refine Lw.val (Ex.cutH st_53 rfl rfl (by assumption) (by omega)) rfl ?_
  refine Lw.val (Ex.assign rfl) rfl ?_
  refine Lw.nil ?_
  refine Pw.thenN (Cw.out ?_)
  refine Cw.seq ?_
  refine Cw.region ?_
  refine Lw.val (Ex.move rfl) rfl ?_
  refine Lw.val (Ex.move rfl) rfl ?_
  refine Lw.val (Ex.nilCheck rfl) rfl ?_
  refine Lw.val (Ex.fieldAddr (q := 0) Try.underlying125 rfl (sz_53 _) rfl) rfl ?_
  refine Lw.val (Ex.ldB (ag_53 _) rfl (by assumption) rfl) rfl ?_
  refine Lw.val (Ex.move rfl) rfl ?_
  refine Lw.val (Ex.cutL st_53 rfl rfl (by assumption) (by omega)) rfl ?_
  refine Lw.val (Ex.nilCheck rfl) rfl ?_
  refine Lw.val (Ex.fieldAddr (q := 0) Try.underlying125 rfl (sz_53 _) rfl) rfl ?_
  refine Lw.unit (Xu.stB (u := cut v 1 m l.length) (sz_53 _) rfl rfl (SlT.drop hv hml).one' hA Nat.zero_lt_one) ?_
  rintro w1 ⟨b1, hg, hz⟩
  refine Lw.nil ?_
  refine Pw.thenN (Cw.out ?_)
  refine Cw.seq ?_
  refine Cw.region ?_
  refine Lw.val (Ex.move rfl) rfl ?_
  refine Lw.val (Ex.assign rfl) rfl ?_
  refine Lw.nil ?_
  refine Pw.thenN (Cw.out ?_)
  refine Cw.ret ?_
  refine Pw.ret1 rfl rfl ?_
  exact ⟨rfl, b1, hg, hz⟩

theorem numbers_sq (A : Nat) (v : Value) (l : List (BitVec 8)) (w : World) (hA : Blk w A readT [v]) (hv : SlT b8 w v l) (hb : ∀ k, v.ownBlock = some k → l ≠ [] → k < A) :
    Sq Try.prog 62 [.pointer (some ⟨A, 0, none⟩)] [] (fun x => [i32 x]) (fun b => b ≤ A) (some A) (nums l) w := by
  intro lp J W hW hJ hY h0
  show Fnc Try.prog 62 [.pointer (some ⟨A, 0, none⟩), .func (.yield lp) #[] #[]] W (fun _ A' => J (nums l) A')
  have hA := hA.bs hW
  have hv := hv.bs hW
  refine Fnc.enterG (n := 23) Try.func62 (by kernel_rfl) rfl rfl rfl ?_
  refine Cg.block ?_
  refine Cg.loop (S := (List (BitVec 32) × Value × List (BitVec 8))) (fun z => [(0, .pointer (some ⟨A, 0, none⟩)), (1, .func (.yield lp) #[] #[])]) (fun z w' => z.1 ++ nums z.2.2 = nums l ∧ J z.1 w' ∧ Blk w' A readT [z.2.1] ∧ SlT b8 w' z.2.1 z.2.2 ∧ (∀ k, z.2.1.ownBlock = some k → z.2.2 ≠ [] → k < A)) (fun z => z.2.2.length) (([], v, l)) ⟨rfl, rfl, trivial⟩ ?_ ?_
  · exact ⟨rfl, h0, hA, hv, hb⟩
  clear h0 hA hv hb hW
  rintro ⟨pre, u, cur⟩ w ⟨he, h0, hA, hv, hb⟩
  dsimp only at he h0 hA hv hb ⊢
  refine Cg.seq ?_
  refine Cg.seq ?_
  refine Cg.region (by kernel_rfl) ?_
  refine Lw.val (Ex.move rfl) rfl ?_
  refine Lw.val (Ex.nilCheck rfl) rfl ?_
  refine Lw.val (Ex.fieldAddr (q := 0) Try.underlying125 rfl (sz_53 _) rfl) rfl ?_
  refine Lw.val (Ex.ldB (ag_53 _) rfl (by assumption) rfl) rfl ?_
  refine Lw.val (Ex.lenS st_53 rfl (by assumption)) rfl ?_
  refine Lw.val (Ex.geq rfl rfl) rfl ?_
  refine Lw.nil (Pg.low ?_)
  refine Pg.thenN (Cg.out ?_)
  refine Cg.cond rfl ?_ ?_
  · intro h
    have hl : 4 ≤ cur.length := by have := of_decide_eq_true h; omega
    have e4 : min 4 cur.length = 4 := by omega
    refine Cg.skip ?_
    refine Pg.thenN (Cg.out ?_)
    refine Cg.block ?_
    refine Cg.seq ?_
    refine Cg.region (by kernel_rfl) ?_
    refine Lw.val (Ex.move rfl) rfl ?_
    refine Lw.callF rfl rfl (head_c A 4 u cur w hA hv) ?_
    rintro _ w1 ⟨rfl, hA1, hg, hz⟩
    rw [e4] at hA1 ⊢
    have hv1 := stayA hv hg hb
    have h1 := hJ _ _ _ h0 ⟨some A, hg, .inr rfl⟩
    have s4 := SlT.take hv1 hl
    have sd := SlT.drop hv1 hl
    have hbd : ∀ k, (cut u 1 4 cur.length).ownBlock = some k → cur.drop 4 ≠ [] → k < A := fun k e hne => hb k (cut_own e) fun e2 => hne (by rw [e2]; rfl)
    have l4 : ¬ (cur.take 4).length < 4 := by rw [List.length_take]; omega
    have g4 : gf (cur.take 4) = gf cur := by simp [gf]
    refine Lw.callF rfl rfl (getFour_c (cut u 1 0 4) (cur.take 4) w1 s4) ?_
    rintro _ w2 ⟨rfl, hn⟩
    rw [if_neg l4, if_neg l4, g4]
    have h2 := hJ _ _ _ h1 ⟨none, below_grown hn none, .inl rfl⟩
    have hA2 := hA1.bs hn
    have sd2 := sd.bs hn
    have hn4 := gf_nums hl
    have hlen : pre ++ [gf cur] <+: nums l := ⟨nums (cur.drop 4), by rw [List.append_assoc, List.singleton_append, ← hn4]; exact he⟩
    refine Lw.val (Ex.move rfl) rfl ?_
    refine Lw.val (Ex.extract (i := 0) rfl rfl) rfl ?_
    refine Lw.val (Ex.extract (i := 1) rfl rfl) rfl ?_
    refine Lw.val (Ex.assign rfl) rfl ?_
    refine Lw.val (Ex.assign rfl) rfl ?_
    refine Lw.nil (Pg.low ?_)
    refine Pg.thenN (Cg.out ?_)
    refine Cg.seq ?_
    refine Cg.regionY ?_
    refine Lg.plain 3 (by kernel_rfl) ?_
    refine Lw.val (Ex.move rfl) rfl ?_
    refine Lw.val (Ex.move rfl) rfl ?_
    refine Lw.val (Ex.conv32_i32 us_32 un_21 rfl) rfl ?_
    refine Lw.nil (Pg.low (Lg.out ?_))
    refine Lg.yield rfl rfl rfl (hY pre (gf cur) w2 h2 hlen) ?_
    rintro _ w3 ⟨rfl, h3, hB⟩
    have hA3 := hA2.keep (hB.2 A (Nat.le_refl _) (blk_lt hA2))
    have sd3 : SlT b8 w3 (cut u 1 4 cur.length) (cur.drop 4) := Sl.stay sd2 fun k e hne => hB.2 k (Nat.le_of_lt (hbd k e fun e3 => hne (by rw [e3]; rfl))) (Sl.blk sd2 hne k e)
    refine Lg.plain 1 (by kernel_rfl) ?_
    refine Lw.val (Ex.not rfl) rfl ?_
    refine Lw.nil (Pg.low (Lg.out (Lg.nil ?_)))
    refine Pg.thenN (Cg.out ?_)
    refine Cg.condB rfl false (rfl) ?_
    refine Cg.skip ?_
    refine Pg.blkN ?_
    exact Pg.thenN (Pg.next ((pre ++ [gf cur], cut u 1 4 cur.length, cur.drop 4)) ⟨rfl, rfl, trivial⟩ (⟨by simp only [List.append_assoc, List.singleton_append]; rw [← hn4]; exact he, h3, hA3, sd3, hbd⟩) (by simp only [List.length_drop]; omega))
  intro h
  have hl : cur.length < 4 := by have := of_decide_eq_false h; omega
  rw [nums_short hl, List.append_nil] at he
  subst he
  refine Cg.exit ?_
  refine Pg.thenE ?_
  refine Pg.thenE ?_
  refine Pg.blkHit ?_
  refine Pg.closeE ?_
  refine Pw.end0 rfl ?_
  exact h0
theorem set_mid {α : Type} (p : List α) (z : List α) (a : α) (h : p.length < z.length) : (p ++ z.drop p.length).set p.length a = (p ++ [a]) ++ z.drop (p ++ [a]).length := by
  rw [List.set_append_right _ _ (Nat.le_refl _), Nat.sub_self, List.drop_eq_getElem_cons h]
  simp only [List.set_cons_zero, List.length_append, List.length_singleton, List.append_assoc, List.singleton_append]
theorem ownA {w w' : World} {A base : Nat} {e : TypeId} {sz k : Nat} {v : Value} {xs : List Value} (h : w.ownsRow base e sz v k xs) (g : w.grownBy w' (some A)) (hA : A < base) : w'.ownsRow base e sz v k xs :=
  own_heap h fun b hb => g.block b (own_block h b hb).2 fun e2 => by
    cases e2
    exact absurd (own_block h _ hb).1 (by omega)
theorem itr_own {w w' : World} {A base : Nat} {e : TypeId} {sz k : Nat} {v : Value} {xs : List Value} (h : w.ownsRow base e sz v k xs) (g : Itr (some A) w w') (hA : A < base) : w'.ownsRow base e sz v k xs := by
  obtain ⟨r, g, hr⟩ := g
  refine own_heap h fun b hb => g.block b (own_block h b hb).2 fun e2 => ?_
  have := (own_block h b hb).1
  rcases hr with hr | hr
  · rw [hr] at e2; cases e2
  · rw [hr] at e2; cases e2; omega
theorem itr_krow {w w' : World} {A base : Nat} {e : TypeId} {sz k : Nat} {v : Value} {xs : List Value} (h : KRow w base e sz v k xs) (g : Itr (some A) w w') (hA : A < base) : KRow w' base e sz v k xs := by
  obtain ⟨r, g, hr⟩ := g
  refine h.heap fun b hb => g.block b (h.lt b hb).2 fun e2 => ?_
  have := (h.lt b hb).1
  rcases hr with hr | hr
  · rw [hr] at e2; cases e2
  · rw [hr] at e2; cases e2; omega
theorem itr_blk {w w' : World} {A b : Nat} {T : TypeId} {cs : List Value} (h : Blk w b T cs) (g : Itr (some A) w w') (hA : b ≠ A) : Blk w' b T cs := by
  obtain ⟨r, g, hr⟩ := g
  refine h.by g fun e2 => ?_
  rcases hr with hr | hr
  · rw [hr] at e2; cases e2
  · rw [hr] at e2; cases e2; exact hA rfl
theorem itr_below {w w' w0 : World} {A n : Nat} (h : Below n w0 w) (g : Itr (some A) w w') (hA : n ≤ A) (hz : n ≤ w0.heap.size) : Below n w0 w' := by
  obtain ⟨r, g, hr⟩ := g
  refine h.grown g (Nat.le_trans hz h.size) fun b e2 => ?_
  rcases hr with hr | hr
  · rw [hr] at e2; cases e2
  · rw [hr] at e2; cases e2; exact hA

def sAt (b : List (BitVec 8)) (i : Nat) : List Int := if i = 0 then [] else gtS b
def GotT (W w : World) (r : Value) (b : List (BitVec 8)) : Prop := ∃ x y, r = .tuple #[.agg #[x, y], .int .i64 (gtE b)] ∧ (gtK b = false → x = .slice none 0 0 ∧ y = .slice none 0 0) ∧ (gtK b = true → Made1 W w x y (gtS b) (gtL b))
theorem get_c (v : Value) (b : List (BitVec 8)) (W : World) (h_b : SlT b8 W v b) : Fnc Try.prog 49 [v] W (fun r w' => Below W.heap.size W w' ∧ GotT W w' r b) := by
  have hB := Below.refl W.heap.size W
  have hle := h_b.le
  obtain ⟨m1, hm1⟩ : ∃ m1, m1 = min 1 b.length := ⟨_, rfl⟩
  have hm1l : m1 ≤ b.length := by omega
  have hvb : ∀ k, v.ownBlock = some k → b ≠ [] → k < W.heap.size := fun k e hne => Sl.blk h_b (by simpa using hne) k e
  refine Fnc.enterG (n := 74) Try.func49 (by kernel_rfl) rfl rfl rfl ?_
  refine Cg.seq ?_
  refine Cg.region (by kernel_rfl) ?_
  refine Lw.newA it_36 rfl ?_
  rintro A_r w eA_r b_r hn -
  replace hB := hB.bs hn
  replace h_b := h_b.bs hn
  clear hn
  refine Lw.val (Ex.assign rfl) rfl ?_
  refine Lw.nil (Pg.low ?_)
  refine Pg.thenN (Cg.out ?_)
  refine Cg.seq ?_
  refine Cg.region (by kernel_rfl) ?_
  refine Lw.val (Ex.move rfl) rfl ?_
  refine Lw.val (Ex.build (vs := [(0, v)]) (cs := [v]) rfl (bt_reader _ h_b.one)) rfl ?_
  have z_r := below_size hB
  have y_r := blk_lt b_r
  refine Lw.boxV (cs := [v]) rfl rfl rfl ?_
  rintro A_k w eA_k b_k hn -
  replace hB := hB.bs hn
  replace h_b := h_b.bs hn
  replace b_r := b_r.bs hn
  clear hn
  refine Lw.val (Ex.assign rfl) rfl ?_
  refine Lw.nil (Pg.low ?_)
  refine Pg.thenN (Cg.out ?_)
  refine Cg.seq ?_
  refine Cg.region (by kernel_rfl) ?_
  refine Lw.val (Ex.assign rfl) rfl ?_
  refine Lw.nil (Pg.low ?_)
  refine Pg.thenN (Cg.out ?_)
  refine Cg.seq ?_
  refine Cg.seq ?_
  refine Cg.region (by kernel_rfl) ?_
  refine Lw.val (Ex.move rfl) rfl ?_
  have y_k := blk_lt b_k
  have a_k : A_r < A_k ∧ W.heap.size ≤ A_r ∧ A_k < w.heap.size := by omega
  refine Lw.callF rfl rfl (head_c A_k 1 v b w b_k h_b) ?_
  rw [← hm1]
  rintro _ w1 ⟨rfl, b_k, hg, hz⟩
  have hB := hB.grown hg (below_size hB) (by rintro _ ⟨⟩; omega)
  have h_b := stayA h_b hg (fun k e hne => by have := hvb k e hne; omega)
  have b_r := b_r.by hg (by intro e; cases e; omega)
  have h_k := SlT.drop h_b hm1l
  have zw : A_k < w1.heap.size := by omega
  clear y_k y_r z_r hg hz
  have l_19 : (b.take m1).length = m1 := by rw [List.length_take]; omega
  have s_19 : Sl w1 1 (cut v 1 0 m1) m1 ((b.take m1).map b8) := by
    have := SlT.take h_b hm1l
    unfold SlT at this
    rwa [l_19] at this
  refine Lw.val (Ex.lenS st_53 rfl (by assumption)) rfl ?_
  refine Lw.val (Ex.move rfl) rfl ?_
  refine Lw.nil (Pg.low ?_)
  refine Pg.thenN (Cg.out ?_)
  refine Cg.block ?_
  refine Cg.loop (S := (Nat × Value × Value)) (fun z => [(0, v), (2, .pointer (some ⟨A_r, 0, none⟩)), (3, .int .i64 0), (4, .pointer (some ⟨A_k, 0, none⟩)), (5, z.2.2), (19, cut v 1 0 m1), (20, .int .i64 (m1 : Int)), (21, .int .i64 (z.1 : Int))]) (fun z w' => z.1 ≤ m1 ∧ Blk w' A_k readT [z.2.1] ∧ SlT b8 w' v b ∧ SlT b8 w' z.2.1 (b.drop (m1 + (sAt b z.1).length)) ∧ (∀ k, z.2.1.ownBlock = some k → b.drop (m1 + (sAt b z.1).length) ≠ [] → k < W.heap.size) ∧ Blk w' A_r 36 [.slice none 0 0, .slice none 0 0] ∧ w'.ownsRow w1.heap.size 3 1 z.2.2 (sAt b z.1).length ((sAt b z.1).map (Value.int .i64)) ∧ Below W.heap.size W w' ∧ w1.heap.size ≤ w'.heap.size) (fun z => m1 - z.1) ((0, cut v 1 m1 b.length, .slice none 0 0)) ⟨rfl, rfl, rfl, rfl, rfl, rfl, rfl, rfl, trivial⟩ ?_ ?_
  · exact ⟨Nat.zero_le _, b_k, h_b, h_k, fun k e hne => hvb k (cut_own e) (fun e2 => hne (by rw [e2]; exact List.drop_nil)), b_r, ⟨rfl, .inl ⟨rfl, rfl⟩⟩, hB, Nat.le_refl _⟩
  clear b_k h_b h_k b_r hB s_19
  rintro ⟨i, u, sv⟩ w ⟨hi, b_k, h_b, h_k, huk, b_r, ho, hB, hz⟩
  dsimp only at hi b_k h_b h_k huk b_r ho hB hz ⊢
  have s_19 := SlT.take h_b hm1l
  refine Cg.seq ?_
  refine Cg.region (by kernel_rfl) ?_
  refine Lw.val (Ex.lss rfl rfl) rfl ?_
  refine Lw.nil (Pg.low ?_)
  refine Pg.thenN (Cg.out ?_)
  refine Cg.seq ?_
  refine Cg.cond rfl ?_ ?_
  · intro h
    have hi' : i < m1 := by have := of_decide_eq_true h; omega
    have hi0 : i = 0 := by omega
    have hm : m1 = 1 := by omega
    have e0 : sAt b i = [] := by simp [sAt, hi0]
    have e1 : sAt b (i + 1) = gtS b := by simp [sAt]
    rw [e0] at h_k huk ho
    have eL : b.drop (m1 + ([] : List Int).length) = b.tail := by rw [hm]; simp
    rw [eL] at h_k huk
    obtain ⟨N, hN⟩ : ∃ N, N = ((b.take m1).getD i default).toNat := ⟨_, rfl⟩
    refine Cg.skip ?_
    refine Pg.thenN (Cg.out ?_)
    refine Cg.seq ?_
    refine Cg.block ?_
    refine Cg.seq ?_
    refine Cg.region (by kernel_rfl) ?_
    refine Lw.val (Ex.idxT st_53 rfl rfl (by assumption) _ rfl (by omega)) rfl ?_
    refine Lw.val (Ex.ldT (ag_5 _) rfl (by assumption) (by omega)) rfl ?_
    refine Lw.val (Ex.assign rfl) rfl ?_
    refine Lw.nil (Pg.low ?_)
    refine Pg.thenN (Cg.out ?_)
    refine Cg.seq ?_
    refine Cg.region (by kernel_rfl) ?_
    refine Lw.val (Ex.move rfl) rfl ?_
    refine Lw.val (Ex.move rfl) rfl ?_
    refine Lw.val (Ex.as (Ex.conv8_I us_5 un_3 rfl) (congrArg (fun x : Nat => Value.int .i64 (x : Int)) hN.symm)) rfl ?_
    have hNh : N = (b.headD 0#8).toNat := by
      rw [hN, hi0]
      cases b with
      | nil => simp at hm1; omega
      | cons x t => simp [hm]
    obtain ⟨q, hq⟩ : ∃ q, q = b.tail.take N := ⟨_, rfl⟩
    have hqS : gtS b = q.map fun x => (x.toNat : Int) := by rw [hq, hNh]; rfl
    have hql : q.length = min N b.tail.length := by rw [hq, List.length_take]
    have hgl : (gtS b).length = q.length := by rw [hqS, List.length_map]
    have hqt : b.tail.take q.length = q := by rw [hql, hq]; exact List.take_eq_take_min.symm
    refine Lw.callF rfl rfl (head_c A_k N u b.tail w b_k h_k) ?_
    rw [← hql]
    rintro _ w3 ⟨rfl, b_k, hg, hz3⟩
    have hB := hB.grown hg (by have := below_size hB; omega) (by rintro _ ⟨⟩; omega)
    have h_b := stayA h_b hg (fun k e hne => by have := hvb k e hne; omega)
    have h_k := stayA h_k hg (fun k e hne => by have := huk k e hne; omega)
    have b_r := b_r.by hg (by intro e; cases e; omega)
    have ho := ownA ho hg zw
    have hqle : q.length ≤ b.tail.length := by omega
    have s_28 := SlT.take h_k hqle
    rw [hqt] at s_28
    have h_d := SlT.drop h_k hqle
    have hz : w1.heap.size ≤ w3.heap.size := by omega
    refine Lw.val (Ex.lenS st_53 rfl (by assumption)) rfl ?_
    refine Lw.val (Ex.move rfl) rfl ?_
    refine Lw.nil (Pg.low ?_)
    refine Pg.thenN (Cg.out ?_)
    refine Cg.block ?_
    refine Cg.loop (S := (Nat × Value)) (fun z => [(0, v), (2, .pointer (some ⟨A_r, 0, none⟩)), (3, .int .i64 0), (4, .pointer (some ⟨A_k, 0, none⟩)), (5, z.2), (19, cut v 1 0 m1), (20, .int .i64 (m1 : Int)), (21, .int .i64 (i : Int)), (28, cut u 1 0 q.length), (29, .int .i64 (q.length : Int)), (30, .int .i64 (z.1 : Int))]) (fun z w' => z.1 ≤ q.length ∧ w'.ownsRow w1.heap.size 3 1 z.2 ((gtS b).take z.1).length (((gtS b).take z.1).map (Value.int .i64)) ∧ Below w1.heap.size w3 w') (fun z => q.length - z.1) ((0, sv)) ⟨rfl, rfl, rfl, rfl, rfl, rfl, rfl, rfl, rfl, rfl, rfl, trivial⟩ ?_ ?_
    · exact ⟨Nat.zero_le _, by simpa using ho, Below.refl _ _⟩
    clear ho
    rintro ⟨j, sv⟩ w4 ⟨hj, ho, hn⟩
    dsimp only at hj ho hn ⊢
    have s_28 := stayB s_28 hn (fun k e hne => by have := huk k (cut_own e) (fun e2 => hne (by rw [hq, e2]; exact List.take_nil)); omega)
    refine Cg.seq ?_
    refine Cg.region (by kernel_rfl) ?_
    refine Lw.val (Ex.lss rfl rfl) rfl ?_
    refine Lw.nil (Pg.low ?_)
    refine Pg.thenN (Cg.out ?_)
    refine Cg.seq ?_
    refine Cg.cond rfl ?_ ?_
    · intro h
      have hj' : j < q.length := by have := of_decide_eq_true h; omega
      have hjg : j < (gtS b).length := by omega
      have e2 : (gtS b).take (j + 1) = (gtS b).take j ++ [((q.getD j default).toNat : Int)] := by
        rw [List.take_succ_eq_append_getElem hjg]
        congr 1
        simp [hqS, hj']
      have e3 : ((gtS b).take j).length + 1 = ((gtS b).take (j + 1)).length := by rw [e2]; simp
      have e4 : ((gtS b).take j).length ≤ 256 := by
        have := gtS_len b
        have := (b.headD 0#8).isLt
        rw [List.length_take]; omega
      have hn4 := hn.size
      refine Cg.skip ?_
      refine Pg.thenN (Cg.out ?_)
      refine Cg.seq ?_
      refine Cg.block ?_
      refine Cg.seq ?_
      refine Cg.region (by kernel_rfl) ?_
      refine Lw.val (Ex.idxT st_53 rfl rfl (by assumption) _ rfl (by omega)) rfl ?_
      refine Lw.val (Ex.ldT (ag_5 _) rfl (by assumption) (by omega)) rfl ?_
      refine Lw.val (Ex.assign rfl) rfl ?_
      refine Lw.nil (Pg.low ?_)
      refine Pg.thenN (Cg.out ?_)
      refine Cg.region (by kernel_rfl) ?_
      refine Lw.val (Ex.move rfl) rfl ?_
      refine Lw.val (Ex.move rfl) rfl ?_
      refine Lw.val (Ex.conv8_I us_5 un_3 rfl) rfl ?_
      refine Lw.valW (Xw.lit (vs := [((q.getD j default).toNat : Int)].map (Value.int .i64)) st_33 it_3 rfl rfl rfl rfl rfl) rfl ?_
      rintro u5 w5 ⟨hu, -, hn1, -⟩
      have ho := own_bs ho hn1
      have hn2 := hn.trans (hn1.mono (by omega))
      have hn5 := hn2.size
      refine Lw.valW (Xw.append (base := w1.heap.size) st_33 it_3 rfl (by decide) rfl rfl ho (own_sl hu) (one_map (fun _ => rfl) _) (by omega) (by omega) (by omega)) rfl ?_
      rintro sv' w6 ⟨ho3, hb3, -⟩
      rw [← List.map_append, ← e2, e3] at ho3
      refine Lw.val (Ex.assign rfl) rfl ?_
      refine Lw.nil (Pg.low ?_)
      refine Pg.blkN ?_
      refine Pg.thenN (Cg.out ?_)
      refine Cg.region (by kernel_rfl) ?_
      refine Lw.val (Ex.addI rfl rfl (by omega)) rfl ?_
      refine Lw.val (Ex.move rfl) rfl ?_
      refine Lw.nil (Pg.low ?_)
      exact Pg.thenN (Pg.next ((j + 1, sv')) ⟨rfl, rfl, rfl, rfl, rfl, rfl, rfl, rfl, rfl, rfl, rfl, trivial⟩ (⟨hj', ho3, hn2.trans hb3⟩) (by simp only; omega))
    intro h
    have hj' : j = q.length := by have := of_decide_eq_false h; omega
    subst hj'
    rw [← hgl, List.take_length] at ho
    have zb := below_size hB
    have eD2 : b.drop (m1 + (gtS b).length) = b.tail.drop q.length := by rw [hm, hgl, ← List.drop_one, List.drop_drop]
    refine Cg.exit ?_
    refine Pg.thenE ?_
    refine Pg.thenE ?_
    refine Pg.blkHit ?_
    refine Pg.blkN ?_
    refine Pg.thenN (Cg.out ?_)
    refine Cg.region (by kernel_rfl) ?_
    refine Lw.val (Ex.addI rfl rfl (by omega)) rfl ?_
    refine Lw.val (Ex.move rfl) rfl ?_
    refine Lw.nil (Pg.low ?_)
    exact Pg.thenN (Pg.next ((i + 1, cut u 1 q.length b.tail.length, sv)) ⟨rfl, rfl, rfl, rfl, rfl, rfl, rfl, rfl, trivial⟩ (⟨hi', b_k.bl hn zw, stayB h_b hn (fun k e hne => by have := hvb k e hne; omega), by rw [e1, eD2]; exact stayB h_d hn (fun k e hne => by have := huk k (cut_own e) (fun e2 => hne (by rw [e2]; exact List.drop_nil)); omega), fun k e hne => huk k (cut_own e) (fun e2 => hne (by rw [e1, eD2, e2]; exact List.drop_nil)), b_r.bl hn (by omega), by rw [e1]; exact ho, hB.trans (hn.mono (by omega)), by have := hn.size; omega⟩) (by simp only; omega))
  intro h
  have hi' : i = m1 := by have := of_decide_eq_false h; omega
  have eS : sAt b i = gtS b := by
    unfold sAt
    split
    · have : b = [] := List.eq_nil_of_length_eq_zero (by omega)
      subst this; rfl
    · rfl
  rw [eS] at h_k huk ho
  have eD : b.drop (m1 + (gtS b).length) = b.drop (1 + (gtS b).length) := by
    rcases Nat.lt_or_ge 0 b.length with h0 | h0
    · rw [show m1 = 1 by omega]
    · have : b = [] := List.eq_nil_of_length_eq_zero (by omega)
      subst this; simp
  rw [eD] at h_k huk
  have s_5 := own_slT ho
  have zb := below_size hB
  clear s_19 l_19 hi h eS eD ho
  have gl := gtS_len b
  have gl2 := (b.headD 0#8).isLt
  refine Cg.exit ?_
  refine Pg.thenE ?_
  refine Pg.thenE ?_
  refine Pg.blkHit ?_
  refine Pg.thenN (Cg.out ?_)
  refine Cg.seq ?_
  refine Cg.region (by kernel_rfl) ?_
  refine Lw.val (Ex.move rfl) rfl ?_
  obtain ⟨B1, hB1⟩ : ∃ B1, B1 = w.heap.size := ⟨_, rfl⟩
  refine Lw.callF rfl rfl (new_c sv (gtS b) w s_5) ?_
  rintro _ w2 ⟨hn, ⟨hok, x, y, rfl, hm⟩ | ⟨hno, rfl⟩⟩
  · have sz := Shapes.size_le (gtS b)
    obtain ⟨z, hzl⟩ : ∃ z, z = List.replicate (Shapes.size (gtS b)).toNat 0#32 := ⟨_, rfl⟩
    have lz : z.length = (Shapes.size (gtS b)).toNat := by rw [hzl, List.length_replicate]
    rw [← hzl] at hm
    have ho := hm.own
    have hx := hm.row
    have hap := hm.apart
    rw [← hB1] at ho hx
    have hyb := own_block ho
    have hxb := hx.lt
    have zn := below_size hn
    replace hB := hB.bs hn
    replace h_b := h_b.bs hn
    replace b_k := b_k.bs hn
    replace b_r := b_r.bs hn
    replace h_k := h_k.bs hn
    replace s_5 := s_5.bs hn
    clear hn
    refine Lw.val (Ex.move rfl) rfl ?_
    refine Lw.val (Ex.extract (i := 0) rfl rfl) rfl ?_
    refine Lw.val (Ex.extract (i := 1) rfl rfl) rfl ?_
    have y_2 : w2.heap.size = w2.heap.size := rfl
    refine Lw.boxed (cs := [x, y]) it_36 rfl rfl rfl rfl (fun _ => rfl) (hm.one) ?_
    rintro A_t w eA_t b_t hn -
    replace hB := hB.bs hn
    replace h_b := h_b.bs hn
    replace b_k := b_k.bs hn
    replace b_r := b_r.bs hn
    replace h_k := h_k.bs hn
    replace s_5 := s_5.bs hn
    replace ho := ho.bs hn
    replace hx := hx.bs hn
    clear hn
    refine Lw.val (Ex.assign rfl) rfl ?_
    refine Lw.nil (Pg.low ?_)
    refine Pg.thenN (Cg.out ?_)
    refine Cg.seq ?_
    refine Cg.seq ?_
    refine Cg.region (by kernel_rfl) ?_
    refine Lw.val (Ex.move rfl) rfl ?_
    refine Lw.val (Ex.neq rfl rfl) rfl ?_
    refine Lw.val (Ex.move rfl) rfl ?_
    have s_y := own_slT ho
    have y_t := blk_lt b_t
    refine Lw.know 48 (v' := .bool false) rfl (congrArg Value.bool (rfl)) ?_
    refine Lw.take (dj := 48) rfl rfl ?_
    refine Lw.val (Ex.move rfl) rfl ?_
    refine Lw.take (dj := 48) rfl rfl ?_
    refine Lw.val (Ex.lenS st_53 rfl (by assumption)) rfl ?_
    refine Lw.take (dj := 48) rfl rfl ?_
    refine Lw.val (Ex.move rfl) rfl ?_
    refine Lw.take (dj := 48) rfl rfl ?_
    refine Lw.val (Ex.lenS st_33 rfl (by assumption)) rfl ?_
    refine Lw.take (dj := 48) rfl rfl ?_
    refine Lw.val (Ex.addI rfl rfl (by omega)) rfl ?_
    refine Lw.take (dj := 48) rfl rfl ?_
    refine Lw.val (Ex.fieldAddr (q := 0) Try.underlying36 rfl (sz_34 _) rfl) rfl ?_
    refine Lw.take (dj := 48) rfl rfl ?_
    refine Lw.val (Ex.ldB (ag_34 _) rfl (by assumption) rfl) rfl ?_
    refine Lw.take (dj := 48) rfl rfl ?_
    refine Lw.val (Ex.lenS st_34 rfl (by assumption)) rfl ?_
    refine Lw.take (dj := 48) rfl rfl ?_
    refine Lw.val (Ex.mulI rfl rfl (by omega)) rfl ?_
    refine Lw.take (dj := 48) rfl rfl ?_
    refine Lw.val (Ex.addI rfl rfl (by omega)) rfl ?_
    refine Lw.take (dj := 48) rfl rfl ?_
    refine Lw.val (Ex.neq rfl rfl) rfl ?_
    refine Lw.val (Ex.pickF rfl rfl) rfl ?_
    refine Lw.nil (Pg.low ?_)
    refine Pg.thenN (Cg.out ?_)
    refine Cg.cond rfl ?_ ?_
    · intro g
      have gK : gtK b = false := by
        have := g
        simp only [Bool.not_eq_true', decide_eq_false_iff_not] at this
        simp only [gtK, hok, Bool.true_and, decide_eq_false_iff_not]
        omega
      refine Cg.seq ?_
      refine Cg.region (by kernel_rfl) ?_
      refine Lw.val (Ex.build (vs := []) (cs := [.slice none 0 0, .slice none 0 0]) rfl (by kernel_rfl)) rfl ?_
      refine Lw.unit (Xu.stA (cs := [.slice none 0 0, .slice none 0 0]) rfl rfl rfl rfl rfl b_r rfl) ?_
      rintro w3 ⟨b_r, hg, -⟩
      have hB := hB.grown hg (below_size hB) (by rintro _ ⟨⟩; omega)
      refine Lw.val (Ex.assign rfl) rfl ?_
      refine Lw.nil (Pg.low ?_)
      refine Pg.thenN (Cg.out ?_)
      refine Cg.ret ?_
      refine Pg.thenR ?_
      refine Pg.close0 ?_
      refine Pw.retCT rfl rfl rfl (by assumption) (Try.underlying36) rfl rfl rfl ?_
      exact ⟨hB, .slice none 0 0, .slice none 0 0, by simp [gtE, gK], fun _ => ⟨rfl, rfl⟩, fun h => by rw [gK] at h; cases h⟩
    intro g
    have gK : gtK b = true := by
      have := g
      simp only [Bool.not_eq_false', decide_eq_true_eq] at this
      simp only [gtK, hok, Bool.true_and, decide_eq_true_eq]
      omega
    obtain ⟨-, gk2, gk3, -⟩ := gtK_ok gK
    have lzg : (gtL b).length = z.length := by omega
    refine Cg.skip ?_
    refine Pg.thenN (Cg.out ?_)
    refine Cg.seq ?_
    refine Cg.region (by kernel_rfl) ?_
    refine Lw.val (Ex.move rfl) rfl ?_
    refine Lw.val (Ex.mkFn (vs := [.pointer (some ⟨A_k, 0, none⟩)]) (us := []) rfl rfl) rfl ?_
    refine Lw.boxed1 (u := .int .i64 0) it_3 sz_3 rfl (fun _ => rfl) (rfl) ?_
    rintro A_n w eA_n b_n hn -
    replace hB := hB.bs hn
    replace h_b := h_b.bs hn
    replace b_k := b_k.bs hn
    replace b_r := b_r.bs hn
    replace h_k := h_k.bs hn
    replace s_5 := s_5.bs hn
    replace ho := ho.bs hn
    replace hx := hx.bs hn
    replace b_t := b_t.bs hn
    clear hn
    refine Lw.val (Ex.assign rfl) rfl ?_
    refine Lw.nil (Pg.low ?_)
    refine Pg.thenN (Cg.out ?_)
    refine Cg.seq ?_
    refine Cg.seq ?_
    refine Cg.region (by kernel_rfl) ?_
    refine Lw.val (Ex.move rfl) rfl ?_
    refine Lw.nil (Pg.low ?_)
    refine Pg.thenN (Cg.out ?_)
    refine Cg.block ?_
    have y_n := blk_lt b_n
    have z0 := below_size hB
    refine Cg.range rfl ((show Sq _ _ _ _ _ _ _ (gtL b) _ from numbers_sq A_k u (b.drop (1 + (gtS b).length)) w b_k h_k (fun k e hne => by have := huk k e hne; omega))) (fun b (hb : b ≤ A_k) => by omega) (fun _ => rfl) (by kernel_rfl) (fun (pre : List (BitVec 32)) w' => Blk w' A_t 36 [x, y] ∧ w'.ownsRow B1 21 1 y z.length ((pre ++ z.drop pre.length).map i32) ∧ Blk w' A_n 3 [.int .i64 (pre.length : Int)] ∧ KRow w' B1 3 1 x (gtS b).length ((gtS b).map (Value.int .i64)) ∧ Blk w' A_r 36 [.slice none 0 0, .slice none 0 0] ∧ Below W.heap.size W w') (by rintro _ ⟨⟩; omega) ?_ ?_ ?_ ?_ ?_
    · exact ⟨b_t, by simpa using ho, b_n, hx, b_r, hB⟩
    · rintro pre A A' ⟨h1, h2, h3, h4, h5, h6⟩ hc
      exact ⟨h1.nc hc, own_nc h2 hc, h3.nc hc, h4.nc hc, h5.nc hc, h6.nc hc z0 (Nat.le_refl _)⟩
    · rintro pre A A' ⟨h1, h2, h3, h4, h5, h6⟩ hc
      exact ⟨itr_blk h1 hc (by omega), itr_own h2 hc (by omega), itr_blk h3 hc (by omega), itr_krow h4 hc (by omega), itr_blk h5 hc (by omega), itr_below h6 hc (by omega) (Nat.le_refl _)⟩
    · rintro lp pre a w3 hl ⟨b_t, ho, b_n, hx, b_r, hB⟩ hlen hrec
      have z3 := blk_lt b_n
      have hlz : pre.length < z.length := by have := hlen.length_le; rw [List.length_append, List.length_singleton] at this; omega
      have hlp : (pre ++ z.drop pre.length).length = z.length := by rw [List.length_append, List.length_drop]; omega
      refine Cg.region (by kernel_rfl) ?_
      refine Lw.val (Ex.assign rfl) rfl ?_
      refine Lw.nil (Pg.low ?_)
      refine Pg.asg (KeepsFrom.refl _ _) (Kp.refl) ?_
      rintro w hn hz hrec
      have b_t := b_t.nc hn
      have ho := own_nc ho hn
      have b_n := b_n.nc hn
      have hx := hx.nc hn
      have b_r := b_r.nc hn
      have hB := hB.nc hn (by omega) (Nat.le_refl _)
      have s_y := own_slT ho
      have zB := below_size hB
      refine Cg.block ?_
      refine Cg.seq ?_
      refine Cg.region (by kernel_rfl) ?_
      refine Lw.val (Ex.fieldAddr (q := 0) Try.underlying36 rfl (sz_34 _) rfl) rfl ?_
      refine Lw.val (Ex.ldB (ag_34 _) rfl (by assumption) rfl) rfl ?_
      refine Lw.val (Ex.ldB (ag_3 _) rfl (by assumption) rfl) rfl ?_
      refine Lw.val (Ex.move rfl) rfl ?_
      refine Lw.val (Ex.idxT st_34 rfl rfl (by assumption) _ rfl (by omega)) rfl ?_
      refine Lw.unit (Xu.stO (sz_21 _) rfl rfl rfl ho (by rw [List.length_map, hlp]; exact hlz)) ?_
      rintro w4 ⟨ho4, hg, hz4⟩
      rw [← List.map_set, set_mid _ _ _ hlz] at ho4
      have b_t := b_t.by hg (by intro e; have := hyb _ e.symm; omega)
      have b_n := b_n.by hg (by intro e; have := hyb _ e.symm; omega)
      have b_r := b_r.by hg (by intro e; have := hyb _ e.symm; omega)
      have hx := hx.by' hg (by
        cases hc : x.ownBlock with
        | none => exact .inl rfl
        | some k => exact .inr fun e => hap k e.symm hc)
      have hB := hB.grown hg zB (fun k e => by have := hyb k e; omega)
      have el : (pre ++ [a]).length = pre.length + 1 := by simp
      refine Lw.nil (Pg.low ?_)
      refine Pg.thenN (Cg.out ?_)
      refine Cg.region (by kernel_rfl) ?_
      refine Lw.val (Ex.ldB (ag_3 _) rfl (by assumption) rfl) rfl ?_
      refine Lw.val (Ex.addI rfl rfl (by omega)) rfl ?_
      refine Lw.unit (Xu.stB (u := .int .i64 ((pre.length + 1 : Nat) : Int)) (sz_3 _) rfl rfl rfl b_n Nat.zero_lt_one) ?_
      rintro w5 ⟨b_n5, hg5, hz5⟩
      have b_t := b_t.by hg5 (by intro e; cases e; omega)
      have b_r := b_r.by hg5 (by intro e; cases e; omega)
      have hx := hx.by' hg5 (by
        cases hc : x.ownBlock with
        | none => exact .inl rfl
        | some k => exact .inr fun e => by have := hxb k hc; cases e; omega)
      have ho5 := own_heap ho4 (fun k e => hg5.block k (own_block ho4 k e).2 (by intro e2; have := hyb k e; cases e2; omega))
      have hB := hB.grown hg5 (by omega) (by rintro _ ⟨⟩; omega)
      refine Lw.nil (Pg.low ?_)
      refine Pg.blkN ?_
      exact Pg.rnd (((KeepsFrom.refl _ _).own ho hg).blk b_n hg5) ((Kp.refl.grown hg (fun k e (h : k ≤ A_k) => by have := hyb k e; omega)).grown hg5 (fun k e (h : k ≤ A_k) => by cases e; omega)) (⟨b_t, ho5, by rw [el]; exact b_n5, hx, b_r, hB⟩)
    rintro d w3 hd ⟨b_t, ho, b_n, hx, b_r, hB⟩ hD
    rw [List.drop_of_length_le (by omega), List.append_nil, ← lzg] at ho
    have zB := below_size hB
    refine Pg.blkN ?_
    refine Pg.thenN (Cg.out ?_)
    refine Cg.seq ?_
    refine Cg.region (by kernel_rfl) ?_
    refine Lw.val (Ex.ldA (ag_36 _) (sz_36 _) rfl rfl (by assumption)) rfl ?_
    refine Lw.unit (Xu.stA (cs := [x, y]) rfl rfl rfl rfl (by simp [hx.slT.one', (own_slT ho).one']) b_r rfl) ?_
    rintro w4 ⟨b_r4, hg, hz4⟩
    have hD := (hg.block d (Array.getElem?_eq_some_iff.1 hD).1 (by intro e; cases e; omega)).trans hD
    have hB := hB.grown hg zB (by rintro _ ⟨⟩; omega)
    have ho := own_heap ho (fun k e => hg.block k (own_block ho k e).2 (by intro e2; have := hyb k e; cases e2; omega))
    have hx := hx.by' hg (by
      cases hc : x.ownBlock with
      | none => exact .inl rfl
      | some k => exact .inr fun e => by have := hxb k hc; cases e; omega)
    have zB := below_size hB
    refine Lw.val (Ex.assign rfl) rfl ?_
    refine Lw.nil (Pg.low ?_)
    refine Pg.thenN (Cg.out ?_)
    refine Cg.ret ?_
    refine Pg.close (hD) (fun w hn _ => ?_)
    have b_r := b_r4.nc hn
    have ho := own_nc ho hn
    have hx := hx.nc hn
    have hB := hB.nc hn (by omega) (Nat.le_refl _)
    refine Pw.retCT rfl rfl rfl (by assumption) (Try.underlying36) rfl rfl rfl ?_
    exact ⟨hB, x, y, by simp [gtE, gK], fun h => by (rw [gK] at h; cases h), fun _ => ⟨hx.mono (by omega), own_mono ho (by omega), hap⟩⟩
  replace hB := hB.bs hn
  replace h_b := h_b.bs hn
  replace b_k := b_k.bs hn
  replace b_r := b_r.bs hn
  replace h_k := h_k.bs hn
  replace s_5 := s_5.bs hn
  clear hn
  refine Lw.val (Ex.move rfl) rfl ?_
  refine Lw.val (Ex.extract (i := 0) rfl rfl) rfl ?_
  refine Lw.val (Ex.extract (i := 1) rfl rfl) rfl ?_
  refine Lw.boxed (cs := [.slice none 0 0, .slice none 0 0]) it_36 rfl rfl rfl rfl (fun _ => rfl) (rfl) ?_
  rintro A_t w eA_t b_t hn -
  replace hB := hB.bs hn
  replace h_b := h_b.bs hn
  replace b_k := b_k.bs hn
  replace b_r := b_r.bs hn
  replace h_k := h_k.bs hn
  replace s_5 := s_5.bs hn
  clear hn
  refine Lw.val (Ex.assign rfl) rfl ?_
  refine Lw.nil (Pg.low ?_)
  refine Pg.thenN (Cg.out ?_)
  refine Cg.seq ?_
  refine Cg.seq ?_
  refine Cg.region (by kernel_rfl) ?_
  refine Lw.val (Ex.move rfl) rfl ?_
  refine Lw.val (Ex.neq rfl rfl) rfl ?_
  refine Lw.val (Ex.move rfl) rfl ?_
  have gK : gtK b = false := by simp [gtK, hno]
  have y_t := blk_lt b_t
  refine Lw.know 48 (v' := .bool true) rfl (congrArg Value.bool (rfl)) ?_
  refine Lw.pass (dj := 48) rfl rfl rfl rfl ?_
  refine Lw.pass (dj := 48) rfl rfl rfl rfl ?_
  refine Lw.pass (dj := 48) rfl rfl rfl rfl ?_
  refine Lw.pass (dj := 48) rfl rfl rfl rfl ?_
  refine Lw.pass (dj := 48) rfl rfl rfl rfl ?_
  refine Lw.pass (dj := 48) rfl rfl rfl rfl ?_
  refine Lw.pass (dj := 48) rfl rfl rfl rfl ?_
  refine Lw.pass (dj := 48) rfl rfl rfl rfl ?_
  refine Lw.pass (dj := 48) rfl rfl rfl rfl ?_
  refine Lw.pass (dj := 48) rfl rfl rfl rfl ?_
  refine Lw.pass (dj := 48) rfl rfl rfl rfl ?_
  refine Lw.val (Ex.pickT rfl rfl) rfl ?_
  refine Lw.nil (Pg.low ?_)
  refine Pg.thenN (Cg.out ?_)
  refine Cg.condT rfl ?_
  refine Cg.seq ?_
  refine Cg.region (by kernel_rfl) ?_
  refine Lw.val (Ex.build (vs := []) (cs := [.slice none 0 0, .slice none 0 0]) rfl (by kernel_rfl)) rfl ?_
  refine Lw.unit (Xu.stA (cs := [.slice none 0 0, .slice none 0 0]) rfl rfl rfl rfl rfl b_r rfl) ?_
  rintro w3 ⟨b_r, hg, -⟩
  have hB := hB.grown hg (below_size hB) (by rintro _ ⟨⟩; omega)
  refine Lw.val (Ex.assign rfl) rfl ?_
  refine Lw.nil (Pg.low ?_)
  refine Pg.thenN (Cg.out ?_)
  refine Cg.ret ?_
  refine Pg.thenR ?_
  refine Pg.close0 ?_
  refine Pw.retCT rfl rfl rfl (by assumption) (Try.underlying36) rfl rfl rfl ?_
  exact ⟨hB, .slice none 0 0, .slice none 0 0, by simp [gtE, gK], fun _ => ⟨rfl, rfl⟩, fun h => by rw [gK] at h; cases h⟩
end Go.Proofs.Ytiaojbbgjlpikaa
