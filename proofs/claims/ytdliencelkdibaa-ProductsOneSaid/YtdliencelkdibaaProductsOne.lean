/- Ones where both directions are the same, noughts else, change nothing on either side; noughts make noughts; a single row by a single column is one number: for any numbers, any two directions; no condition. -/
import Derived.Test.YtdliencelkdibaaProductsLaw
namespace Go.Proofs.Ytdliencelkdibaa
open Go Go.Dd Go.RowKit Go.ChangeShapes Go.WideShapes Go.ChangeAt


theorem eye_len (n : Nat) : (eye n).length = n * n := by simp [eye]
/-- Ones so far. -/
def eyeTo (n i : Nat) : List (BitVec 32) := (List.range (n * n)).map fun j => if j / n = j % n ∧ j / n < i then 1#32 else 0#32
theorem eyeTo_len (n i : Nat) : (eyeTo n i).length = n * n := by simp [eyeTo]
theorem eyeTo_zero (n : Nat) : eyeTo n 0 = List.replicate (n * n) 0#32 := by
  apply List.ext_getElem (by simp [eyeTo])
  intro i h1 h2
  simp [eyeTo]
theorem eyeTo_all (n : Nat) : eyeTo n n = eye n := by
  unfold eyeTo eye
  refine List.map_congr_left fun j hj => ?_
  have := at_rc (List.mem_range.1 hj)
  by_cases h : j / n = j % n
  · rw [if_pos ⟨h, this.1⟩, if_pos h]
  · rw [if_neg fun e => h e.1, if_neg h]
theorem eyeTo_set {n i : Nat} (hi : i < n) : (eyeTo n i).set (i * n + i) 1#32 = eyeTo n (i + 1) := by
  apply List.ext_getElem (by simp [eyeTo])
  intro j h1 h2
  rw [eyeTo_len] at h2
  obtain ⟨r1, r2, r3⟩ := at_rc h2
  have hn : 0 < n := by omega
  have e1 : (i * n + i) / n = i := by rw [Nat.mul_comm, Nat.mul_add_div hn, Nat.div_eq_of_lt hi]; omega
  have e2 : (i * n + i) % n = i := by rw [Nat.mul_comm, Nat.mul_add_mod, Nat.mod_eq_of_lt hi]
  rw [List.getElem_set]
  simp only [eyeTo, List.getElem_map, List.getElem_range]
  split
  · rename_i e
    rw [← e, e1, e2, if_pos ⟨rfl, by omega⟩]
  · rename_i e
    by_cases h : j / n = j % n ∧ j / n < i
    · rw [if_pos h, if_pos ⟨h.1, by omega⟩]
    · rw [if_neg h, if_neg]
      rintro ⟨h3, h4⟩
      have : j / n = i := by
        rcases Nat.lt_or_ge (j / n) i with h5 | h5
        · exact absurd ⟨h3, h5⟩ h
        · omega
      exact e (by rw [← r3, ← h3, this])

theorem new2_yes {W w : World} {r : Value} {m n : Nat} (h1 : 1 ≤ m ∧ m ≤ 64) (h2 : 1 ≤ n ∧ n ≤ 64) (h : (Shapes.ok [(m : Int), (n : Int)] = true ∧ ∃ x y, r = .tuple #[.agg #[x, y], .int .i64 0] ∧ Made1 W w x y [(m : Int), (n : Int)] (List.replicate (Shapes.size [(m : Int), (n : Int)]).toNat 0#32)) ∨ (Shapes.ok [(m : Int), (n : Int)] = false ∧ r = .tuple #[.agg #[.slice none 0 0, .slice none 0 0], .int .i64 1])) :
    ∃ x y, r = .tuple #[.agg #[x, y], .int .i64 0] ∧ Made1 W w x y [(m : Int), (n : Int)] (List.replicate (m * n) 0#32) := by
  obtain ⟨hok, hsz⟩ := small_ok h1 h2
  rw [hsz] at h
  rcases h with ⟨_, h⟩ | ⟨h, _⟩
  · exact h
  · rw [hok] at h; cases h
theorem new2_ten {W w : World} {x y : Value} {m n : Nat} (h1 : 1 ≤ m ∧ m ≤ 64) (h2 : 1 ≤ n ∧ n ≤ 64) (h : Made1 W w x y [(m : Int), (n : Int)] (List.replicate (m * n) 0#32)) :
    ∃ a : T4, a.x = x ∧ a.y = y ∧ a.at w ∧ Two a m n ∧ a.l = List.replicate (m * n) 0#32 :=
  ⟨⟨x, y, _, _⟩, rfl, rfl, ⟨h.sh, own_sl h.own⟩, ⟨rfl, by simp, h1, h2⟩, rfl⟩

theorem one_c (n : Nat) (W : World) (h1 : 1 ≤ n ∧ n ≤ 64) :
    Fnc Try.prog 10 [.int .i64 (n : Int)] W (fun r w' => ∃ a : T4, r = a.v ∧ a.at w' ∧ Two a n n ∧ a.l = eye n ∧ Below W.heap.size W w') := by
  have hB := Below.refl W.heap.size W
  have hnn : n * n ≤ 64 * 64 := Nat.mul_le_mul h1.2 h1.2
  refine Fnc.enter (n := 27) Try.func10 (by kernel_rfl) rfl rfl rfl ?_
  refine Cw.seq ?_
  refine Cw.region ?_
  have z0 := below_size hB
  refine Lw.newA it_28 rfl ?_
  rintro A_r w eA_r b_r hn -
  replace hB := hB.bs hn
  clear hn
  refine Lw.nil ?_
  refine Pw.thenN (Cw.out ?_)
  refine Cw.seq ?_
  refine Cw.region ?_
  refine Lw.val (Ex.move rfl) rfl ?_
  refine Lw.val (Ex.move rfl) rfl ?_
  have z1 : W.heap.size ≤ A_r := by omega
  refine Lw.valW (Xw.lit (vs := [(n : Int), (n : Int)].map (Value.int .i64)) st_26 it_3 rfl rfl rfl rfl rfl) rfl ?_
  rintro sv w ⟨ho, -, hn, -⟩
  have sl_s := own_slT ho
  clear ho
  replace hB := hB.bs hn
  replace b_r := b_r.bs hn
  clear hn
  have zw := blk_lt b_r
  refine Lw.callF rfl rfl (new_c sv [(n : Int), (n : Int)] w sl_s) ?_
  rintro r w3 ⟨hn3, hcase⟩
  obtain ⟨zx, zy, rfl, hz⟩ := new2_yes h1 h1 hcase
  refine Lw.val (Ex.move rfl) rfl ?_
  refine Lw.val (Ex.extract (i := 0) rfl rfl) rfl ?_
  refine Lw.val (Ex.extract (i := 1) rfl rfl) rfl ?_
  refine Lw.boxed (cs := [zx, zy]) it_28 rfl rfl rfl rfl (fun _ => rfl) (hz.one) ?_
  rintro A_t w4 eA_t b_t hn4 zhn4
  have M := mine_new hz eA_t b_t hn4 zhn4 hn3.size
  have hw4 := bt hn3 hn4
  clear hz b_t hcase eA_t hn3 hn4 zhn4
  refine Lw.val (Ex.assign rfl) rfl ?_
  refine Lw.nil ?_
  refine Pw.thenN (Cw.out ?_)
  refine Cw.seq ?_
  refine Cw.seq ?_
  refine Cw.region ?_
  refine Lw.val (Ex.assign rfl) rfl ?_
  refine Lw.nil ?_
  refine Pw.thenN (Cw.out ?_)
  refine Cw.block ?_
  refine Cw.loop (S := Nat) (fun i => [(0, .int .i64 (n : Int)), (2, .pointer (some ⟨A_r, 0, none⟩)), (3, .pointer (some ⟨A_t, 0, none⟩)), (5, .int .i64 (i : Int))]) (fun i w' => i ≤ n ∧ Below w.heap.size w w' ∧ MineT w' w.heap.size w4.heap.size A_t zx zy [(n : Int), (n : Int)] (eyeTo n i)) (fun i => n - i) (0) ⟨rfl, rfl, rfl, rfl, trivial⟩ ?_ ?_
  · exact ⟨by omega, hw4, by rw [eyeTo_zero]; exact M⟩
  clear M hw4
  rintro i w5 ⟨hi, hw, M⟩
  have b_t := M.box
  have y_t := M.sly
  refine Cw.seq ?_
  refine Cw.seq ?_
  refine Cw.region ?_
  refine Lw.val (Ex.move rfl) rfl ?_
  refine Lw.val (Ex.move rfl) rfl ?_
  refine Lw.val (Ex.lss rfl rfl) rfl ?_
  refine Lw.nil ?_
  refine Pw.thenN (Cw.out ?_)
  refine Cw.cond rfl ?_ ?_
  · intro h
    have hi' : i < n := by simp at h; omega
    have hr := rc_lt hi' hi'
    have hl : i * n + i < (eyeTo n i).length := by rw [eyeTo_len]; exact hr
    refine Cw.skip ?_
    refine Pw.thenN (Cw.out ?_)
    refine Cw.seq ?_
    refine Cw.block ?_
    refine Cw.region ?_
    refine Lw.val (Ex.fieldAddr (q := 0) Try.underlying28 rfl (sz_22 _) rfl) rfl ?_
    refine Lw.val (Ex.ldB (ag_22 _) rfl (by assumption) rfl) rfl ?_
    refine Lw.val (Ex.move rfl) rfl ?_
    refine Lw.val (Ex.move rfl) rfl ?_
    refine Lw.val (Ex.mulN rfl rfl (by omega)) rfl ?_
    refine Lw.val (Ex.move rfl) rfl ?_
    refine Lw.val (Ex.addN rfl rfl (by omega)) rfl ?_
    refine Lw.val (Ex.idxT st_22 rfl rfl y_t _ rfl hl) rfl ?_
    refine Lw.unit (M.st (a := 1#32) (sz_21 _) rfl rfl hl) ?_
    rintro w7 ⟨M7, hg7, -⟩
    rw [eyeTo_set hi'] at M7
    refine Lw.nil ?_
    refine Pw.blkN ?_
    refine Pw.thenN (Cw.out ?_)
    refine Cw.region ?_
    refine Lw.val (Ex.move rfl) rfl ?_
    refine Lw.val (Ex.addI rfl rfl (by omega)) rfl ?_
    refine Lw.val (Ex.assign rfl) rfl ?_
    refine Lw.nil ?_
    exact Pw.thenN (Pw.next (i + 1) ⟨rfl, rfl, rfl, rfl, trivial⟩ (⟨hi', M.below hw (Nat.le_refl _) hg7, M7⟩) (by omega))
  intro h
  have hi' : i = n := by simp at h; omega
  subst hi'
  rw [eyeTo_all] at M
  have b_r5 := b_r.bs hw
  refine Cw.exit ?_
  refine Pw.thenE ?_
  refine Pw.thenE ?_
  refine Pw.blkHit ?_
  refine Pw.thenN (Cw.out ?_)
  refine Cw.seq ?_
  refine Cw.region ?_
  refine Lw.val (Ex.ldA (ag_28 _) (sz_28 _) rfl rfl (by assumption)) rfl ?_
  refine Lw.unit (Xu.stA (cs := [zx, zy]) rfl rfl rfl rfl (by simp [M.sh.one', M.sly.one']) b_r5 rfl) ?_
  rintro w9 ⟨b_r9, hg9, -⟩
  have M9 := M.keep hg9 (by rintro _ ⟨⟩; omega)
  have hB9 := (bt hB hw).grown hg9 (below_size (bt hB hw)) (by rintro _ ⟨⟩; omega)
  refine Lw.nil ?_
  refine Pw.thenN (Cw.out ?_)
  refine Cw.ret ?_
  refine Pw.retC rfl rfl (by assumption) (Try.underlying28) rfl rfl rfl ?_
  exact ⟨T4.mk zx zy [(i : Int), (i : Int)] (eye i), rfl, mine_at M9, ⟨rfl, eye_len i, h1, h1⟩, rfl, hB9⟩

theorem at_by {x : T4} {w w' : World} {A : Nat} (h : x.at w) (hg : w.grownBy w' (some A)) (h1 : x.x.ownBlock ≠ some A) (h2 : x.y.ownBlock ≠ some A) : x.at w' := ⟨h.1.by hg (.inr h1), h.2.by hg (.inr h2)⟩
/-- What a product tells, with where it lies. -/
theorem prod_yes2 {W w : World} {r : Value} {a b : T4} {m k n : Nat} (ha : Two a m k) (hb : Two b k n) (h : Gets W w r (prdE a b) [a.s.getD 0 default, b.s.getD 1 default] (prdL a b)) :
    ∃ c : T4, r = .tuple #[c.v, .int .i64 0] ∧ c.at w ∧ Two c m n ∧ c.l = prd m k n a.l b.l ∧ (∀ b, c.x.ownBlock = some b → W.heap.size ≤ b) ∧ (∀ b, c.y.ownBlock = some b → W.heap.size ≤ b) := by
  obtain ⟨c, hr, hc, -, hz⟩ := h
  have e0 := ha.prdE hb
  obtain ⟨h1, h2, h5⟩ := hz e0
  obtain ⟨h3, h4⟩ := ha.prod hb h1 h2
  exact ⟨c, by rw [hr, e0], hc, h3, h4, h5.fresh, fun b e => (own_block h5.own b e).1⟩

theorem productsOne_w (u : Value) (l : List (BitVec 32)) (d0 d1 : BitVec 8) (W : World) (h0 : SlT i32 W u l) :
    Fnc Try.prog 4 [u, .agg [b8 d0, b8 d1].toArray] W (fun r w' => r = .bool true ∧ Below W.heap.size W w') := by
  have hB := Below.refl W.heap.size W
  refine Fnc.enter (n := 156) Try.func4 (by kernel_rfl) rfl rfl rfl ?_
  refine Cw.seq ?_
  refine Cw.region ?_
  refine Lw.boxV (cs := [b8 d0, b8 d1]) rfl rfl rfl ?_
  rintro A_d w eA_d b_d hn -
  replace hB := hB.bs hn
  replace h0 := h0.bs hn
  clear hn
  refine Lw.val (Ex.assign rfl) rfl ?_
  refine Lw.nil ?_
  refine Pw.thenN (Cw.out ?_)
  refine Cw.seq ?_
  refine Cw.seq ?_
  refine Cw.region ?_
  refine Lw.callF rfl rfl (alive_c _) ?_
  rintro _ w ⟨rfl, hn⟩
  replace hB := hB.bs hn
  replace h0 := h0.bs hn
  replace b_d := b_d.bs hn
  clear hn
  refine Lw.val (Ex.not rfl) rfl ?_
  refine Lw.val (Ex.move rfl) rfl ?_
  refine Lw.know 26 (v' := .bool false) rfl (congrArg Value.bool (rfl)) ?_
  refine Lw.take (dj := 26) rfl rfl ?_
  refine Lw.val (Ex.move rfl) rfl ?_
  refine Lw.take (dj := 26) rfl rfl ?_
  refine Lw.val (Ex.lenS st_22 rfl (by assumption)) rfl ?_
  refine Lw.take (dj := 26) rfl rfl ?_
  refine Lw.val (Ex.gtr rfl rfl) rfl ?_
  refine Lw.val (Ex.pickF rfl rfl) rfl ?_
  refine Lw.nil ?_
  refine Pw.thenN (Cw.out ?_)
  refine Cw.cond rfl ?_ ?_
  · intro _
    refine Cw.seq ?_
    refine Cw.region ?_
    refine Lw.callF rfl rfl (alive_c _) ?_
    rintro _ w ⟨rfl, hn⟩
    replace hB := hB.bs hn
    replace h0 := h0.bs hn
    replace b_d := b_d.bs hn
    clear hn
    refine Lw.val (Ex.assign rfl) rfl ?_
    refine Lw.nil ?_
    refine Pw.thenN (Cw.out ?_)
    refine Cw.ret ?_
    refine Pw.thenR ?_
    refine Pw.ret1 rfl rfl ?_
    exact ⟨rfl, hB⟩
  intro _
  refine Cw.skip ?_
  refine Pw.thenN (Cw.out ?_)
  refine Cw.seq ?_
  refine Cw.region ?_
  refine Lw.val (Ex.idxB un_35 sz_5 rfl rfl 0 rfl (by decide)) rfl ?_
  refine Lw.val (Ex.ldB (ag_5 _) rfl (by assumption) rfl) rfl ?_
  refine Lw.val (Ex.idxB un_35 sz_5 rfl rfl 1 rfl (by decide)) rfl ?_
  refine Lw.val (Ex.ldB (ag_5 _) rfl (by assumption) rfl) rfl ?_
  refine Lw.val (Ex.move rfl) rfl ?_
  refine Lw.callF rfl rfl (made_c d0 d1 u l _ h0) ?_
  rintro _ w ⟨t, rfl, h_t, t_t, hn⟩
  replace hB := hB.bs hn
  replace h0 := h0.bs hn
  replace b_d := b_d.bs hn
  clear hn
  obtain ⟨m, hm⟩ : ∃ m, m = 1 + d0.toNat % 9 := ⟨_, rfl⟩
  obtain ⟨n, hn⟩ : ∃ n, n = 1 + d1.toNat % 9 := ⟨_, rfl⟩
  rw [← hm, ← hn] at t_t
  have m9 : 1 ≤ m ∧ m ≤ 9 := by omega
  have n9 : 1 ≤ n ∧ n ≤ 9 := by omega
  clear hm hn
  have sh_t := h_t.1
  have ls : t.s.length = 2 := by rw [t_t.s]; rfl
  have v0 : t.s.getD 0 default = (m : Int) := by rw [t_t.s]; rfl
  have v1 : t.s.getD 1 default = (n : Int) := by rw [t_t.s]; rfl
  refine Lw.boxed (cs := [t.x, t.y]) it_28 rfl rfl rfl rfl (fun _ => rfl) (h_t.one) ?_
  rintro A_t w eA_t b_t hn -
  replace hB := hB.bs hn
  replace h0 := h0.bs hn
  replace b_d := b_d.bs hn
  replace h_t := h_t.bs hn
  replace sh_t := sh_t.bs hn
  clear hn
  refine Lw.nil ?_
  refine Pw.thenN (Cw.out ?_)
  refine Cw.seq ?_
  refine Cw.region ?_
  refine Lw.val (Ex.fieldAddr (q := 0) Try.underlying28 rfl (sz_26 _) rfl) rfl ?_
  refine Lw.val (Ex.ldB (ag_26 _) rfl (by assumption) rfl) rfl ?_
  refine Lw.val (Ex.idxT st_26 rfl rfl (by assumption) 0 rfl (by omega)) rfl ?_
  refine Lw.val ((Ex.ldT (ag_3 _) rfl sh_t (by omega)).as (congrArg (Value.int .i64) v0)) rfl ?_
  refine Lw.val (Ex.assign rfl) rfl ?_
  refine Lw.nil ?_
  refine Pw.thenN (Cw.out ?_)
  refine Cw.seq ?_
  refine Cw.region ?_
  refine Lw.val (Ex.fieldAddr (q := 0) Try.underlying28 rfl (sz_26 _) rfl) rfl ?_
  refine Lw.val (Ex.ldB (ag_26 _) rfl (by assumption) rfl) rfl ?_
  refine Lw.val (Ex.idxT st_26 rfl rfl (by assumption) 1 rfl (by omega)) rfl ?_
  refine Lw.val ((Ex.ldT (ag_3 _) rfl sh_t (by omega)).as (congrArg (Value.int .i64) v1)) rfl ?_
  refine Lw.val (Ex.assign rfl) rfl ?_
  refine Lw.nil ?_
  refine Pw.thenN (Cw.out ?_)
  refine Cw.seq ?_
  refine Cw.midS (St := (T4 × Nat)) (fun s => [(0, u), (4, .bool false), (5, .pointer (some ⟨A_t, 0, none⟩)), (6, .int .i64 (m : Int)), (7, .int .i64 (n : Int)), (8, .pointer (some ⟨s.2, 0, none⟩)), (9, .int .i64 0)]) (fun s w' => Below w.heap.size w w' ∧ s.1.at w' ∧ Blk w' s.2 28 [s.1.x, s.1.y] ∧ Two s.1 m n ∧ s.1.l = t.l) ?_ ?_
  · have hC := Below.refl w.heap.size w
    refine Cw.any mixed (fun w1 hd _ => ?_)
    have hC := hd
    clear hd
    refine Aw.cls (fun w' => Below w.heap.size w w') (fun hC => ?_) (hC)
    refine AwC.take (i := 0) NoP.midS rfl (by kernel_rfl) (by kernel_rfl) (by kernel_rfl) (fun w1 hc => Ex.move rfl) rfl ?_
    refine AwC.take (i := 2) NoP.midS rfl (by kernel_rfl) (by kernel_rfl) (by kernel_rfl) (fun w1 hc => Ex.ldA (ag_28 _) (sz_28 _) rfl rfl (Blk.bs b_t hc)) rfl ?_
    refine AwC.two (by assumption) (i := 1) (j := 7) (by kernel_rfl) rfl rfl ?_ ?_
    · refine Lw.callF rfl rfl (one_c m w1 (by omega)) ?_
      rintro _ w2 ⟨o, rfl, h_o, t_o, l_o, hn⟩
      have hC := bt hC hn
      clear hn
      refine AwC.back ?_
      refine AwC.two (by assumption) (i := 3) (j := 7) (by kernel_rfl) rfl rfl ?_ ?_
      · refine Lw.callF rfl rfl (prod_c o t w2 h_o (h_t.bs hC)) ?_
        rintro r w3 ⟨hn, hg⟩
        obtain ⟨x, rfl, h_x, t_x, l_x, f1, f2⟩ := prod_yes2 t_o t_t hg
        have hC := bt hC hn
        clear hn hg
        refine AwC.back ?_
        refine AwC.take (i := 4) NoP.midS rfl (by kernel_rfl) (by kernel_rfl) (by kernel_rfl) (fun w1 hc => Ex.move rfl) rfl ?_
        refine AwC.take (i := 5) NoP.midS rfl (by kernel_rfl) (by kernel_rfl) (by kernel_rfl) (fun w1 hc => Ex.extract (i := 0) rfl rfl) rfl ?_
        refine AwC.take (i := 6) NoP.midS rfl (by kernel_rfl) (by kernel_rfl) (by kernel_rfl) (fun w1 hc => Ex.extract (i := 1) rfl rfl) rfl ?_
        refine AwC.only (by assumption) (i := 7) (by kernel_rfl) rfl ?_
        refine Lw.newA it_28 rfl ?_
        rintro A_x w4 eA_x b_x hn4 zhn4
        have hC4 := bt hC hn4
        refine AwC.back ?_
        refine AwC.only (by assumption) (i := 8) (by kernel_rfl) rfl ?_
        refine Lw.unit (Xu.stA (cs := [x.x, x.y]) rfl rfl rfl rfl h_x.one b_x rfl) ?_
        rintro w5 ⟨b_x, hg, -⟩
        have hn5 : Below w3.heap.size w3 w5 := hn4.grown hg (below_size hn4) (by rintro _ ⟨⟩; omega)
        have hC := bt hC hn5
        refine AwC.back ?_
        refine AwC.take (i := 9) NoP.midS rfl (by kernel_rfl) (by kernel_rfl) (by kernel_rfl) (fun w1 hc => Ex.assign rfl) rfl ?_
        refine AwC.done (by assumption) (by kernel_rfl) ?_
        exact Pw.midS ((x, A_x)) ⟨rfl, rfl, rfl, rfl, rfl, rfl, rfl, trivial⟩ (⟨hC, h_x.bs hn5, b_x, t_x, by rw [l_x, l_o]; exact prd_eyel t_t.l⟩)
      · refine Lw.newA it_28 rfl ?_
        rintro A_x w3 eA_x b_x hn3 zhn3
        have z2 := hC.size
        have hC := bt hC hn3
        have z4 := hC.size
        have h_o := h_o.bs hn3
        refine AwC.back ?_
        refine AwC.only (by assumption) (i := 3) (by kernel_rfl) rfl ?_
        refine Lw.callF rfl rfl (prod_c o t w3 h_o (h_t.bs hC)) ?_
        rintro r w4 ⟨hn, hg⟩
        obtain ⟨x, rfl, h_x, t_x, l_x, f1, f2⟩ := prod_yes2 t_o t_t hg
        have hC := bt hC hn
        have b_x := b_x.bs hn
        clear hg
        refine AwC.back ?_
        refine AwC.take (i := 4) NoP.midS rfl (by kernel_rfl) (by kernel_rfl) (by kernel_rfl) (fun w1 hc => Ex.move rfl) rfl ?_
        refine AwC.take (i := 5) NoP.midS rfl (by kernel_rfl) (by kernel_rfl) (by kernel_rfl) (fun w1 hc => Ex.extract (i := 0) rfl rfl) rfl ?_
        refine AwC.take (i := 6) NoP.midS rfl (by kernel_rfl) (by kernel_rfl) (by kernel_rfl) (fun w1 hc => Ex.extract (i := 1) rfl rfl) rfl ?_
        refine AwC.only (by assumption) (i := 8) (by kernel_rfl) rfl ?_
        refine Lw.unit (Xu.stA (cs := [x.x, x.y]) rfl rfl rfl rfl h_x.one b_x rfl) ?_
        rintro w5 ⟨b_x, hg, -⟩
        have hC : Below w.heap.size w w5 := hC.grown hg (below_size hC) (by rintro _ ⟨⟩; omega)
        refine AwC.back ?_
        refine AwC.take (i := 9) NoP.midS rfl (by kernel_rfl) (by kernel_rfl) (by kernel_rfl) (fun w1 hc => Ex.assign rfl) rfl ?_
        refine AwC.done (by assumption) (by kernel_rfl) ?_
        exact Pw.midS ((x, A_x)) ⟨rfl, rfl, rfl, rfl, rfl, rfl, rfl, trivial⟩ (⟨hC, at_by h_x hg (fun e => by have := f1 _ e; omega) (fun e => by have := f2 _ e; omega), b_x, t_x, by rw [l_x, l_o]; exact prd_eyel t_t.l⟩)
    · refine Lw.newA it_28 rfl ?_
      rintro A_x w2 eA_x b_x hn2 zhn2
      have z1 := hC.size
      have hC := bt hC hn2
      refine AwC.back ?_
      refine AwC.only (by assumption) (i := 1) (by kernel_rfl) rfl ?_
      refine Lw.callF rfl rfl (one_c m w2 (by omega)) ?_
      rintro _ w3 ⟨o, rfl, h_o, t_o, l_o, hn⟩
      have hC := bt hC hn
      have z3 := hn.size
      have b_x := b_x.bs hn
      clear hn
      refine AwC.back ?_
      refine AwC.only (by assumption) (i := 3) (by kernel_rfl) rfl ?_
      refine Lw.callF rfl rfl (prod_c o t w3 h_o (h_t.bs hC)) ?_
      rintro r w4 ⟨hn, hg⟩
      obtain ⟨x, rfl, h_x, t_x, l_x, f1, f2⟩ := prod_yes2 t_o t_t hg
      have hC := bt hC hn
      have b_x := b_x.bs hn
      clear hg
      refine AwC.back ?_
      refine AwC.take (i := 4) NoP.midS rfl (by kernel_rfl) (by kernel_rfl) (by kernel_rfl) (fun w1 hc => Ex.move rfl) rfl ?_
      refine AwC.take (i := 5) NoP.midS rfl (by kernel_rfl) (by kernel_rfl) (by kernel_rfl) (fun w1 hc => Ex.extract (i := 0) rfl rfl) rfl ?_
      refine AwC.take (i := 6) NoP.midS rfl (by kernel_rfl) (by kernel_rfl) (by kernel_rfl) (fun w1 hc => Ex.extract (i := 1) rfl rfl) rfl ?_
      refine AwC.only (by assumption) (i := 8) (by kernel_rfl) rfl ?_
      refine Lw.unit (Xu.stA (cs := [x.x, x.y]) rfl rfl rfl rfl h_x.one b_x rfl) ?_
      rintro w5 ⟨b_x, hg, -⟩
      have hC : Below w.heap.size w w5 := hC.grown hg (below_size hC) (by rintro _ ⟨⟩; omega)
      refine AwC.back ?_
      refine AwC.take (i := 9) NoP.midS rfl (by kernel_rfl) (by kernel_rfl) (by kernel_rfl) (fun w1 hc => Ex.assign rfl) rfl ?_
      refine AwC.done (by assumption) (by kernel_rfl) ?_
      exact Pw.midS ((x, A_x)) ⟨rfl, rfl, rfl, rfl, rfl, rfl, rfl, trivial⟩ (⟨hC, at_by h_x hg (fun e => by have := f1 _ e; omega) (fun e => by have := f2 _ e; omega), b_x, t_x, by rw [l_x, l_o]; exact prd_eyel t_t.l⟩)
  rintro ⟨x, A_x⟩ w ⟨hn, h_x, b_x, t_x, l_x⟩
  dsimp only at h_x b_x t_x l_x ⊢
  replace hB := hB.bs hn
  replace h0 := h0.bs hn
  replace b_d := b_d.bs hn
  replace h_t := h_t.bs hn
  replace sh_t := sh_t.bs hn
  replace b_t := b_t.bs hn
  clear hn
  refine Cw.out ?_
  refine Cw.seq ?_
  refine Cw.midS (St := (T4 × Nat)) (fun s => [(0, u), (4, .bool false), (5, .pointer (some ⟨A_t, 0, none⟩)), (6, .int .i64 (m : Int)), (7, .int .i64 (n : Int)), (8, .pointer (some ⟨A_x, 0, none⟩)), (9, .int .i64 0), (10, .pointer (some ⟨s.2, 0, none⟩)), (11, .int .i64 0)]) (fun s w' => Below w.heap.size w w' ∧ s.1.at w' ∧ Blk w' s.2 28 [s.1.x, s.1.y] ∧ Two s.1 m n ∧ s.1.l = t.l) ?_ ?_
  · have hC := Below.refl w.heap.size w
    refine Cw.any mixed (fun w1 hd _ => ?_)
    have hC := hd
    clear hd
    refine Aw.cls (fun w' => Below w.heap.size w w') (fun hC => ?_) (hC)
    refine AwC.take (i := 0) NoP.midS rfl (by kernel_rfl) (by kernel_rfl) (by kernel_rfl) (fun w1 hc => Ex.ldA (ag_28 _) (sz_28 _) rfl rfl (Blk.bs b_t hc)) rfl ?_
    refine AwC.take (i := 1) NoP.midS rfl (by kernel_rfl) (by kernel_rfl) (by kernel_rfl) (fun w1 hc => Ex.move rfl) rfl ?_
    refine AwC.two (by assumption) (i := 2) (j := 7) (by kernel_rfl) rfl rfl ?_ ?_
    · refine Lw.callF rfl rfl (one_c n w1 (by omega)) ?_
      rintro _ w2 ⟨o, rfl, h_o, t_o, l_o, hn⟩
      have hC := bt hC hn
      clear hn
      refine AwC.back ?_
      refine AwC.two (by assumption) (i := 3) (j := 7) (by kernel_rfl) rfl rfl ?_ ?_
      · refine Lw.callF rfl rfl (prod_c t o w2 (h_t.bs hC) h_o) ?_
        rintro r w3 ⟨hn, hg⟩
        obtain ⟨x, rfl, h_x, t_x, l_x, f1, f2⟩ := prod_yes2 t_t t_o hg
        have hC := bt hC hn
        clear hn hg
        refine AwC.back ?_
        refine AwC.take (i := 4) NoP.midS rfl (by kernel_rfl) (by kernel_rfl) (by kernel_rfl) (fun w1 hc => Ex.move rfl) rfl ?_
        refine AwC.take (i := 5) NoP.midS rfl (by kernel_rfl) (by kernel_rfl) (by kernel_rfl) (fun w1 hc => Ex.extract (i := 0) rfl rfl) rfl ?_
        refine AwC.take (i := 6) NoP.midS rfl (by kernel_rfl) (by kernel_rfl) (by kernel_rfl) (fun w1 hc => Ex.extract (i := 1) rfl rfl) rfl ?_
        refine AwC.only (by assumption) (i := 7) (by kernel_rfl) rfl ?_
        refine Lw.newA it_28 rfl ?_
        rintro A_x w4 eA_x b_x hn4 zhn4
        have hC4 := bt hC hn4
        refine AwC.back ?_
        refine AwC.only (by assumption) (i := 8) (by kernel_rfl) rfl ?_
        refine Lw.unit (Xu.stA (cs := [x.x, x.y]) rfl rfl rfl rfl h_x.one b_x rfl) ?_
        rintro w5 ⟨b_x, hg, -⟩
        have hn5 : Below w3.heap.size w3 w5 := hn4.grown hg (below_size hn4) (by rintro _ ⟨⟩; omega)
        have hC := bt hC hn5
        refine AwC.back ?_
        refine AwC.take (i := 9) NoP.midS rfl (by kernel_rfl) (by kernel_rfl) (by kernel_rfl) (fun w1 hc => Ex.assign rfl) rfl ?_
        refine AwC.done (by assumption) (by kernel_rfl) ?_
        exact Pw.midS ((x, A_x)) ⟨rfl, rfl, rfl, rfl, rfl, rfl, rfl, rfl, rfl, trivial⟩ (⟨hC, h_x.bs hn5, b_x, t_x, by rw [l_x, l_o]; exact prd_eyer t_t.l⟩)
      · refine Lw.newA it_28 rfl ?_
        rintro A_x w3 eA_x b_x hn3 zhn3
        have z2 := hC.size
        have hC := bt hC hn3
        have z4 := hC.size
        have h_o := h_o.bs hn3
        refine AwC.back ?_
        refine AwC.only (by assumption) (i := 3) (by kernel_rfl) rfl ?_
        refine Lw.callF rfl rfl (prod_c t o w3 (h_t.bs hC) h_o) ?_
        rintro r w4 ⟨hn, hg⟩
        obtain ⟨x, rfl, h_x, t_x, l_x, f1, f2⟩ := prod_yes2 t_t t_o hg
        have hC := bt hC hn
        have b_x := b_x.bs hn
        clear hg
        refine AwC.back ?_
        refine AwC.take (i := 4) NoP.midS rfl (by kernel_rfl) (by kernel_rfl) (by kernel_rfl) (fun w1 hc => Ex.move rfl) rfl ?_
        refine AwC.take (i := 5) NoP.midS rfl (by kernel_rfl) (by kernel_rfl) (by kernel_rfl) (fun w1 hc => Ex.extract (i := 0) rfl rfl) rfl ?_
        refine AwC.take (i := 6) NoP.midS rfl (by kernel_rfl) (by kernel_rfl) (by kernel_rfl) (fun w1 hc => Ex.extract (i := 1) rfl rfl) rfl ?_
        refine AwC.only (by assumption) (i := 8) (by kernel_rfl) rfl ?_
        refine Lw.unit (Xu.stA (cs := [x.x, x.y]) rfl rfl rfl rfl h_x.one b_x rfl) ?_
        rintro w5 ⟨b_x, hg, -⟩
        have hC : Below w.heap.size w w5 := hC.grown hg (below_size hC) (by rintro _ ⟨⟩; omega)
        refine AwC.back ?_
        refine AwC.take (i := 9) NoP.midS rfl (by kernel_rfl) (by kernel_rfl) (by kernel_rfl) (fun w1 hc => Ex.assign rfl) rfl ?_
        refine AwC.done (by assumption) (by kernel_rfl) ?_
        exact Pw.midS ((x, A_x)) ⟨rfl, rfl, rfl, rfl, rfl, rfl, rfl, rfl, rfl, trivial⟩ (⟨hC, at_by h_x hg (fun e => by have := f1 _ e; omega) (fun e => by have := f2 _ e; omega), b_x, t_x, by rw [l_x, l_o]; exact prd_eyer t_t.l⟩)
    · refine Lw.newA it_28 rfl ?_
      rintro A_x w2 eA_x b_x hn2 zhn2
      have z1 := hC.size
      have hC := bt hC hn2
      refine AwC.back ?_
      refine AwC.only (by assumption) (i := 2) (by kernel_rfl) rfl ?_
      refine Lw.callF rfl rfl (one_c n w2 (by omega)) ?_
      rintro _ w3 ⟨o, rfl, h_o, t_o, l_o, hn⟩
      have hC := bt hC hn
      have z3 := hn.size
      have b_x := b_x.bs hn
      clear hn
      refine AwC.back ?_
      refine AwC.only (by assumption) (i := 3) (by kernel_rfl) rfl ?_
      refine Lw.callF rfl rfl (prod_c t o w3 (h_t.bs hC) h_o) ?_
      rintro r w4 ⟨hn, hg⟩
      obtain ⟨x, rfl, h_x, t_x, l_x, f1, f2⟩ := prod_yes2 t_t t_o hg
      have hC := bt hC hn
      have b_x := b_x.bs hn
      clear hg
      refine AwC.back ?_
      refine AwC.take (i := 4) NoP.midS rfl (by kernel_rfl) (by kernel_rfl) (by kernel_rfl) (fun w1 hc => Ex.move rfl) rfl ?_
      refine AwC.take (i := 5) NoP.midS rfl (by kernel_rfl) (by kernel_rfl) (by kernel_rfl) (fun w1 hc => Ex.extract (i := 0) rfl rfl) rfl ?_
      refine AwC.take (i := 6) NoP.midS rfl (by kernel_rfl) (by kernel_rfl) (by kernel_rfl) (fun w1 hc => Ex.extract (i := 1) rfl rfl) rfl ?_
      refine AwC.only (by assumption) (i := 8) (by kernel_rfl) rfl ?_
      refine Lw.unit (Xu.stA (cs := [x.x, x.y]) rfl rfl rfl rfl h_x.one b_x rfl) ?_
      rintro w5 ⟨b_x, hg, -⟩
      have hC : Below w.heap.size w w5 := hC.grown hg (below_size hC) (by rintro _ ⟨⟩; omega)
      refine AwC.back ?_
      refine AwC.take (i := 9) NoP.midS rfl (by kernel_rfl) (by kernel_rfl) (by kernel_rfl) (fun w1 hc => Ex.assign rfl) rfl ?_
      refine AwC.done (by assumption) (by kernel_rfl) ?_
      exact Pw.midS ((x, A_x)) ⟨rfl, rfl, rfl, rfl, rfl, rfl, rfl, rfl, rfl, trivial⟩ (⟨hC, at_by h_x hg (fun e => by have := f1 _ e; omega) (fun e => by have := f2 _ e; omega), b_x, t_x, by rw [l_x, l_o]; exact prd_eyer t_t.l⟩)
  rintro ⟨y, A_y⟩ w ⟨hn, h_y, b_y, t_y, l_y⟩
  dsimp only at h_y b_y t_y l_y ⊢
  replace hB := hB.bs hn
  replace h0 := h0.bs hn
  replace b_d := b_d.bs hn
  replace h_t := h_t.bs hn
  replace sh_t := sh_t.bs hn
  replace b_t := b_t.bs hn
  replace h_x := h_x.bs hn
  replace b_x := b_x.bs hn
  clear hn
  refine Cw.out ?_
  refine Cw.seq ?_
  refine Cw.region ?_
  refine Lw.val (Ex.move rfl) rfl ?_
  refine Lw.val (Ex.move rfl) rfl ?_
  refine Lw.valW (Xw.lit (vs := [(n : Int), (m : Int)].map (Value.int .i64)) st_26 it_3 rfl rfl rfl rfl rfl) rfl ?_
  rintro sv w ⟨ho, -, hn, -⟩
  have sl_s := own_slT ho
  clear ho
  replace hB := hB.bs hn
  replace h0 := h0.bs hn
  replace b_d := b_d.bs hn
  replace h_t := h_t.bs hn
  replace sh_t := sh_t.bs hn
  replace b_t := b_t.bs hn
  replace h_x := h_x.bs hn
  replace b_x := b_x.bs hn
  replace h_y := h_y.bs hn
  replace b_y := b_y.bs hn
  clear hn
  refine Lw.callF rfl rfl (new_c sv [(n : Int), (m : Int)] w sl_s) ?_
  rintro r w ⟨hn, hcase⟩
  obtain ⟨zx, zy, rfl, hz⟩ := new2_yes (by omega) (by omega) hcase
  obtain ⟨nil0, rfl, rfl, h_nil0, t_nil0, l_nil0⟩ := new2_ten (by omega) (by omega) hz
  clear hcase hz sl_s
  replace hB := hB.bs hn
  replace h0 := h0.bs hn
  replace b_d := b_d.bs hn
  replace h_t := h_t.bs hn
  replace sh_t := sh_t.bs hn
  replace b_t := b_t.bs hn
  replace h_x := h_x.bs hn
  replace b_x := b_x.bs hn
  replace h_y := h_y.bs hn
  replace b_y := b_y.bs hn
  clear hn
  refine Lw.val (Ex.move rfl) rfl ?_
  refine Lw.val (Ex.extract (i := 0) rfl rfl) rfl ?_
  refine Lw.val (Ex.extract (i := 1) rfl rfl) rfl ?_
  refine Lw.boxed (cs := [nil0.x, nil0.y]) it_28 rfl rfl rfl rfl (fun _ => rfl) (h_nil0.one) ?_
  rintro A_nil0 w eA_nil0 b_nil0 hn -
  replace hB := hB.bs hn
  replace h0 := h0.bs hn
  replace b_d := b_d.bs hn
  replace h_t := h_t.bs hn
  replace sh_t := sh_t.bs hn
  replace b_t := b_t.bs hn
  replace h_x := h_x.bs hn
  replace b_x := b_x.bs hn
  replace h_y := h_y.bs hn
  replace b_y := b_y.bs hn
  replace h_nil0 := h_nil0.bs hn
  clear hn
  refine Lw.val (Ex.assign rfl) rfl ?_
  refine Lw.nil ?_
  refine Pw.thenN (Cw.out ?_)
  refine Cw.seq ?_
  refine Cw.region ?_
  refine Lw.val (Ex.ldA (ag_28 _) (sz_28 _) rfl rfl (by assumption)) rfl ?_
  refine Lw.val (Ex.ldA (ag_28 _) (sz_28 _) rfl rfl (by assumption)) rfl ?_
  refine Lw.callF rfl rfl (prod_c t nil0 _ h_t h_nil0) ?_
  rintro r w ⟨hn, hg⟩
  obtain ⟨z, rfl, h_z, t_z, l_z⟩ := prod_yes t_t t_nil0 hg
  clear hg
  replace hB := hB.bs hn
  replace h0 := h0.bs hn
  replace b_d := b_d.bs hn
  replace h_t := h_t.bs hn
  replace sh_t := sh_t.bs hn
  replace b_t := b_t.bs hn
  replace h_x := h_x.bs hn
  replace b_x := b_x.bs hn
  replace h_y := h_y.bs hn
  replace b_y := b_y.bs hn
  replace h_nil0 := h_nil0.bs hn
  replace b_nil0 := b_nil0.bs hn
  clear hn
  refine Lw.val (Ex.move rfl) rfl ?_
  refine Lw.val (Ex.extract (i := 0) rfl rfl) rfl ?_
  refine Lw.val (Ex.extract (i := 1) rfl rfl) rfl ?_
  refine Lw.boxed (cs := [z.x, z.y]) it_28 rfl rfl rfl rfl (fun _ => rfl) (h_z.one) ?_
  rintro A_z w eA_z b_z hn -
  replace hB := hB.bs hn
  replace h0 := h0.bs hn
  replace b_d := b_d.bs hn
  replace h_t := h_t.bs hn
  replace sh_t := sh_t.bs hn
  replace b_t := b_t.bs hn
  replace h_x := h_x.bs hn
  replace b_x := b_x.bs hn
  replace h_y := h_y.bs hn
  replace b_y := b_y.bs hn
  replace h_nil0 := h_nil0.bs hn
  replace b_nil0 := b_nil0.bs hn
  replace h_z := h_z.bs hn
  clear hn
  refine Lw.val (Ex.assign rfl) rfl ?_
  refine Lw.nil ?_
  refine Pw.thenN (Cw.out ?_)
  refine Cw.seq ?_
  refine Cw.region ?_
  refine Lw.val (Ex.move rfl) rfl ?_
  refine Lw.val (Ex.move rfl) rfl ?_
  have n_t : t.l.length = m * n := t_t.l
  have y_t := h_t.2
  have hmn : 1 * 1 ≤ m * n ∧ m * n ≤ 9 * 9 := ⟨Nat.mul_le_mul m9.1 n9.1, Nat.mul_le_mul m9.2 n9.2⟩
  refine Lw.valW (Xw.lit (vs := [(m : Int), (m : Int)].map (Value.int .i64)) st_26 it_3 rfl rfl rfl rfl rfl) rfl ?_
  rintro sv w ⟨ho, -, hn, -⟩
  have sl_s := own_slT ho
  clear ho
  replace hB := hB.bs hn
  replace h0 := h0.bs hn
  replace b_d := b_d.bs hn
  replace h_t := h_t.bs hn
  replace sh_t := sh_t.bs hn
  replace b_t := b_t.bs hn
  replace h_x := h_x.bs hn
  replace b_x := b_x.bs hn
  replace h_y := h_y.bs hn
  replace b_y := b_y.bs hn
  replace h_nil0 := h_nil0.bs hn
  replace b_nil0 := b_nil0.bs hn
  replace h_z := h_z.bs hn
  replace b_z := b_z.bs hn
  replace y_t := y_t.bs hn
  clear hn
  refine Lw.callF rfl rfl (new_c sv [(m : Int), (m : Int)] w sl_s) ?_
  rintro r w ⟨hn, hcase⟩
  obtain ⟨zx, zy, rfl, hz⟩ := new2_yes (by omega) (by omega) hcase
  obtain ⟨want, rfl, rfl, h_want, t_want, l_want⟩ := new2_ten (by omega) (by omega) hz
  clear hcase hz sl_s
  replace hB := hB.bs hn
  replace h0 := h0.bs hn
  replace b_d := b_d.bs hn
  replace h_t := h_t.bs hn
  replace sh_t := sh_t.bs hn
  replace b_t := b_t.bs hn
  replace h_x := h_x.bs hn
  replace b_x := b_x.bs hn
  replace h_y := h_y.bs hn
  replace b_y := b_y.bs hn
  replace h_nil0 := h_nil0.bs hn
  replace b_nil0 := b_nil0.bs hn
  replace h_z := h_z.bs hn
  replace b_z := b_z.bs hn
  replace y_t := y_t.bs hn
  clear hn
  refine Lw.val (Ex.move rfl) rfl ?_
  refine Lw.val (Ex.extract (i := 0) rfl rfl) rfl ?_
  refine Lw.val (Ex.extract (i := 1) rfl rfl) rfl ?_
  refine Lw.boxed (cs := [want.x, want.y]) it_28 rfl rfl rfl rfl (fun _ => rfl) (h_want.one) ?_
  rintro A_want w eA_want b_want hn -
  replace hB := hB.bs hn
  replace h0 := h0.bs hn
  replace b_d := b_d.bs hn
  replace h_t := h_t.bs hn
  replace sh_t := sh_t.bs hn
  replace b_t := b_t.bs hn
  replace h_x := h_x.bs hn
  replace b_x := b_x.bs hn
  replace h_y := h_y.bs hn
  replace b_y := b_y.bs hn
  replace h_nil0 := h_nil0.bs hn
  replace b_nil0 := b_nil0.bs hn
  replace h_z := h_z.bs hn
  replace b_z := b_z.bs hn
  replace y_t := y_t.bs hn
  replace h_want := h_want.bs hn
  clear hn
  refine Lw.val (Ex.assign rfl) rfl ?_
  refine Lw.nil ?_
  refine Pw.thenN (Cw.out ?_)
  refine Cw.seq ?_
  refine Cw.region ?_
  refine Lw.val (Ex.fieldAddr (q := 0) Try.underlying28 rfl (sz_22 _) rfl) rfl ?_
  refine Lw.val (Ex.ldB (ag_22 _) rfl (by assumption) rfl) rfl ?_
  refine Lw.val ((Ex.lenS (sz := 1) st_22 rfl y_t).as (congrArg (fun j : Nat => Value.int .i64 (j : Int)) n_t)) rfl ?_
  refine Lw.valW (Xw.lit (vs := [(1 : Int), ((m * n : Nat) : Int)].map (Value.int .i64)) st_26 it_3 rfl rfl rfl rfl rfl) rfl ?_
  rintro rv w ⟨ho, -, hn, -⟩
  replace hB := hB.bs hn
  replace h0 := h0.bs hn
  replace b_d := b_d.bs hn
  replace h_t := h_t.bs hn
  replace sh_t := sh_t.bs hn
  replace b_t := b_t.bs hn
  replace h_x := h_x.bs hn
  replace b_x := b_x.bs hn
  replace h_y := h_y.bs hn
  replace b_y := b_y.bs hn
  replace h_nil0 := h_nil0.bs hn
  replace b_nil0 := b_nil0.bs hn
  replace h_z := h_z.bs hn
  replace b_z := b_z.bs hn
  replace y_t := y_t.bs hn
  replace h_want := h_want.bs hn
  replace b_want := b_want.bs hn
  clear hn
  refine Lw.val (Ex.fieldAddr (q := 0) Try.underlying28 rfl (sz_22 _) rfl) rfl ?_
  refine Lw.val (Ex.ldB (ag_22 _) rfl (by assumption) rfl) rfl ?_
  refine Lw.val (Ex.build (vs := [(0, rv), (1, t.y)]) (cs := [rv, t.y]) rfl (bt_ten _ _ (own_sl ho).one y_t.one)) rfl ?_
  obtain ⟨row, rfl, hry, s_row, l_row⟩ : ∃ a : T4, rv = a.x ∧ t.y = a.y ∧ a.s = [(1 : Int), ((m * n : Nat) : Int)] ∧ a.l = t.l := ⟨⟨rv, t.y, _, _⟩, rfl, rfl, rfl, rfl⟩
  have h_row : row.at w := ⟨by rw [s_row]; exact own_slT ho, by rw [← hry, l_row]; exact y_t⟩
  clear ho
  refine Lw.boxed (cs := [row.x, t.y]) it_28 rfl rfl rfl rfl (fun _ => rfl) (by simp [h_row.1.one', y_t.one']) ?_
  rintro A_row w eA_row b_row hn -
  replace hB := hB.bs hn
  replace h0 := h0.bs hn
  replace b_d := b_d.bs hn
  replace h_t := h_t.bs hn
  replace sh_t := sh_t.bs hn
  replace b_t := b_t.bs hn
  replace h_x := h_x.bs hn
  replace b_x := b_x.bs hn
  replace h_y := h_y.bs hn
  replace b_y := b_y.bs hn
  replace h_nil0 := h_nil0.bs hn
  replace b_nil0 := b_nil0.bs hn
  replace h_z := h_z.bs hn
  replace b_z := b_z.bs hn
  replace y_t := y_t.bs hn
  replace h_want := h_want.bs hn
  replace b_want := b_want.bs hn
  replace h_row := h_row.bs hn
  clear hn
  refine Lw.nil ?_
  refine Pw.thenN (Cw.out ?_)
  refine Cw.seq ?_
  refine Cw.region ?_
  refine Lw.val (Ex.fieldAddr (q := 0) Try.underlying28 rfl (sz_22 _) rfl) rfl ?_
  refine Lw.val (Ex.ldB (ag_22 _) rfl (by assumption) rfl) rfl ?_
  refine Lw.val ((Ex.lenS (sz := 1) st_22 rfl y_t).as (congrArg (fun j : Nat => Value.int .i64 (j : Int)) n_t)) rfl ?_
  rw [hry] at b_row
  refine Lw.valW (Xw.lit (vs := [((m * n : Nat) : Int), (1 : Int)].map (Value.int .i64)) st_26 it_3 rfl rfl rfl rfl rfl) rfl ?_
  rintro cv w ⟨ho, -, hn, -⟩
  replace hB := hB.bs hn
  replace h0 := h0.bs hn
  replace b_d := b_d.bs hn
  replace h_t := h_t.bs hn
  replace sh_t := sh_t.bs hn
  replace b_t := b_t.bs hn
  replace h_x := h_x.bs hn
  replace b_x := b_x.bs hn
  replace h_y := h_y.bs hn
  replace b_y := b_y.bs hn
  replace h_nil0 := h_nil0.bs hn
  replace b_nil0 := b_nil0.bs hn
  replace h_z := h_z.bs hn
  replace b_z := b_z.bs hn
  replace y_t := y_t.bs hn
  replace h_want := h_want.bs hn
  replace b_want := b_want.bs hn
  replace h_row := h_row.bs hn
  replace b_row := b_row.bs hn
  clear hn
  refine Lw.val (Ex.fieldAddr (q := 0) Try.underlying28 rfl (sz_22 _) rfl) rfl ?_
  refine Lw.val (Ex.ldB (ag_22 _) rfl (by assumption) rfl) rfl ?_
  refine Lw.val (Ex.build (vs := [(0, cv), (1, t.y)]) (cs := [cv, t.y]) rfl (bt_ten _ _ (own_sl ho).one y_t.one)) rfl ?_
  obtain ⟨col, rfl, hcy, s_col, l_col⟩ : ∃ a : T4, cv = a.x ∧ t.y = a.y ∧ a.s = [((m * n : Nat) : Int), (1 : Int)] ∧ a.l = t.l := ⟨⟨cv, t.y, _, _⟩, rfl, rfl, rfl, rfl⟩
  have h_col : col.at w := ⟨by rw [s_col]; exact own_slT ho, by rw [← hcy, l_col]; exact y_t⟩
  clear ho
  refine Lw.boxed (cs := [col.x, t.y]) it_28 rfl rfl rfl rfl (fun _ => rfl) (by simp [h_col.1.one', y_t.one']) ?_
  rintro A_col w eA_col b_col hn -
  replace hB := hB.bs hn
  replace h0 := h0.bs hn
  replace b_d := b_d.bs hn
  replace h_t := h_t.bs hn
  replace sh_t := sh_t.bs hn
  replace b_t := b_t.bs hn
  replace h_x := h_x.bs hn
  replace b_x := b_x.bs hn
  replace h_y := h_y.bs hn
  replace b_y := b_y.bs hn
  replace h_nil0 := h_nil0.bs hn
  replace b_nil0 := b_nil0.bs hn
  replace h_z := h_z.bs hn
  replace b_z := b_z.bs hn
  replace y_t := y_t.bs hn
  replace h_want := h_want.bs hn
  replace b_want := b_want.bs hn
  replace h_row := h_row.bs hn
  replace b_row := b_row.bs hn
  replace h_col := h_col.bs hn
  clear hn
  refine Lw.nil ?_
  refine Pw.thenN (Cw.out ?_)
  refine Cw.seq ?_
  refine Cw.seq ?_
  refine Cw.region ?_
  refine Lw.val (Ex.fieldAddr (q := 0) Try.underlying28 rfl (sz_22 _) rfl) rfl ?_
  refine Lw.val (Ex.ldB (ag_22 _) rfl (by assumption) rfl) rfl ?_
  refine Lw.val ((Ex.lenS (sz := 1) st_22 rfl y_t).as (congrArg (fun j : Nat => Value.int .i64 (j : Int)) n_t)) rfl ?_
  refine Lw.val (Ex.leq rfl rfl) rfl ?_
  refine Lw.nil ?_
  refine Pw.thenN (Cw.out ?_)
  rw [hcy] at b_col
  refine Cw.cond rfl ?_ ?_
  · intro g
    have hK : m * n ≤ 64 := by have := of_decide_eq_true g; omega
    obtain ⟨K, hKK⟩ : ∃ K, K = m * n := ⟨_, rfl⟩
    have t_row : Two row 1 K := ⟨by rw [s_row, hKK]; rfl, by rw [l_row, n_t, hKK, Nat.one_mul], by omega, by omega⟩
    have t_col : Two col K 1 := ⟨by rw [s_col, hKK]; rfl, by rw [l_col, n_t, hKK, Nat.mul_one], by omega, by omega⟩
    refine Cw.seq ?_
    refine Cw.region ?_
    refine Lw.val (Ex.ldA (ag_28 _) (sz_28 _) rfl rfl (by assumption)) rfl ?_
    refine Lw.val (Ex.ldA (ag_28 _) (sz_28 _) rfl rfl (by assumption)) rfl ?_
    refine Lw.callF rfl rfl (prod_c row col w h_row h_col) ?_
    rintro r w ⟨hn, hg⟩
    obtain ⟨v, rfl, h_v, t_v, l_v⟩ := prod_yes t_row t_col hg
    clear hg
    replace hB := hB.bs hn
    replace h0 := h0.bs hn
    replace b_d := b_d.bs hn
    replace h_t := h_t.bs hn
    replace sh_t := sh_t.bs hn
    replace b_t := b_t.bs hn
    replace h_x := h_x.bs hn
    replace b_x := b_x.bs hn
    replace h_y := h_y.bs hn
    replace b_y := b_y.bs hn
    replace h_nil0 := h_nil0.bs hn
    replace b_nil0 := b_nil0.bs hn
    replace h_z := h_z.bs hn
    replace b_z := b_z.bs hn
    replace y_t := y_t.bs hn
    replace h_want := h_want.bs hn
    replace b_want := b_want.bs hn
    replace h_row := h_row.bs hn
    replace b_row := b_row.bs hn
    replace h_col := h_col.bs hn
    replace b_col := b_col.bs hn
    clear hn
    refine Lw.val (Ex.move rfl) rfl ?_
    refine Lw.val (Ex.extract (i := 0) rfl rfl) rfl ?_
    refine Lw.val (Ex.extract (i := 1) rfl rfl) rfl ?_
    refine Lw.boxed (cs := [v.x, v.y]) it_28 rfl rfl rfl rfl (fun _ => rfl) (h_v.one) ?_
    rintro A_v w eA_v b_v hn -
    replace hB := hB.bs hn
    replace h0 := h0.bs hn
    replace b_d := b_d.bs hn
    replace h_t := h_t.bs hn
    replace sh_t := sh_t.bs hn
    replace b_t := b_t.bs hn
    replace h_x := h_x.bs hn
    replace b_x := b_x.bs hn
    replace h_y := h_y.bs hn
    replace b_y := b_y.bs hn
    replace h_nil0 := h_nil0.bs hn
    replace b_nil0 := b_nil0.bs hn
    replace h_z := h_z.bs hn
    replace b_z := b_z.bs hn
    replace y_t := y_t.bs hn
    replace h_want := h_want.bs hn
    replace b_want := b_want.bs hn
    replace h_row := h_row.bs hn
    replace b_row := b_row.bs hn
    replace h_col := h_col.bs hn
    replace b_col := b_col.bs hn
    replace h_v := h_v.bs hn
    clear hn
    refine Lw.val (Ex.assign rfl) rfl ?_
    refine Lw.nil ?_
    refine Pw.thenN (Cw.out ?_)
    refine Cw.seq ?_
    refine Cw.region ?_
    refine Lw.val (Ex.assign (show _ = some (i32 (0#32)) from rfl)) rfl ?_
    refine Lw.nil ?_
    refine Pw.thenN (Cw.out ?_)
    refine Cw.seq ?_
    refine Cw.seq ?_
    refine Cw.region ?_
    refine Lw.val (Ex.assign rfl) rfl ?_
    refine Lw.nil ?_
    refine Pw.thenN (Cw.out ?_)
    refine Cw.block ?_
    obtain ⟨f, hf⟩ : ∃ f : Nat → BitVec 32, f = fun p => t.l.getD p default * t.l.getD p default := ⟨_, rfl⟩
    have l_v : v.l = [sm K f] := by rw [l_v, l_row, l_col, prd_one, hf]
    refine Cw.loop (S := Nat) (fun i => [(0, u), (4, .bool false), (5, .pointer (some ⟨A_t, 0, none⟩)), (6, .int .i64 (m : Int)), (7, .int .i64 (n : Int)), (8, .pointer (some ⟨A_x, 0, none⟩)), (9, .int .i64 0), (10, .pointer (some ⟨A_y, 0, none⟩)), (11, .int .i64 0), (14, .pointer (some ⟨A_z, 0, none⟩)), (15, .int .i64 0), (16, .pointer (some ⟨A_want, 0, none⟩)), (20, .pointer (some ⟨A_v, 0, none⟩)), (21, .int .i64 0), (22, i32 (sm i f)), (23, .int .i64 (i : Int))]) (fun i w' => i ≤ K ∧ Below w.heap.size w w') (fun i => K - i) (0) ⟨rfl, rfl, rfl, rfl, rfl, rfl, rfl, rfl, rfl, rfl, rfl, rfl, rfl, rfl, rfl, rfl, trivial⟩ ?_ ?_
    · exact ⟨by omega, Below.refl _ _⟩
    rintro i w' ⟨hi, hw⟩
    replace hB := hB.bs hw
    replace h0 := h0.bs hw
    replace b_d := b_d.bs hw
    replace h_t := h_t.bs hw
    replace sh_t := sh_t.bs hw
    replace b_t := b_t.bs hw
    replace h_x := h_x.bs hw
    replace b_x := b_x.bs hw
    replace h_y := h_y.bs hw
    replace b_y := b_y.bs hw
    replace h_nil0 := h_nil0.bs hw
    replace b_nil0 := b_nil0.bs hw
    replace h_z := h_z.bs hw
    replace b_z := b_z.bs hw
    replace y_t := y_t.bs hw
    replace h_want := h_want.bs hw
    replace b_want := b_want.bs hw
    replace h_row := h_row.bs hw
    replace b_row := b_row.bs hw
    replace h_col := h_col.bs hw
    replace b_col := b_col.bs hw
    replace h_v := h_v.bs hw
    replace b_v := b_v.bs hw
    have nK : t.l.length = K := by rw [n_t, hKK]
    refine Cw.seq ?_
    refine Cw.seq ?_
    refine Cw.region ?_
    refine Lw.val (Ex.move rfl) rfl ?_
    refine Lw.val (Ex.fieldAddr (q := 0) Try.underlying28 rfl (sz_22 _) rfl) rfl ?_
    refine Lw.val (Ex.ldB (ag_22 _) rfl (by assumption) rfl) rfl ?_
    refine Lw.val ((Ex.lenS (sz := 1) st_22 rfl y_t).as (congrArg (fun j : Nat => Value.int .i64 (j : Int)) nK)) rfl ?_
    refine Lw.val (Ex.lss rfl rfl) rfl ?_
    refine Lw.nil ?_
    refine Pw.thenN (Cw.out ?_)
    refine Cw.cond rfl ?_ ?_
    · intro h
      have hi' : i < K := by simp at h; omega
      have hs : sm i f + t.l.getD i default * t.l.getD i default = sm (i + 1) f := by rw [sm, hf]
      refine Cw.skip ?_
      refine Pw.thenN (Cw.out ?_)
      refine Cw.seq ?_
      refine Cw.block ?_
      refine Cw.quiet mixed (by kernel_rfl) ?_
      refine Qw.val (fun w1 hq => Ex.move rfl) rfl ?_
      refine Qw.val (fun w1 hq => Ex.fieldAddr (q := 0) Try.underlying28 rfl (sz_22 _) rfl) rfl ?_
      refine Qw.val (fun w1 hq => Ex.ldB (ag_22 _) rfl (Blk.bs (by assumption) hq) rfl) rfl ?_
      refine Qw.val (fun w1 hq => Ex.move rfl) rfl ?_
      refine Qw.val (fun w1 hq => Ex.idxT st_22 rfl rfl (Sl.bs (by assumption) hq) _ rfl (by omega)) rfl ?_
      refine Qw.val (fun w1 hq => Ex.ldT (ag_21 _) rfl (Sl.bs (by assumption) hq) (by omega)) rfl ?_
      refine Qw.val (fun w1 hq => Ex.fieldAddr (q := 0) Try.underlying28 rfl (sz_22 _) rfl) rfl ?_
      refine Qw.val (fun w1 hq => Ex.ldB (ag_22 _) rfl (Blk.bs (by assumption) hq) rfl) rfl ?_
      refine Qw.val (fun w1 hq => Ex.move rfl) rfl ?_
      refine Qw.val (fun w1 hq => Ex.idxT st_22 rfl rfl (Sl.bs (by assumption) hq) _ rfl (by omega)) rfl ?_
      refine Qw.val (fun w1 hq => Ex.ldT (ag_21 _) rfl (Sl.bs (by assumption) hq) (by omega)) rfl ?_
      refine Qw.val (fun w1 hq => Ex.muli32 rfl rfl) rfl ?_
      refine Qw.val (fun w1 hq => Ex.addi32 rfl rfl) rfl ?_
      refine Qw.val (fun w1 hq => Ex.assign rfl) rfl ?_
      refine Qw.nil (fun w2 hq => ?_)
      refine Pw.blkN ?_
      refine Pw.thenN (Cw.out ?_)
      refine Cw.region ?_
      refine Lw.val (Ex.move rfl) rfl ?_
      refine Lw.val (Ex.addI rfl rfl (by omega)) rfl ?_
      refine Lw.val (Ex.assign rfl) rfl ?_
      refine Lw.nil ?_
      exact Pw.thenN (Pw.next (i + 1) ⟨rfl, rfl, rfl, rfl, rfl, rfl, rfl, rfl, rfl, rfl, rfl, rfl, rfl, rfl, congrArg (fun x => some (i32 x)) hs, rfl, trivial⟩ (⟨hi', bt hw hq⟩) (by omega))
    intro h
    have hi' : i = K := by simp at h; omega
    subst hi'
    have y_v := h_v.2
    have n_v : v.l.length = 1 := by rw [l_v]; rfl
    refine Cw.exit ?_
    refine Pw.thenE ?_
    refine Pw.thenE ?_
    refine Pw.blkHit ?_
    refine Pw.thenN (Cw.out ?_)
    refine Cw.seq ?_
    refine Cw.region ?_
    refine Lw.val (Ex.move rfl) rfl ?_
    refine Lw.val (Ex.neq rfl rfl) rfl ?_
    refine Lw.val (Ex.move rfl) rfl ?_
    refine Lw.know 126 (v' := .bool false) rfl (congrArg Value.bool (rfl)) ?_
    refine Lw.take (dj := 126) rfl rfl ?_
    refine Lw.val (Ex.fieldAddr (q := 0) Try.underlying28 rfl (sz_22 _) rfl) rfl ?_
    refine Lw.take (dj := 126) rfl rfl ?_
    refine Lw.val (Ex.ldB (ag_22 _) rfl (by assumption) rfl) rfl ?_
    refine Lw.take (dj := 126) rfl rfl ?_
    refine Lw.val (Ex.lenS st_22 rfl (by assumption)) rfl ?_
    refine Lw.take (dj := 126) rfl rfl ?_
    refine Lw.val (Ex.neq rfl rfl) rfl ?_
    refine Lw.val (Ex.pickF rfl rfl) rfl ?_
    refine Lw.val (Ex.move rfl) rfl ?_
    refine Lw.know 132 (v' := .bool false) rfl (congrArg Value.bool (by rw [n_v]; rfl)) ?_
    refine Lw.take (dj := 132) rfl rfl ?_
    refine Lw.val (Ex.fieldAddr (q := 0) Try.underlying28 rfl (sz_22 _) rfl) rfl ?_
    refine Lw.take (dj := 132) rfl rfl ?_
    refine Lw.val (Ex.ldB (ag_22 _) rfl (by assumption) rfl) rfl ?_
    refine Lw.take (dj := 132) rfl rfl ?_
    refine Lw.val (Ex.idxT st_22 rfl rfl (by assumption) 0 rfl (by omega)) rfl ?_
    refine Lw.take (dj := 132) rfl rfl ?_
    refine Lw.val (Ex.ldT (ag_21 _) rfl (by assumption) (by omega)) rfl ?_
    refine Lw.take (dj := 132) rfl rfl ?_
    refine Lw.val (Ex.move rfl) rfl ?_
    refine Lw.take (dj := 132) rfl rfl ?_
    refine Lw.val (Ex.neqi32 rfl rfl) rfl ?_
    refine Lw.val (Ex.pickF rfl rfl) rfl ?_
    refine Lw.nil ?_
    refine Pw.thenN (Cw.out ?_)
    refine Cw.condB rfl false (by rw [l_v]; simp) ?_
    refine Cw.skip ?_
    refine Pw.thenN (Cw.out ?_)
    refine Cw.seq ?_
    refine Cw.region ?_
    refine Lw.val (Ex.ldA (ag_28 _) (sz_28 _) rfl rfl (by assumption)) rfl ?_
    refine Lw.val (Ex.ldA (ag_28 _) (sz_28 _) rfl rfl (by assumption)) rfl ?_
    refine Lw.val (Ex.move rfl) rfl ?_
    refine Lw.callF rfl rfl (same7_c x t _ h_x h_t (t_x.s.trans t_t.s.symm) l_x) ?_
    rintro _ w ⟨rfl, hn⟩
    replace hB := hB.bs hn
    replace h0 := h0.bs hn
    replace b_d := b_d.bs hn
    replace h_t := h_t.bs hn
    replace sh_t := sh_t.bs hn
    replace b_t := b_t.bs hn
    replace h_x := h_x.bs hn
    replace b_x := b_x.bs hn
    replace h_y := h_y.bs hn
    replace b_y := b_y.bs hn
    replace h_nil0 := h_nil0.bs hn
    replace b_nil0 := b_nil0.bs hn
    replace h_z := h_z.bs hn
    replace b_z := b_z.bs hn
    replace y_t := y_t.bs hn
    replace h_want := h_want.bs hn
    replace b_want := b_want.bs hn
    replace h_row := h_row.bs hn
    replace b_row := b_row.bs hn
    replace h_col := h_col.bs hn
    replace b_col := b_col.bs hn
    replace h_v := h_v.bs hn
    replace b_v := b_v.bs hn
    replace y_v := y_v.bs hn
    clear hn
    refine Lw.val (Ex.move rfl) rfl ?_
    refine Lw.know 144 (v' := .bool true) rfl (congrArg Value.bool (rfl)) ?_
    refine Lw.take (dj := 144) rfl rfl ?_
    refine Lw.val (Ex.ldA (ag_28 _) (sz_28 _) rfl rfl (by assumption)) rfl ?_
    refine Lw.take (dj := 144) rfl rfl ?_
    refine Lw.val (Ex.ldA (ag_28 _) (sz_28 _) rfl rfl (by assumption)) rfl ?_
    refine Lw.take (dj := 144) rfl rfl ?_
    refine Lw.val (Ex.move rfl) rfl ?_
    refine Lw.take (dj := 144) rfl rfl ?_
    refine Lw.callF rfl rfl (same7_c y t _ h_y h_t (t_y.s.trans t_t.s.symm) l_y) ?_
    rintro _ w ⟨rfl, hn⟩
    replace hB := hB.bs hn
    replace h0 := h0.bs hn
    replace b_d := b_d.bs hn
    replace h_t := h_t.bs hn
    replace sh_t := sh_t.bs hn
    replace b_t := b_t.bs hn
    replace h_x := h_x.bs hn
    replace b_x := b_x.bs hn
    replace h_y := h_y.bs hn
    replace b_y := b_y.bs hn
    replace h_nil0 := h_nil0.bs hn
    replace b_nil0 := b_nil0.bs hn
    replace h_z := h_z.bs hn
    replace b_z := b_z.bs hn
    replace y_t := y_t.bs hn
    replace h_want := h_want.bs hn
    replace b_want := b_want.bs hn
    replace h_row := h_row.bs hn
    replace b_row := b_row.bs hn
    replace h_col := h_col.bs hn
    replace b_col := b_col.bs hn
    replace h_v := h_v.bs hn
    replace b_v := b_v.bs hn
    replace y_v := y_v.bs hn
    clear hn
    refine Lw.val (Ex.pickT rfl rfl) rfl ?_
    refine Lw.val (Ex.move rfl) rfl ?_
    refine Lw.know 150 (v' := .bool true) rfl (congrArg Value.bool (rfl)) ?_
    refine Lw.take (dj := 150) rfl rfl ?_
    refine Lw.val (Ex.ldA (ag_28 _) (sz_28 _) rfl rfl (by assumption)) rfl ?_
    refine Lw.take (dj := 150) rfl rfl ?_
    refine Lw.val (Ex.ldA (ag_28 _) (sz_28 _) rfl rfl (by assumption)) rfl ?_
    refine Lw.take (dj := 150) rfl rfl ?_
    refine Lw.val (Ex.move rfl) rfl ?_
    refine Lw.take (dj := 150) rfl rfl ?_
    refine Lw.callF rfl rfl (same7_c z want _ h_z h_want (t_z.s.trans t_want.s.symm) (by rw [l_z, l_want, l_nil0]; exact prd_zero _ _ _ _ _ (fun i => by simp [List.getElem?_replicate]; split <;> rfl))) ?_
    rintro _ w ⟨rfl, hn⟩
    replace hB := hB.bs hn
    replace h0 := h0.bs hn
    replace b_d := b_d.bs hn
    replace h_t := h_t.bs hn
    replace sh_t := sh_t.bs hn
    replace b_t := b_t.bs hn
    replace h_x := h_x.bs hn
    replace b_x := b_x.bs hn
    replace h_y := h_y.bs hn
    replace b_y := b_y.bs hn
    replace h_nil0 := h_nil0.bs hn
    replace b_nil0 := b_nil0.bs hn
    replace h_z := h_z.bs hn
    replace b_z := b_z.bs hn
    replace y_t := y_t.bs hn
    replace h_want := h_want.bs hn
    replace b_want := b_want.bs hn
    replace h_row := h_row.bs hn
    replace b_row := b_row.bs hn
    replace h_col := h_col.bs hn
    replace b_col := b_col.bs hn
    replace h_v := h_v.bs hn
    replace b_v := b_v.bs hn
    replace y_v := y_v.bs hn
    clear hn
    refine Lw.val (Ex.pickT rfl rfl) rfl ?_
    refine Lw.val (Ex.assign rfl) rfl ?_
    refine Lw.nil ?_
    refine Pw.thenN (Cw.out ?_)
    refine Cw.ret ?_
    refine Pw.ret1 rfl rfl ?_
    exact ⟨rfl, hB⟩
  · intro g
    refine Cw.skip ?_
    refine Pw.thenN (Cw.out ?_)
    refine Cw.seq ?_
    refine Cw.region ?_
    refine Lw.val (Ex.ldA (ag_28 _) (sz_28 _) rfl rfl (by assumption)) rfl ?_
    refine Lw.val (Ex.ldA (ag_28 _) (sz_28 _) rfl rfl (by assumption)) rfl ?_
    refine Lw.val (Ex.move rfl) rfl ?_
    refine Lw.callF rfl rfl (same7_c x t _ h_x h_t (t_x.s.trans t_t.s.symm) l_x) ?_
    rintro _ w ⟨rfl, hn⟩
    replace hB := hB.bs hn
    replace h0 := h0.bs hn
    replace b_d := b_d.bs hn
    replace h_t := h_t.bs hn
    replace sh_t := sh_t.bs hn
    replace b_t := b_t.bs hn
    replace h_x := h_x.bs hn
    replace b_x := b_x.bs hn
    replace h_y := h_y.bs hn
    replace b_y := b_y.bs hn
    replace h_nil0 := h_nil0.bs hn
    replace b_nil0 := b_nil0.bs hn
    replace h_z := h_z.bs hn
    replace b_z := b_z.bs hn
    replace y_t := y_t.bs hn
    replace h_want := h_want.bs hn
    replace b_want := b_want.bs hn
    replace h_row := h_row.bs hn
    replace b_row := b_row.bs hn
    replace h_col := h_col.bs hn
    replace b_col := b_col.bs hn
    clear hn
    refine Lw.val (Ex.move rfl) rfl ?_
    refine Lw.know 144 (v' := .bool true) rfl (congrArg Value.bool (rfl)) ?_
    refine Lw.take (dj := 144) rfl rfl ?_
    refine Lw.val (Ex.ldA (ag_28 _) (sz_28 _) rfl rfl (by assumption)) rfl ?_
    refine Lw.take (dj := 144) rfl rfl ?_
    refine Lw.val (Ex.ldA (ag_28 _) (sz_28 _) rfl rfl (by assumption)) rfl ?_
    refine Lw.take (dj := 144) rfl rfl ?_
    refine Lw.val (Ex.move rfl) rfl ?_
    refine Lw.take (dj := 144) rfl rfl ?_
    refine Lw.callF rfl rfl (same7_c y t _ h_y h_t (t_y.s.trans t_t.s.symm) l_y) ?_
    rintro _ w ⟨rfl, hn⟩
    replace hB := hB.bs hn
    replace h0 := h0.bs hn
    replace b_d := b_d.bs hn
    replace h_t := h_t.bs hn
    replace sh_t := sh_t.bs hn
    replace b_t := b_t.bs hn
    replace h_x := h_x.bs hn
    replace b_x := b_x.bs hn
    replace h_y := h_y.bs hn
    replace b_y := b_y.bs hn
    replace h_nil0 := h_nil0.bs hn
    replace b_nil0 := b_nil0.bs hn
    replace h_z := h_z.bs hn
    replace b_z := b_z.bs hn
    replace y_t := y_t.bs hn
    replace h_want := h_want.bs hn
    replace b_want := b_want.bs hn
    replace h_row := h_row.bs hn
    replace b_row := b_row.bs hn
    replace h_col := h_col.bs hn
    replace b_col := b_col.bs hn
    clear hn
    refine Lw.val (Ex.pickT rfl rfl) rfl ?_
    refine Lw.val (Ex.move rfl) rfl ?_
    refine Lw.know 150 (v' := .bool true) rfl (congrArg Value.bool (rfl)) ?_
    refine Lw.take (dj := 150) rfl rfl ?_
    refine Lw.val (Ex.ldA (ag_28 _) (sz_28 _) rfl rfl (by assumption)) rfl ?_
    refine Lw.take (dj := 150) rfl rfl ?_
    refine Lw.val (Ex.ldA (ag_28 _) (sz_28 _) rfl rfl (by assumption)) rfl ?_
    refine Lw.take (dj := 150) rfl rfl ?_
    refine Lw.val (Ex.move rfl) rfl ?_
    refine Lw.take (dj := 150) rfl rfl ?_
    refine Lw.callF rfl rfl (same7_c z want _ h_z h_want (t_z.s.trans t_want.s.symm) (by rw [l_z, l_want, l_nil0]; exact prd_zero _ _ _ _ _ (fun i => by simp [List.getElem?_replicate]; split <;> rfl))) ?_
    rintro _ w ⟨rfl, hn⟩
    replace hB := hB.bs hn
    replace h0 := h0.bs hn
    replace b_d := b_d.bs hn
    replace h_t := h_t.bs hn
    replace sh_t := sh_t.bs hn
    replace b_t := b_t.bs hn
    replace h_x := h_x.bs hn
    replace b_x := b_x.bs hn
    replace h_y := h_y.bs hn
    replace b_y := b_y.bs hn
    replace h_nil0 := h_nil0.bs hn
    replace b_nil0 := b_nil0.bs hn
    replace h_z := h_z.bs hn
    replace b_z := b_z.bs hn
    replace y_t := y_t.bs hn
    replace h_want := h_want.bs hn
    replace b_want := b_want.bs hn
    replace h_row := h_row.bs hn
    replace b_row := b_row.bs hn
    replace h_col := h_col.bs hn
    replace b_col := b_col.bs hn
    clear hn
    refine Lw.val (Ex.pickT rfl rfl) rfl ?_
    refine Lw.val (Ex.assign rfl) rfl ?_
    refine Lw.nil ?_
    refine Pw.thenN (Cw.out ?_)
    refine Cw.ret ?_
    refine Pw.ret1 rfl rfl ?_
    exact ⟨rfl, hB⟩

set_option maxRecDepth 100000 in
set_option maxHeartbeats 2000000 in
theorem productsOne_lifted (os : Os) (started : os.Started) (H : Type) (enc : TypeId × Value → H) :
    ReturnsInHanded {} Try.checked os 4 .any (Rows.productsOneSpec.pre6 enc Try.prog Try.f4 Rows.productsOneRow.domain false) (Rows.productsOneSpec.post enc Try.prog Try.f4 false true false false) := by
  refine returnsInHanded_of_change_sized (C := Try.checked) own started (by kernel_rfl) Try.func4
    (ChangeSpec.witness6 (enc := enc) (C := Try.checked) false ⟨#[], #[.slice none 0 0, .agg #[.int .u8 0, .int .u8 0]], []⟩ 8 (by kernel_rfl) (by kernel_rfl) (by kernel_rfl) (by kernel_rfl)) ?_
  intro W base args ds gs before hval0 hW hcnd hsz0 _
  have hval : ∀ (j : Nat) t v, Try.f4.params[j]? = some t → args[j]? = some v → Value.okWide Try.prog W .any base t v := hval0
  have hW' := hW
  obtain ⟨p, q, hA0, hV, rfl, hfz, hnd⟩ := hW
  have hA : DataW.TrodAll enc Try.prog W 0 (fun _ => true) true Try.f4.params.toList args.toList ds p := hA0
  have hsz : (DataW.weightsEach Try.prog (Try.f4.params.toList ++ Rows.productsOneSpec.plain.varTypes Try.prog) (ds ++ gs)).all (· ≤ reachBytes) = true := hsz0
  rw [Try.params4] at hA hval hsz
  obtain ⟨v0, vs0, d0, ds0, p0, q0, hargs, rfl, rfl, h0, r0⟩ := trodAll_cons hA
  obtain ⟨v1, vs1, d1, ds1, p1, q1, rfl, rfl, rfl, h1, r1⟩ := trodAll_cons r0
  obtain ⟨rfl, rfl, rfl⟩ := trodAll_nil r1
  obtain rfl : args = #[v0, v1] := by cases args; simp_all
  obtain ⟨rfl, rfl⟩ := trodVars_none hV
  have k0 := h0
  have lt0 : ∀ x ∈ p0, x.block < W.heap.size := by obtain ⟨m, hm⟩ := k0; exact DataW.trod_lt m _ _ _ hm
  have i0 := in_of (j := 0) (t := 22) hsz rfl rfl h0
  have o0 := hval 0 22 v0 rfl rfl
  have k1 := h1
  have lt1 : ∀ x ∈ p1, x.block < W.heap.size := by obtain ⟨m, hm⟩ := k1; exact DataW.trod_lt m _ _ _ hm
  have i1 := in_of (j := 1) (t := 35) hsz rfl rfl h1
  have o1 := hval 1 35 v1 rfl rfl
  clear hA0 hval0 hsz0 hsz
  obtain ⟨l, hl, -⟩ := arg_slT un_22 (by kernel_rfl) (fun cs h => In.num (BitVec.ofInt 32) i32 (fun _ h => wf_i32 h) un_21 h) o0 i0
  obtain ⟨ds, rfl, hid⟩ := arg_array un_35 o1 i1
  obtain ⟨hl4, hed⟩ := hid.array un_35
  have c4 : Try.prog.cellsOf 35 = 2 := by kernel_rfl
  have c8 : Try.prog.cellsOf 5 = 1 := by kernel_rfl
  rw [c4] at hl4
  rw [c8] at hed
  obtain ⟨y0, y1, rfl⟩ := two_of hl4
  obtain ⟨d0, e⟩ := In.num (BitVec.ofInt 8) b8 (fun _ h => wf_u8 h) un_5 (hed 0 (by decide))
  simp at e
  subst e
  obtain ⟨d1, e⟩ := In.num (BitVec.ofInt 8) b8 (fun _ h => wf_u8 h) un_5 (hed 1 (by decide))
  simp at e
  subst e
  refine (law_calls (productsOne_w v0 l d0 d1 W hl)).mono fun e W' ⟨he, bel⟩ => ?_
  subst he
  exact ⟨_, rfl, _, _, _, [], _, [], hW', trodAll_mk1 (shut_bool un_4 _), (trodAll_cons_mk (Below.trod laidOut (by kernel_rfl) (of_decide_eq_true (by kernel_rfl)) k0 bel lt0) (trodAll_cons_mk (Below.trod laidOut (by kernel_rfl) (of_decide_eq_true (by kernel_rfl)) k1 bel lt1) trodAll_mk0)), rfl, bel.frame _, fun h => by cases h⟩

/-- The statement. -/
theorem productsOne_proved : Rows.ProductsOneSaid :=
  OpenClaim.holds_of_wide 4 Try.f4 rfl rfl rfl rfl rfl rfl rfl ⟨rfl, rfl, rfl, rfl, rfl⟩ rfl rfl rfl rfl rfl (by kernel_rfl) Try.func4 (by kernel_rfl)
    (of_decide_eq_true (by kernel_rfl)) (by unfold Func.isWrapper; first | (rw [if_pos (by decide +kernel)]; kernel_rfl) | (rw [if_neg (by decide +kernel)]; exact ⟨rfl, rfl⟩))
    (fun os started H enc _ => productsOne_lifted os started H enc)
#print axioms productsOne_proved
end Go.Proofs.Ytdliencelkdibaa
