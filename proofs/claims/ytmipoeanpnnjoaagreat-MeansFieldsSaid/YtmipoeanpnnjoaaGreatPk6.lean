/- Texts of this proof, one behind the other: NumsCode, MovesSum, GraphCode, GraphKind, GraphShape, GraphNode, GraphShapes. -/
import Derived.Test.YtmipoeanpnnjoaaGreatPk1
import Derived.Test.YtmipoeanpnnjoaaGreatPk5
import Derived.Test.YtmipoeanpnnjoaaGreatPk2
import Derived.Test.YtmipoeanpnnjoaaGreatPk3

/-! Contracts: numbers as bytes. -/
namespace Go.Proofs.YtmipoeanpnnjoaaGreat
open Go Go.Dd Go.RowKit
set_option maxRecDepth 100000

def gf (l : List (BitVec 8)) : BitVec 32 := le4 (l.getD 0 default) (l.getD 1 default) (l.getD 2 default) (l.getD 3 default)
theorem growIntS_c (k : Nat) (w : World) (hk : k ≤ 16777216) : Fnc Tryz.prog 129 [.slice none 0 0, .int .i64 (k : Int)] w (fun r w' => w'.ownsRow w.heap.size 3 1 r 0 [] ∧ Below w.heap.size w w') := by
  have hnil := Sl.nil w 1
  refine Fnc.enter (n := 27) Tryz.func129 (by kernel_rfl) rfl rfl rfl ?_
  refine Cw.seq ?_
  refine Cw.region ?_
  refine Lw.val (Ex.assign rfl) rfl ?_
  refine Lw.nil ?_
  refine Pw.thenN (Cw.out ?_)
  refine Cw.seq ?_
  refine Cw.seq ?_
  refine Cw.region ?_
  refine Lw.val (Ex.move rfl) rfl ?_
  refine Lw.val (Ex.lss rfl rfl) rfl ?_
  refine Lw.nil ?_
  refine Pw.thenN (Cw.out ?_)
  refine Cw.condB rfl false (by simp) ?_
  refine Cw.skip ?_
  refine Pw.thenN (Cw.out ?_)
  refine Cw.seq ?_
  refine Cw.seq ?_
  refine Cw.region ?_
  refine Lw.val (Ex.move rfl) rfl ?_
  refine Lw.val (Ex.move rfl) rfl ?_
  refine Lw.val (Ex.capNil st_26 rfl) rfl ?_
  refine Lw.val (Ex.move rfl) rfl ?_
  refine Lw.val (Ex.lenS st_26 rfl (by assumption)) rfl ?_
  refine Lw.val (Ex.subI rfl rfl (by omega)) rfl ?_
  refine Lw.val (Ex.subI rfl rfl (by omega)) rfl ?_
  refine Lw.val (Ex.assign rfl) rfl ?_
  refine Lw.nil ?_
  refine Pw.thenN (Cw.out ?_)
  refine Cw.seq ?_
  refine Cw.region ?_
  refine Lw.val (Ex.move rfl) rfl ?_
  refine Lw.val (Ex.gtr rfl rfl) rfl ?_
  refine Lw.nil ?_
  refine Pw.thenN (Cw.out ?_)
  refine Cw.cond rfl ?_ ?_
  · intro g
    have g' : 0 < k := by have := of_decide_eq_true g; omega
    refine Cw.region ?_
    refine Lw.val (Ex.move rfl) rfl ?_
    refine Lw.val (Ex.move rfl) rfl ?_
    refine Lw.val (Ex.capNil st_26 rfl) rfl ?_
    refine Lw.val (Ex.as (u := .slice none 0 0) (Ex.cutH (j := 0) st_26 rfl rfl hnil (Nat.le_refl 0)) rfl) rfl ?_
    refine Lw.val (Ex.as (u := .int .i64 (k : Int)) (Ex.move rfl) (congrArg (Value.int .i64) (by omega))) rfl ?_
    refine Lw.valW (Xw.grow0 (tn := 3) (kn := .i64) st_26 it_3 rfl (by decide) un_3 rfl rfl g' (by omega) (by omega)) rfl ?_
    rintro v w1 ⟨cap, xs, rfl, ho, hn⟩
    have hnil := Sl.nil w1 1
    refine Lw.val (Ex.move rfl) rfl ?_
    refine Lw.val (Ex.lenS st_26 rfl (by assumption)) rfl ?_
    refine Lw.val (Ex.extH (j := 0) st_26 rfl rfl (Nat.zero_le cap)) rfl ?_
    refine Lw.val (Ex.assign rfl) rfl ?_
    refine Lw.nil ?_
    refine Pw.thenN (Cw.out ?_)
    refine Cw.seq ?_
    refine Cw.region ?_
    refine Lw.val (Ex.move rfl) rfl ?_
    refine Lw.val (Ex.assign rfl) rfl ?_
    refine Lw.nil ?_
    refine Pw.thenN (Cw.out ?_)
    refine Cw.ret ?_
    refine Pw.ret1 rfl rfl ?_
    exact ⟨own_short (k := 0) (m := k) (xs := []) (by simpa using ho) rfl, hn⟩
  · intro g
    refine Cw.skip ?_
    refine Pw.thenN (Cw.out ?_)
    refine Cw.seq ?_
    refine Cw.region ?_
    refine Lw.val (Ex.move rfl) rfl ?_
    refine Lw.val (Ex.assign rfl) rfl ?_
    refine Lw.nil ?_
    refine Pw.thenN (Cw.out ?_)
    refine Cw.ret ?_
    refine Pw.ret1 rfl rfl ?_
    exact ⟨⟨rfl, .inl ⟨rfl, rfl⟩⟩, Below.refl _ _⟩
theorem concatInt_c (v : Value) (ps : List (Value × List (Int))) (w : World) (hv : SlT (fun p : Value × List (Int) => p.1) w v ps) (hp : ∀ p ∈ ps, SlT (Value.int .i64) w p.1 p.2) (hb : (ps.map (·.2)).flatten.length ≤ 16777216) :
    Fnc Tryz.prog 115 [v] w (fun r w' => w'.ownsRow w.heap.size 3 1 r (ps.map (·.2)).flatten.length ((ps.map (·.2)).flatten.map (Value.int .i64)) ∧ Below w.heap.size w w') := by
  have hle := hv.le
  have hmem : ∀ i, i < ps.length → SlT (Value.int .i64) w (ps.getD i default).1 (ps.getD i default).2 := fun i hi => hp _ (getD_mem hi)
  refine Fnc.enter (n := 36) Tryz.func115 (by kernel_rfl) rfl rfl rfl ?_
  refine Cw.seq ?_
  refine Cw.region ?_
  refine Lw.val (Ex.assign rfl) rfl ?_
  refine Lw.nil ?_
  refine Pw.thenN (Cw.out ?_)
  refine Cw.seq ?_
  refine Cw.region ?_
  refine Lw.val (Ex.assign rfl) rfl ?_
  refine Lw.nil ?_
  refine Pw.thenN (Cw.out ?_)
  refine Cw.seq ?_
  refine Cw.seq ?_
  refine Cw.region ?_
  refine Lw.val (Ex.move rfl) rfl ?_
  refine Lw.val (Ex.lenS st_39 rfl (by assumption)) rfl ?_
  refine Lw.val (Ex.move rfl) rfl ?_
  refine Lw.nil ?_
  refine Pw.thenN (Cw.out ?_)
  refine Cw.block ?_
  refine Cw.loop (S := Nat) (fun i => [(0, v), (3, .int .i64 ((((ps.take i).map (·.2)).flatten.length : Nat) : Int)), (9, v), (10, .int .i64 (ps.length : Int)), (11, .int .i64 (i : Int))]) (fun i w' => i ≤ ps.length ∧ w' = w) (fun i => ps.length - i) (0) ⟨rfl, rfl, rfl, rfl, rfl, trivial⟩ ?_ ?_
  · exact ⟨by omega, rfl⟩
  rintro i w1 ⟨hi, rfl⟩
  refine Cw.seq ?_
  refine Cw.region ?_
  refine Lw.val (Ex.lss rfl rfl) rfl ?_
  refine Lw.nil ?_
  refine Pw.thenN (Cw.out ?_)
  refine Cw.seq ?_
  refine Cw.cond rfl ?_ ?_
  · intro h
    have hi' : i < ps.length := by simp at h; omega
    have hs := hmem i hi'
    have h1 := cat_le (ps := ps) (i + 1)
    have h2 := cat_step hi'
    have h3 := congrArg List.length h2
    rw [List.length_append] at h3
    refine Cw.skip ?_
    refine Pw.thenN (Cw.out ?_)
    refine Cw.seq ?_
    refine Cw.block ?_
    refine Cw.seq ?_
    refine Cw.region ?_
    refine Lw.val (Ex.idxT st_39 rfl rfl (by assumption) _ rfl (by omega)) rfl ?_
    refine Lw.val (Ex.ldT (ag_26 _) rfl (by assumption) (by omega)) rfl ?_
    refine Lw.val (Ex.assign rfl) rfl ?_
    refine Lw.nil ?_
    refine Pw.thenN (Cw.out ?_)
    refine Cw.seq ?_
    refine Cw.region ?_
    refine Lw.val (Ex.move rfl) rfl ?_
    refine Lw.val (Ex.move rfl) rfl ?_
    refine Lw.val (Ex.lenS st_26 rfl (by assumption)) rfl ?_
    refine Lw.val (Ex.addI rfl rfl (by omega)) rfl ?_
    refine Lw.val (Ex.assign rfl) rfl ?_
    refine Lw.nil ?_
    refine Pw.thenN (Cw.out ?_)
    refine Cw.seq ?_
    refine Cw.region ?_
    refine Lw.val (Ex.move rfl) rfl ?_
    refine Lw.val (Ex.lss rfl rfl) rfl ?_
    refine Lw.nil ?_
    refine Pw.thenN (Cw.out ?_)
    refine Cw.condB rfl false (by simp; omega) ?_
    refine Cw.skip ?_
    refine Pw.blkN ?_
    refine Pw.thenN (Cw.out ?_)
    refine Cw.region ?_
    refine Lw.val (Ex.addI rfl rfl (by omega)) rfl ?_
    refine Lw.val (Ex.move rfl) rfl ?_
    refine Lw.nil ?_
    exact Pw.thenN (Pw.next (i + 1) ⟨rfl, (congrArg (fun x => some (Value.int .i64 x)) (by omega)), rfl, rfl, rfl, trivial⟩ (⟨hi', rfl⟩) (by omega))
  intro h
  have hi' : i = ps.length := by simp at h; omega
  subst hi'
  rw [List.take_length]
  refine Cw.exit ?_
  refine Pw.thenE ?_
  refine Pw.thenE ?_
  refine Pw.blkHit ?_
  refine Pw.thenN (Cw.out ?_)
  refine Cw.seq ?_
  refine Cw.region ?_
  refine Lw.val (Ex.move rfl) rfl ?_
  refine Lw.callF rfl rfl (growIntS_c _ w1 hb) ?_
  rintro x w2 ⟨ho, hn⟩
  have hv2 := hv.bs hn
  refine Lw.val (Ex.assign rfl) rfl ?_
  refine Lw.nil ?_
  refine Pw.thenN (Cw.out ?_)
  refine Cw.seq ?_
  refine Cw.seq ?_
  refine Cw.region ?_
  refine Lw.val (Ex.move rfl) rfl ?_
  refine Lw.val (Ex.lenS st_39 rfl (by assumption)) rfl ?_
  refine Lw.val (Ex.move rfl) rfl ?_
  refine Lw.nil ?_
  refine Pw.thenN (Cw.out ?_)
  refine Cw.block ?_
  refine Cw.loop (S := (Nat × Value)) (fun z => [(0, v), (6, z.2), (25, v), (26, .int .i64 (ps.length : Int)), (27, .int .i64 (z.1 : Int))]) (fun z w' => z.1 ≤ ps.length ∧ w'.ownsRow w1.heap.size 3 1 z.2 ((ps.take z.1).map (·.2)).flatten.length (((ps.take z.1).map (·.2)).flatten.map (Value.int .i64)) ∧ Below w1.heap.size w1 w') (fun z => ps.length - z.1) ((0, x)) ⟨rfl, rfl, rfl, rfl, rfl, trivial⟩ ?_ ?_
  · exact ⟨Nat.zero_le _, by simpa using ho, hn⟩
  clear ho hn hv2
  rintro ⟨i, x⟩ w2 ⟨hi, ho, hn⟩
  dsimp only at hi ho ⊢
  have hv2 := hv.bs hn
  refine Cw.seq ?_
  refine Cw.region ?_
  refine Lw.val (Ex.lss rfl rfl) rfl ?_
  refine Lw.nil ?_
  refine Pw.thenN (Cw.out ?_)
  refine Cw.seq ?_
  refine Cw.cond rfl ?_ ?_
  · intro h
    have hi' : i < ps.length := by simp at h; omega
    have hs := (hmem i hi').bs hn
    have h1 := cat_le (ps := ps) (i + 1)
    have h2 := cat_step hi'
    have h3 := congrArg List.length h2
    rw [List.length_append] at h3
    refine Cw.skip ?_
    refine Pw.thenN (Cw.out ?_)
    refine Cw.seq ?_
    refine Cw.block ?_
    refine Cw.seq ?_
    refine Cw.region ?_
    refine Lw.val (Ex.idxT st_39 rfl rfl (by assumption) _ rfl (by omega)) rfl ?_
    refine Lw.val (Ex.ldT (ag_26 _) rfl (by assumption) (by omega)) rfl ?_
    refine Lw.val (Ex.assign rfl) rfl ?_
    refine Lw.nil ?_
    refine Pw.thenN (Cw.out ?_)
    refine Cw.region ?_
    refine Lw.val (Ex.move rfl) rfl ?_
    refine Lw.val (Ex.move rfl) rfl ?_
    refine Lw.valW (Xw.append (base := w1.heap.size) st_26 it_3 rfl (by decide) rfl rfl ho hs (one_map (fun _ => rfl) _) (by omega) (by omega) hn.size) rfl ?_
    rintro x' w3 ⟨ho3, hb3, -⟩
    rw [← List.map_append, ← h2, ← h3] at ho3
    refine Lw.val (Ex.assign rfl) rfl ?_
    refine Lw.nil ?_
    refine Pw.blkN ?_
    refine Pw.thenN (Cw.out ?_)
    refine Cw.region ?_
    refine Lw.val (Ex.addI rfl rfl (by omega)) rfl ?_
    refine Lw.val (Ex.move rfl) rfl ?_
    refine Lw.nil ?_
    exact Pw.thenN (Pw.next ((i + 1, x')) ⟨rfl, rfl, rfl, rfl, rfl, trivial⟩ (⟨hi', ho3, hn.trans hb3⟩) (by simp only; omega))
  intro h
  have hi' : i = ps.length := by simp at h; omega
  subst hi'
  rw [List.take_length] at ho
  refine Cw.exit ?_
  refine Pw.thenE ?_
  refine Pw.thenE ?_
  refine Pw.blkHit ?_
  refine Pw.thenN (Cw.out ?_)
  refine Cw.seq ?_
  refine Cw.region ?_
  refine Lw.val (Ex.move rfl) rfl ?_
  refine Lw.val (Ex.assign rfl) rfl ?_
  refine Lw.nil ?_
  refine Pw.thenN (Cw.out ?_)
  refine Cw.ret ?_
  refine Pw.ret1 rfl rfl ?_
  exact ⟨ho, hn⟩
end Go.Proofs.YtmipoeanpnnjoaaGreat

/-! Contract: sums along a direction. -/
namespace Go.Proofs.YtmipoeanpnnjoaaGreat
open Go Go.Dd Go.RowKit
set_option maxRecDepth 100000

theorem apartF_c (u : Value) (s : List Int) (k a : Nat) (w : World) (h_u : SlT (Value.int .i64) w u s) (hok : Shapes.ok s = true) (hk : k < s.length) (ha : Shapes.prod (s.drop (k + 1)) = (a : Int)) :
    Fnc Tryz.prog 116 [.agg #[u, .int .i64 (k : Int)]] w (fun r w' => r = .int .i64 (a : Int) ∧ Below w.heap.size w w') := by
  have hB := Below.refl w.heap.size w
  refine Fnc.enter (n := 8) Tryz.func116 (by kernel_rfl) rfl rfl rfl ?_
  refine Cw.seq ?_
  refine Cw.region ?_
  refine Lw.boxV (cs := [u, .int .i64 (k : Int)]) rfl rfl rfl ?_
  rintro A_f w eA_f b_f hn -
  replace hB := hB.bs hn
  replace h_u := h_u.bs hn
  clear hn
  refine Lw.val (Ex.assign rfl) rfl ?_
  refine Lw.nil ?_
  refine Pw.thenN (Cw.out ?_)
  refine Cw.seq ?_
  refine Cw.region ?_
  refine Lw.val (Ex.fieldAddr (q := 0) Tryz.underlying145 rfl (sz_140 _) rfl) rfl ?_
  refine Lw.val (Ex.ldB (ag_140 _) rfl (by assumption) rfl) rfl ?_
  refine Lw.val (Ex.fieldAddr (q := 0) Tryz.underlying145 rfl (sz_3 _) rfl) rfl ?_
  refine Lw.val (Ex.ldB (ag_3 _) rfl (by assumption) rfl) rfl ?_
  refine Lw.callF rfl rfl (behind_c u s k _ h_u hok hk) ?_
  rintro _ w ⟨rfl, hn⟩
  replace hB := hB.bs hn
  replace h_u := h_u.bs hn
  replace b_f := b_f.bs hn
  clear hn
  refine Lw.val (Ex.assign rfl) rfl ?_
  refine Lw.nil ?_
  refine Pw.thenN (Cw.out ?_)
  refine Cw.ret ?_
  refine Pw.ret1 rfl rfl ?_
  exact ⟨by rw [ha], hB⟩
theorem ofF_c (u : Value) (s : List Int) (k a : Nat) (w : World) (h_u : SlT (Value.int .i64) w u s) (hk : k < s.length) (ha : s.getD k default = (a : Int)) :
    Fnc Tryz.prog 117 [.agg #[u, .int .i64 (k : Int)]] w (fun r w' => r = .int .i64 (a : Int) ∧ Below w.heap.size w w') := by
  have hB := Below.refl w.heap.size w
  refine Fnc.enter (n := 9) Tryz.func117 (by kernel_rfl) rfl rfl rfl ?_
  refine Cw.seq ?_
  refine Cw.region ?_
  refine Lw.boxV (cs := [u, .int .i64 (k : Int)]) rfl rfl rfl ?_
  rintro A_f w eA_f b_f hn -
  replace hB := hB.bs hn
  replace h_u := h_u.bs hn
  clear hn
  refine Lw.val (Ex.assign rfl) rfl ?_
  refine Lw.nil ?_
  refine Pw.thenN (Cw.out ?_)
  refine Cw.seq ?_
  refine Cw.region ?_
  refine Lw.val (Ex.fieldAddr (q := 0) Tryz.underlying145 rfl (sz_140 _) rfl) rfl ?_
  refine Lw.val (Ex.ldB (ag_140 _) rfl (by assumption) rfl) rfl ?_
  refine Lw.val (Ex.fieldAddr (q := 0) Tryz.underlying145 rfl (sz_3 _) rfl) rfl ?_
  refine Lw.val (Ex.ldB (ag_3 _) rfl (by assumption) rfl) rfl ?_
  refine Lw.val (Ex.idxT st_140 rfl rfl h_u k rfl hk) rfl ?_
  refine Lw.val ((Ex.ldT (ag_3 _) rfl h_u hk).as (congrArg (Value.int .i64) ha)) rfl ?_
  refine Lw.val (Ex.assign rfl) rfl ?_
  refine Lw.nil ?_
  refine Pw.thenN (Cw.out ?_)
  refine Cw.ret ?_
  refine Pw.ret1 rfl rfl ?_
  exact ⟨rfl, hB⟩
theorem bt_field (y : Value) (a : Int) (hy : y.cells = [y].toArray) : Tryz.prog.built 145 [(0, y), (1, .int .i64 a)] = some [y, .int .i64 a].toArray := by
  have h1 : Tryz.prog.info? 145 = some Tryz.t145 := rfl
  have h2 : Tryz.prog.info? 140 = some Tryz.t140 := rfl
  have h3 : Tryz.prog.info? 3 = some Tryz.t3 := rfl
  simp [Program.built, h1, Tryz.underlying145, h2, h3, Instr.fill, hy]
  rfl
def suE (t : T4) (along : Int) : Int := if tok t.s t.l && decide (0 ≤ along) && decide (along < (t.s.length : Int)) then 0 else 1
set_option maxHeartbeats 1000000 in
theorem msum_c (t : T4) (al : Int) (W : World) (h_t : t.at W) :
    Fnc Tryz.prog 87 [t.v, .int .i64 al] W (fun r w' => Below W.heap.size W w' ∧ AnsK W w' r (suE t al) (without t.s al.toNat) (suL t.s t.l al.toNat)) := by
  have hB := Below.refl W.heap.size W
  refine Fnc.enter (n := 99) Tryz.func87 (by kernel_rfl) rfl rfl rfl ?_
  refine Cw.seq ?_
  refine Cw.region ?_
  refine Lw.boxV (cs := [t.x, t.y]) rfl rfl rfl ?_
  rintro A_t w eA_t b_t hn -
  replace hB := hB.bs hn
  replace h_t := h_t.bs hn
  clear hn
  have z0 := below_size hB
  refine Lw.newA it_29 rfl ?_
  rintro A_r w eA_r b_r hn -
  replace hB := hB.bs hn
  replace h_t := h_t.bs hn
  replace b_t := b_t.bs hn
  clear hn
  refine Lw.val (Ex.assign rfl) rfl ?_
  refine Lw.nil ?_
  refine Pw.thenN (Cw.out ?_)
  refine Cw.seq ?_
  refine Cw.seq ?_
  refine Cw.region ?_
  refine Lw.val (Ex.ldA (ag_29 _) (sz_29 _) rfl rfl (by assumption)) rfl ?_
  have z_r := blk_lt b_r
  have h_t1 := h_t.1
  refine Lw.callF rfl rfl (tcheck_c t.x t.y t.s t.l _ h_t.1 h_t.2) ?_
  rintro _ w ⟨rfl, hn⟩
  replace hB := hB.bs hn
  replace h_t := h_t.bs hn
  replace b_t := b_t.bs hn
  replace b_r := b_r.bs hn
  replace h_t1 := h_t1.bs hn
  clear hn
  refine Lw.val (Ex.not rfl) rfl ?_
  refine Lw.val (Ex.move rfl) rfl ?_
  refine Lw.part 16 rfl ?_ ?_
  · intro g
    refine Lw.pass (dj := 16) rfl rfl rfl rfl ?_
    refine Lw.pass (dj := 16) rfl rfl rfl rfl ?_
    refine Lw.val (Ex.pickT rfl rfl) rfl ?_
    refine Lw.val (Ex.move rfl) rfl ?_
    refine Lw.pass (dj := 20) rfl rfl rfl rfl ?_
    refine Lw.pass (dj := 20) rfl rfl rfl rfl ?_
    refine Lw.pass (dj := 20) rfl rfl rfl rfl ?_
    refine Lw.pass (dj := 20) rfl rfl rfl rfl ?_
    refine Lw.pass (dj := 20) rfl rfl rfl rfl ?_
    refine Lw.val (Ex.pickT rfl rfl) rfl ?_
    refine Lw.nil ?_
    refine Pw.thenN (Cw.out ?_)
    refine Cw.condT rfl ?_
    refine Cw.seq ?_
    refine Cw.region ?_
    refine Lw.val (Ex.build (vs := []) (cs := [.slice none 0 0, .slice none 0 0]) rfl (by kernel_rfl)) rfl ?_
    refine Lw.unit (Xu.stA (cs := [.slice none 0 0, .slice none 0 0]) rfl rfl rfl rfl rfl b_r rfl) ?_
    rintro w3 ⟨b_r, hg, -⟩
    have hB := hB.grown hg (below_size hB) (by rintro _ ⟨⟩; omega)
    refine Lw.val (Ex.assign rfl) rfl ?_
    refine Lw.nil ?_
    refine Pw.thenN (Cw.out ?_)
    refine Cw.ret ?_
    refine Pw.thenR ?_
    refine Pw.retCT rfl rfl rfl (by assumption) (Tryz.underlying29) rfl rfl rfl ?_
    rw [show suE t al = 1 by simp_all [suE]]
    exact ⟨hB, ansK_no (by decide)⟩
  intro g1
  have k_t : tok t.s t.l = true := by simpa using g1
  refine Lw.take (dj := 16) rfl rfl ?_
  refine Lw.val (Ex.move rfl) rfl ?_
  refine Lw.take (dj := 16) rfl rfl ?_
  refine Lw.val (Ex.lss rfl rfl) rfl ?_
  refine Lw.val (Ex.pickF rfl rfl) rfl ?_
  refine Lw.val (Ex.move rfl) rfl ?_
  refine Lw.part 20 rfl ?_ ?_
  · intro g
    have g := of_decide_eq_true g
    refine Lw.pass (dj := 20) rfl rfl rfl rfl ?_
    refine Lw.pass (dj := 20) rfl rfl rfl rfl ?_
    refine Lw.pass (dj := 20) rfl rfl rfl rfl ?_
    refine Lw.pass (dj := 20) rfl rfl rfl rfl ?_
    refine Lw.pass (dj := 20) rfl rfl rfl rfl ?_
    refine Lw.val (Ex.pickT rfl rfl) rfl ?_
    refine Lw.nil ?_
    refine Pw.thenN (Cw.out ?_)
    refine Cw.condT rfl ?_
    refine Cw.seq ?_
    refine Cw.region ?_
    refine Lw.val (Ex.build (vs := []) (cs := [.slice none 0 0, .slice none 0 0]) rfl (by kernel_rfl)) rfl ?_
    refine Lw.unit (Xu.stA (cs := [.slice none 0 0, .slice none 0 0]) rfl rfl rfl rfl rfl b_r rfl) ?_
    rintro w3 ⟨b_r, hg, -⟩
    have hB := hB.grown hg (below_size hB) (by rintro _ ⟨⟩; omega)
    refine Lw.val (Ex.assign rfl) rfl ?_
    refine Lw.nil ?_
    refine Pw.thenN (Cw.out ?_)
    refine Cw.ret ?_
    refine Pw.thenR ?_
    refine Pw.retCT rfl rfl rfl (by assumption) (Tryz.underlying29) rfl rfl rfl ?_
    rw [show suE t al = 1 by unfold suE; rw [decide_eq_false (show ¬ 0 ≤ al by omega), Bool.and_false, Bool.false_and]; rfl]
    exact ⟨hB, ansK_no (by decide)⟩
  intro g2
  have g2 := of_decide_eq_false g2
  refine Lw.take (dj := 20) rfl rfl ?_
  refine Lw.val (Ex.move rfl) rfl ?_
  refine Lw.take (dj := 20) rfl rfl ?_
  refine Lw.val (Ex.fieldAddr (q := 0) Tryz.underlying29 rfl (sz_26 _) rfl) rfl ?_
  refine Lw.take (dj := 20) rfl rfl ?_
  refine Lw.val (Ex.ldB (ag_26 _) rfl (by assumption) rfl) rfl ?_
  refine Lw.take (dj := 20) rfl rfl ?_
  refine Lw.val (Ex.lenS st_26 rfl (by assumption)) rfl ?_
  refine Lw.take (dj := 20) rfl rfl ?_
  refine Lw.val (Ex.geq rfl rfl) rfl ?_
  refine Lw.val (Ex.pickF rfl rfl) rfl ?_
  refine Lw.nil ?_
  refine Pw.thenN (Cw.out ?_)
  refine Cw.cond rfl ?_ ?_
  · intro g
    have g := of_decide_eq_true g
    refine Cw.seq ?_
    refine Cw.region ?_
    refine Lw.val (Ex.build (vs := []) (cs := [.slice none 0 0, .slice none 0 0]) rfl (by kernel_rfl)) rfl ?_
    refine Lw.unit (Xu.stA (cs := [.slice none 0 0, .slice none 0 0]) rfl rfl rfl rfl rfl b_r rfl) ?_
    rintro w3 ⟨b_r, hg, -⟩
    have hB := hB.grown hg (below_size hB) (by rintro _ ⟨⟩; omega)
    refine Lw.val (Ex.assign rfl) rfl ?_
    refine Lw.nil ?_
    refine Pw.thenN (Cw.out ?_)
    refine Cw.ret ?_
    refine Pw.thenR ?_
    refine Pw.retCT rfl rfl rfl (by assumption) (Tryz.underlying29) rfl rfl rfl ?_
    rw [show suE t al = 1 by unfold suE; rw [decide_eq_false (show ¬ al < (t.s.length : Int) by omega), Bool.and_false]; rfl]
    exact ⟨hB, ansK_no (by decide)⟩
  intro g3
  have g3 := of_decide_eq_false g3
  rw [show suE t al = 0 by unfold suE; rw [k_t, decide_eq_true (show 0 ≤ al by omega), decide_eq_true (show al < (t.s.length : Int) by omega)]; rfl]
  clear g1
  obtain ⟨k, rfl⟩ : ∃ k : Nat, al = (k : Int) := ⟨al.toNat, by omega⟩
  rw [Int.toNat_natCast]
  have hk : k < t.s.length := by omega
  clear g2 g3
  obtain ⟨k1, k2⟩ := tok_ok k_t
  have S := (Shapes.ok_iff t.s).1 k1
  have okW := without_ok k1 hk
  have pr := Shapes.ok_prod k1 (k + 1)
  have dk := dim_at S.2.1 hk
  obtain ⟨a, ha⟩ : ∃ a : Nat, Shapes.prod (t.s.drop (k + 1)) = (a : Int) := ⟨_, (Int.toNat_of_nonneg (by omega)).symm⟩
  obtain ⟨n, hn⟩ : ∃ n : Nat, t.s.getD k default = (n : Int) := ⟨_, (Int.toNat_of_nonneg (by omega)).symm⟩
  obtain ⟨ps, hps⟩ : ∃ ps : List (Value × List Int), ps = [(cut t.x 1 0 k, t.s.take k), (cut t.x 1 (k + 1) t.s.length, t.s.drop (k + 1))] := ⟨_, rfl⟩
  have s_1 := SlT.take h_t1 (j := k) (by omega)
  have s_2 := SlT.drop h_t1 (i := k + 1) (by omega)
  refine Cw.skip ?_
  refine Pw.thenN (Cw.out ?_)
  refine Cw.seq ?_
  refine Cw.tail 9 mixed (by kernel_rfl) ?_
  refine Qw.val (fun w1 hq => Ex.fieldAddr (q := 0) Tryz.underlying29 rfl (sz_26 _) rfl) rfl ?_
  refine Qw.val (fun w1 hq => Ex.ldB (ag_26 _) rfl (Blk.bs (by assumption) hq) rfl) rfl ?_
  refine Qw.val (fun w1 hq => Ex.move rfl) rfl ?_
  refine Qw.val (fun w1 hq => Ex.cutH st_26 rfl rfl (Sl.bs (by assumption) hq) (by omega)) rfl ?_
  refine Qw.val (fun w1 hq => Ex.fieldAddr (q := 0) Tryz.underlying29 rfl (sz_26 _) rfl) rfl ?_
  refine Qw.val (fun w1 hq => Ex.ldB (ag_26 _) rfl (Blk.bs (by assumption) hq) rfl) rfl ?_
  refine Qw.val (fun w1 hq => Ex.move rfl) rfl ?_
  refine Qw.val (fun w1 hq => (Ex.addI rfl rfl (by omega)).as (congrArg (Value.int .i64) (show (k : Int) + 1 = ((k + 1 : Nat) : Int) by omega))) rfl ?_
  refine Qw.val (fun w1 hq => Ex.cutL st_26 rfl rfl (Sl.bs (by assumption) hq) (by omega)) rfl ?_
  refine Qw.done (fun w2 hq => ?_)
  replace hB := hB.bs hq
  replace h_t := h_t.bs hq
  replace b_t := b_t.bs hq
  replace b_r := b_r.bs hq
  replace h_t1 := h_t1.bs hq
  replace s_1 := s_1.bs hq
  replace s_2 := s_2.bs hq
  clear hq
  refine Lw.valW (Xw.lit (vs := ps.map (fun p => p.1)) st_39 it_26 rfl (by rw [hps]; rfl) (by rw [hps]; rfl) (by rw [hps]; simp [s_1.one', s_2.one']) rfl) rfl ?_
  rintro x0 w ⟨hx0, -, hn0, -⟩
  have hx0 : w.ownsRow w2.heap.size 26 1 x0 ps.length (ps.map (fun p => p.1)) := by rw [show ps.length = 2 by rw [hps]; rfl]; exact hx0
  replace hB := hB.bs hn0
  replace h_t := h_t.bs hn0
  replace b_t := b_t.bs hn0
  replace b_r := b_r.bs hn0
  replace h_t1 := h_t1.bs hn0
  replace s_1 := s_1.bs hn0
  replace s_2 := s_2.bs hn0
  clear hn0
  have zc := below_size hB
  refine Lw.callF rfl rfl (concatInt_c x0 ps w (own_slT hx0) (by rw [hps]; intro p hp; simp at hp; rcases hp with rfl | rfl; exact s_1; exact s_2) (by rw [hps]; simp; omega)) ?_
  rintro x w ⟨hx, hn1⟩
  have hfl : (ps.map (·.2)).flatten = t.s.take k ++ t.s.drop (k + 1) := by rw [hps]; simp
  rw [hfl] at hx
  have hx := own_mono hx zc
  replace hB := hB.bs hn1
  replace h_t := h_t.bs hn1
  replace b_t := b_t.bs hn1
  replace b_r := b_r.bs hn1
  replace h_t1 := h_t1.bs hn1
  replace s_1 := s_1.bs hn1
  replace s_2 := s_2.bs hn1
  clear hn1 hx0 hfl
  have s_x := own_slT hx
  refine Lw.val (Ex.assign rfl) rfl ?_
  refine Lw.nil ?_
  refine Pw.thenN (Cw.out ?_)
  refine Cw.seq ?_
  refine Cw.seq ?_
  refine Cw.region ?_
  refine Lw.val (Ex.move rfl) rfl ?_
  refine Lw.val (Ex.lenS st_26 rfl (by assumption)) rfl ?_
  refine Lw.val (Ex.eql rfl rfl) rfl ?_
  refine Lw.nil ?_
  refine Pw.thenN (Cw.out ?_)
  refine Cw.midS (St := Value) (fun z => [(1, .int .i64 (k : Int)), (2, .pointer (some ⟨A_t, 0, none⟩)), (4, .pointer (some ⟨A_r, 0, none⟩)), (6, z)]) (fun z w' => Below w.heap.size w w' ∧ SlT (Value.int .i64) w' z (without t.s k)) ?_ ?_
  · have hM := Below.refl w.heap.size w
    refine Cw.cond rfl ?_ ?_
    · intro g
      have g := of_decide_eq_true g
      have l1 : t.s.length = 1 := by rw [List.length_append, List.length_take, List.length_drop] at g; omega
      refine Cw.region ?_
      refine Lw.valW (Xw.lit (vs := [(1 : Int)].map (Value.int .i64)) st_26 it_3 rfl rfl rfl rfl rfl) rfl ?_
      rintro z w ⟨hz, -, hn2, -⟩
      replace hB := hB.bs hn2
      replace h_t := h_t.bs hn2
      replace b_t := b_t.bs hn2
      replace b_r := b_r.bs hn2
      replace h_t1 := h_t1.bs hn2
      replace s_1 := s_1.bs hn2
      replace s_2 := s_2.bs hn2
      replace hx := hx.bs hn2
      replace s_x := s_x.bs hn2
      replace hM := hM.bs hn2
      refine Lw.val (Ex.assign rfl) rfl ?_
      refine Lw.nil ?_
      exact Pw.midS (z) ⟨rfl, rfl, rfl, rfl, trivial⟩ (⟨hM, by unfold without; rw [if_pos l1]; exact own_slT hz⟩)
    intro g
    have g := of_decide_eq_false g
    have l1 : ¬ t.s.length = 1 := by intro h; apply g; rw [List.length_append, List.length_take, List.length_drop]; omega
    refine Cw.skip ?_
    exact Pw.midS (x) ⟨rfl, rfl, rfl, rfl, trivial⟩ (⟨hM, by unfold without; rw [if_neg l1]; exact own_slT hx⟩)
  rintro z w ⟨hn3, h_z⟩
  replace hB := hB.bs hn3
  replace h_t := h_t.bs hn3
  replace b_t := b_t.bs hn3
  replace b_r := b_r.bs hn3
  replace h_t1 := h_t1.bs hn3
  replace s_1 := s_1.bs hn3
  replace s_2 := s_2.bs hn3
  replace hx := hx.bs hn3
  replace s_x := s_x.bs hn3
  clear hn3
  clear hx s_x
  refine Cw.out ?_
  have h_t2 := h_t.2
  refine Cw.seq ?_
  refine Cw.region ?_
  refine Lw.val (Ex.fieldAddr (q := 0) Tryz.underlying29 rfl (sz_26 _) rfl) rfl ?_
  refine Lw.val (Ex.ldB (ag_26 _) rfl (by assumption) rfl) rfl ?_
  refine Lw.val (Ex.move rfl) rfl ?_
  refine Lw.val (Ex.build (vs := [(0, t.x), (1, .int .i64 (k : Int))]) (cs := [t.x, .int .i64 (k : Int)]) rfl (bt_field _ _ h_t1.one)) rfl ?_
  refine Lw.boxed (cs := [t.x, .int .i64 (k : Int)]) it_145 rfl rfl rfl rfl (fun _ => rfl) (by simp [h_t1.one']; rfl) ?_
  rintro A_f w eA_f b_f hn -
  replace hB := hB.bs hn
  replace h_t := h_t.bs hn
  replace b_t := b_t.bs hn
  replace b_r := b_r.bs hn
  replace h_t1 := h_t1.bs hn
  replace s_1 := s_1.bs hn
  replace s_2 := s_2.bs hn
  replace h_z := h_z.bs hn
  replace h_t2 := h_t2.bs hn
  clear hn
  refine Lw.nil ?_
  refine Pw.thenN (Cw.out ?_)
  refine Cw.seq ?_
  refine Cw.region ?_
  refine Lw.val (Ex.move rfl) rfl ?_
  have y_t := blk_lt b_t
  have y_r := blk_lt b_r
  have y_f := blk_lt b_f
  have y_B := below_size hB
  have p_t := h_t
  refine Lw.callF rfl rfl (new_c z (without t.s k) _ h_z) ?_
  rintro _ w7 ⟨hn7, ⟨hk', x, y, rfl, hm⟩ | ⟨hk', rfl⟩⟩
  · refine Lw.val (Ex.move rfl) rfl ?_
    refine Lw.val (Ex.extract (i := 0) rfl rfl) rfl ?_
    refine Lw.val (Ex.extract (i := 1) rfl rfl) rfl ?_
    refine Lw.boxed (cs := [x, y]) it_29 rfl rfl rfl rfl (fun _ => rfl) (hm.one) ?_
    rintro A_m w8 eA_m b_m hn8 zhn8
    have M := mine_new hm eA_m b_m hn8 zhn8 hn7.size
    have hw8 := bt hn7 hn8
    have zw := hw8.size
    replace hB := hB.bs hw8
    replace h_t := h_t.bs hw8
    replace b_t := b_t.bs hw8
    replace b_r := b_r.bs hw8
    replace h_t1 := h_t1.bs hw8
    replace s_1 := s_1.bs hw8
    replace s_2 := s_2.bs hw8
    replace h_z := h_z.bs hw8
    replace h_t2 := h_t2.bs hw8
    replace b_f := b_f.bs hw8
    clear hm b_m hn7 hn8 eA_m zhn8 hw8
    have zB := below_size hB
    have szW := Shapes.size_le (without t.s k)
    have szo := Shapes.size_ok okW
    rw [without_prod hk, ha] at szo
    obtain ⟨P, hP⟩ : ∃ P : Nat, Shapes.prod (t.s.take k) = (P : Int) := ⟨_, (Int.toNat_of_nonneg (by have := Shapes.prod_pos (s := t.s.take k) fun x hx => S.2.1 x (List.mem_of_mem_take hx); omega)).symm⟩
    have hM : (Shapes.size (without t.s k)).toNat = P * a := by
      have : ((P * a : Nat) : Int) = Shapes.size (without t.s k) := by rw [szo, hP]; push_cast; rfl
      omega
    have hL : t.l.length = P * (n * a) := by
      have e1 := Shapes.size_ok k1
      rw [prod_split hk, ha, hn, hP] at e1
      have : ((P * (n * a) : Nat) : Int) = Shapes.size t.s := by rw [e1]; push_cast; rfl
      have := Shapes.size_le t.s
      omega
    have sz4 : t.l.length ≤ 4096 := by have := Shapes.size_le t.s; omega
    obtain ⟨fl, hfl⟩ : ∃ l, l = suL t.s t.l k := ⟨_, rfl⟩
    obtain ⟨zs, hzs⟩ : ∃ l, l = List.replicate (Shapes.size (without t.s k)).toNat 0#32 := ⟨_, rfl⟩
    rw [← hzs] at M
    have n1 : fl.length = zs.length := by rw [hfl, hzs]; simp [suL]
    have n2 : zs.length = P * a := by rw [hzs, List.length_replicate, hM]
    have hF : ∀ i, i < P * a → fl.getD i default = sm n (suF t.s t.l k i) := fun i hi => by rw [hfl]; unfold suL; rw [hM, hn, Int.toNat_natCast]; simp [hi]
    have hG : ∀ i j, suF t.s t.l k i j = t.l.getD (i / a * a * n + i % a + j * a) default := fun i j => by unfold suF; rw [ha, hn, Int.toNat_natCast, Int.toNat_natCast]
    have b_m := M.box
    have y_m := M.sly
    refine Lw.val (Ex.assign rfl) rfl ?_
    refine Lw.nil ?_
    refine Pw.thenN (Cw.out ?_)
    refine Cw.seq ?_
    refine Cw.seq ?_
    refine Cw.region ?_
    refine Lw.val (Ex.fieldAddr (q := 0) Tryz.underlying29 rfl (sz_27 _) rfl) rfl ?_
    refine Lw.val (Ex.ldB (ag_27 _) rfl (by assumption) rfl) rfl ?_
    refine Lw.val (Ex.lenS st_27 rfl (by assumption)) rfl ?_
    refine Lw.val (Ex.move rfl) rfl ?_
    refine Lw.nil ?_
    refine Pw.thenN (Cw.out ?_)
    refine Cw.block ?_
    refine Cw.loop (S := Nat) (fun i => [(2, .pointer (some ⟨A_t, 0, none⟩)), (4, .pointer (some ⟨A_r, 0, none⟩)), (7, .pointer (some ⟨A_f, 0, none⟩)), (8, .pointer (some ⟨A_m, 0, none⟩)), (9, .int .i64 0), (54, .int .i64 (zs.length : Int)), (55, .int .i64 (i : Int))]) (fun i w' => i ≤ zs.length ∧ Below w.heap.size w8 w' ∧ MineT w' w.heap.size w8.heap.size A_m x y (without t.s k) (fl.take i ++ zs.drop i)) (fun i => zs.length - i) (0) ⟨rfl, rfl, rfl, rfl, rfl, rfl, rfl, trivial⟩ ?_ ?_
    · exact ⟨by omega, Below.refl _ _, by rw [td_zero]; exact M⟩
    clear M b_m y_m
    rintro i w11 ⟨hi, hw, M⟩
    refine Cw.seq ?_
    refine Cw.region ?_
    refine Lw.val (Ex.lss rfl rfl) rfl ?_
    refine Lw.nil ?_
    refine Pw.thenN (Cw.out ?_)
    refine Cw.seq ?_
    refine Cw.cond rfl ?_ ?_
    · intro h
      have hi' : i < zs.length := by have := of_decide_eq_true h; omega
      have hiP : i < P * a := by omega
      have b_f1 := b_f.bl hw y_f
      have h_t11 := (at_stay p_t h_t (Nat.le_refl _) hw).1
      have a1 : 1 ≤ a := by omega
      have r0 := su_lt (n := n) hiP (j := 0) (by omega)
      rw [Nat.zero_mul, Nat.add_zero, ← hL] at r0
      obtain ⟨fi, hfi⟩ : ∃ x, x = i / a * a * n + i % a := ⟨_, rfl⟩
      obtain ⟨qa, hqa⟩ : ∃ x, x = i / a * a := ⟨_, rfl⟩
      obtain ⟨qn, hqn⟩ : ∃ x, x = qa * n := ⟨_, rfl⟩
      obtain ⟨q, hqq⟩ : ∃ x, x = i / a := ⟨_, rfl⟩
      obtain ⟨rr, hrr⟩ : ∃ x, x = i % a := ⟨_, rfl⟩
      rw [← hqq] at hqa
      rw [← hqq, ← hqa, ← hqn, ← hrr] at hfi r0
      have c1 : (q : Int) * (a : Int) = (qa : Int) := by rw [hqa]; push_cast; rfl
      have c2 : (qa : Int) * (n : Int) = (qn : Int) := by rw [hqn]; push_cast; rfl
      have qle : qa ≤ i := by rw [hqa, hqq]; exact Nat.div_mul_le_self i a
      refine Cw.skip ?_
      refine Pw.thenN (Cw.out ?_)
      refine Cw.seq ?_
      refine Cw.block ?_
      refine Cw.seq ?_
      refine Cw.region ?_
      refine Lw.val (Ex.move rfl) rfl ?_
      refine Lw.val (Ex.assign rfl) rfl ?_
      refine Lw.nil ?_
      refine Pw.thenN (Cw.out ?_)
      refine Cw.seq ?_
      refine Cw.quiet mixed (by kernel_rfl) ?_
      refine Qw.val (fun w1 hq => Ex.move rfl) rfl ?_
      refine Qw.val (fun w1 hq => Ex.ldA (ag_145 _) (sz_145 _) rfl rfl (Blk.bs (by assumption) hq)) rfl ?_
      refine Qw.callF rfl rfl (fun w1 hq => (apartF_c t.x t.s k a w1 (h_t11.bs hq) k1 hk ha).q hq) ?_
      refine Qw.val (fun w1 hq => (Ex.quoI rfl rfl (by omega) (by omega)).as (congrArg (Value.int .i64) (show (i : Int) / (a : Int) = (q : Int) by rw [hqq]; rfl))) rfl ?_
      refine Qw.val (fun w1 hq => Ex.ldA (ag_145 _) (sz_145 _) rfl rfl (Blk.bs (by assumption) hq)) rfl ?_
      refine Qw.callF rfl rfl (fun w1 hq => (apartF_c t.x t.s k a w1 (h_t11.bs hq) k1 hk ha).q hq) ?_
      refine Qw.val (fun w1 hq => (Ex.mulI rfl rfl (by omega)).as (congrArg (Value.int .i64) c1)) rfl ?_
      refine Qw.val (fun w1 hq => Ex.ldA (ag_145 _) (sz_145 _) rfl rfl (Blk.bs (by assumption) hq)) rfl ?_
      refine Qw.callF rfl rfl (fun w1 hq => (ofF_c t.x t.s k n w1 (h_t11.bs hq) hk hn).q hq) ?_
      refine Qw.val (fun w1 hq => (Ex.mulI rfl rfl (by omega)).as (congrArg (Value.int .i64) c2)) rfl ?_
      refine Qw.val (fun w1 hq => Ex.move rfl) rfl ?_
      refine Qw.val (fun w1 hq => Ex.ldA (ag_145 _) (sz_145 _) rfl rfl (Blk.bs (by assumption) hq)) rfl ?_
      refine Qw.callF rfl rfl (fun w1 hq => (apartF_c t.x t.s k a w1 (h_t11.bs hq) k1 hk ha).q hq) ?_
      refine Qw.val (fun w1 hq => (Ex.remI rfl rfl (by omega) (by omega)).as (congrArg (Value.int .i64) (show (i : Int) % (a : Int) = (rr : Int) by rw [hrr]; rfl))) rfl ?_
      refine Qw.val (fun w1 hq => (Ex.addI rfl rfl (by omega)).as (congrArg (Value.int .i64) (show (qn : Int) + (rr : Int) = (fi : Int) by omega))) rfl ?_
      refine Qw.val (fun w1 hq => Ex.assign rfl) rfl ?_
      refine Qw.nil (fun w12 hq => ?_)
      refine Pw.thenN (Cw.out ?_)
      refine Cw.seq ?_
      have hw := hw.trans (hq.mono (by have := hw.size; omega))
      have M := M.bs hq
      have b_f1 := b_f1.bs hq
      have h_t11 := h_t11.bs hq
      clear hq
      refine Cw.region ?_
      refine Lw.val (Ex.ldA (ag_145 _) (sz_145 _) rfl rfl (by assumption)) rfl ?_
      refine Lw.callF rfl rfl (ofF_c t.x t.s k n w12 h_t11 hk hn) ?_
      rintro _ w13 ⟨rfl, hq⟩
      have hw := hw.trans (hq.mono (by have := hw.size; omega))
      have M := M.bs hq
      have e1 := td_len (i := i) n1
      have h0 : (fl.take i ++ zs.drop i).set i 0#32 = fl.take i ++ zs.drop i := set_selfD (by omega) (by rw [td_get n1 hi', hzs]; exact getD_rep (by omega))
      refine Lw.val (Ex.move rfl) rfl ?_
      refine Lw.nil ?_
      refine Pw.thenN (Cw.out ?_)
      refine Cw.block ?_
      refine Cw.loop (S := Nat) (fun j => [(2, .pointer (some ⟨A_t, 0, none⟩)), (4, .pointer (some ⟨A_r, 0, none⟩)), (7, .pointer (some ⟨A_f, 0, none⟩)), (8, .pointer (some ⟨A_m, 0, none⟩)), (9, .int .i64 0), (54, .int .i64 (zs.length : Int)), (55, .int .i64 (i : Int)), (10, .int .i64 (i : Int)), (11, .int .i64 (fi : Int)), (74, .int .i64 (n : Int)), (75, .int .i64 (j : Int))]) (fun j w' => j ≤ n ∧ Below w.heap.size w8 w' ∧ MineT w' w.heap.size w8.heap.size A_m x y (without t.s k) ((fl.take i ++ zs.drop i).set i (sm j (suF t.s t.l k i)))) (fun j => n - j) (0) ⟨rfl, rfl, rfl, rfl, rfl, rfl, rfl, rfl, rfl, rfl, rfl, trivial⟩ ?_ ?_
      · exact ⟨Nat.zero_le _, hw, by rw [show sm 0 (suF t.s t.l k i) = 0#32 from rfl, h0]; exact M⟩
      clear M hw hq b_f1 h_t11
      rintro j w14 ⟨hj, hw, M⟩
      refine Cw.seq ?_
      refine Cw.region ?_
      refine Lw.val (Ex.lss rfl rfl) rfl ?_
      refine Lw.nil ?_
      refine Pw.thenN (Cw.out ?_)
      refine Cw.seq ?_
      refine Cw.cond rfl ?_ ?_
      · intro h
        have hj' : j < n := by have := of_decide_eq_true h; omega
        have b_f1 := b_f.bl hw y_f
        have b_t1 := b_t.bl hw y_t
        have h_t1a := at_stay p_t h_t (Nat.le_refl _) hw
        have h_t11 := h_t1a.1
        have h_t12 := h_t1a.2
        have b_m := M.box
        have y_m := M.sly
        have hil : i < ((fl.take i ++ zs.drop i).set i (sm j (suF t.s t.l k i))).length := by rw [List.length_set]; omega
        have rK := su_lt (n := n) hiP hj'
        rw [← hL] at rK
        obtain ⟨ja, hja⟩ : ∃ x, x = j * a := ⟨_, rfl⟩
        obtain ⟨K, hK⟩ : ∃ x, x = fi + ja := ⟨_, rfl⟩
        have eK : i / a * a * n + i % a + j * a = K := by rw [hK, hja, hfi, hqn, hqa, hqq, hrr]
        rw [eK] at rK
        have c3 : (j : Int) * (a : Int) = (ja : Int) := by rw [hja]; push_cast; rfl
        have eV : sm j (suF t.s t.l k i) + t.l.getD K default = sm (j + 1) (suF t.s t.l k i) := by
          show _ = sm j (suF t.s t.l k i) + suF t.s t.l k i j
          rw [hG, eK]
        refine Cw.skip ?_
        refine Pw.thenN (Cw.out ?_)
        refine Cw.seq ?_
        refine Cw.block ?_
        refine Cw.seq ?_
        refine Cw.region ?_
        refine Lw.val (Ex.move rfl) rfl ?_
        refine Lw.val (Ex.assign rfl) rfl ?_
        refine Lw.nil ?_
        refine Pw.thenN (Cw.out ?_)
        refine Cw.tail 17 mixed (by kernel_rfl) ?_
        refine Qw.val (fun w1 hq => Ex.fieldAddr (q := 0) Tryz.underlying29 rfl (sz_27 _) rfl) rfl ?_
        refine Qw.val (fun w1 hq => Ex.ldB (ag_27 _) rfl (Blk.bs (by assumption) hq) rfl) rfl ?_
        refine Qw.val (fun w1 hq => Ex.move rfl) rfl ?_
        refine Qw.val (fun w1 hq => Ex.idxT st_27 rfl rfl (Sl.bs y_m hq) i rfl hil) rfl ?_
        refine Qw.val (fun w1 hq => (Ex.ldT (ag_21 _) rfl (Sl.bs y_m hq) hil).as (congrArg i32 (getD_set (by omega)))) rfl ?_
        refine Qw.val (fun w1 hq => Ex.fieldAddr (q := 0) Tryz.underlying29 rfl (sz_27 _) rfl) rfl ?_
        refine Qw.val (fun w1 hq => Ex.ldB (ag_27 _) rfl (Blk.bs (by assumption) hq) rfl) rfl ?_
        refine Qw.val (fun w1 hq => Ex.move rfl) rfl ?_
        refine Qw.val (fun w1 hq => Ex.move rfl) rfl ?_
        refine Qw.val (fun w1 hq => Ex.ldA (ag_145 _) (sz_145 _) rfl rfl (Blk.bs (by assumption) hq)) rfl ?_
        refine Qw.callF rfl rfl (fun w1 hq => (apartF_c t.x t.s k a w1 (h_t11.bs hq) k1 hk ha).q hq) ?_
        refine Qw.val (fun w1 hq => (Ex.mulI rfl rfl (by omega)).as (congrArg (Value.int .i64) c3)) rfl ?_
        refine Qw.val (fun w1 hq => (Ex.addI rfl rfl (by omega)).as (congrArg (Value.int .i64) (show (fi : Int) + (ja : Int) = (K : Int) by omega))) rfl ?_
        refine Qw.val (fun w1 hq => Ex.idxT st_27 rfl rfl (Sl.bs h_t12 hq) K rfl rK) rfl ?_
        refine Qw.val (fun w1 hq => Ex.ldT (ag_21 _) rfl (Sl.bs h_t12 hq) rK) rfl ?_
        refine Qw.val (fun w1 hq => (Ex.addi32 rfl rfl).as (congrArg i32 eV)) rfl ?_
        refine Qw.val (fun w1 hq => Ex.idxT st_27 rfl rfl (Sl.bs y_m hq) i rfl hil) rfl ?_
        refine Qw.done (fun w15 hq => ?_)
        refine Lw.unit ((M.bs hq).st (sz_21 _) rfl rfl hil) ?_
        rintro w16 ⟨M2, hg2, -⟩
        have hw2 := (M.bs hq).below (hw.trans (hq.mono (by have := hw.size; omega))) (by omega) hg2
        rw [List.set_set] at M2
        refine Lw.nil ?_
        refine Pw.blkN ?_
        refine Pw.thenN (Cw.out ?_)
        refine Cw.region ?_
        refine Lw.val (Ex.addI rfl rfl (by omega)) rfl ?_
        refine Lw.val (Ex.move rfl) rfl ?_
        refine Lw.nil ?_
        exact Pw.thenN (Pw.next (j + 1) ⟨rfl, rfl, rfl, rfl, rfl, rfl, rfl, rfl, rfl, rfl, rfl, trivial⟩ (⟨hj', hw2, M2⟩) (by omega))
      intro h
      have hj' : j = n := by have := of_decide_eq_false h; omega
      subst hj'
      rw [← hF i hiP, td_set n1 hi'] at M
      refine Cw.exit ?_
      refine Pw.thenE ?_
      refine Pw.thenE ?_
      refine Pw.blkHit ?_
      refine Pw.blkN ?_
      refine Pw.thenN (Cw.out ?_)
      refine Cw.region ?_
      refine Lw.val (Ex.addI rfl rfl (by omega)) rfl ?_
      refine Lw.val (Ex.move rfl) rfl ?_
      refine Lw.nil ?_
      exact Pw.thenN (Pw.next (i + 1) ⟨rfl, rfl, rfl, rfl, rfl, rfl, rfl, trivial⟩ (⟨hi', hw, M⟩) (by omega))
    intro h
    have hi' : i = zs.length := by have := of_decide_eq_false h; omega
    subst hi'
    rw [td_all n1, hfl] at M
    have b_m := M.box
    have b_r := b_r.bl hw y_r
    have hB2 := hB.trans (hw.mono (by omega))
    refine Cw.exit ?_
    refine Pw.thenE ?_
    refine Pw.thenE ?_
    refine Pw.blkHit ?_
    refine Pw.thenN (Cw.out ?_)
    refine Cw.seq ?_
    refine Cw.region ?_
    refine Lw.val (Ex.ldA (ag_29 _) (sz_29 _) rfl rfl (by assumption)) rfl ?_
    refine Lw.val (Ex.move rfl) rfl ?_
    refine Lw.unit (Xu.stA (cs := [x, y]) rfl rfl rfl rfl (mine_at M).one b_r rfl) ?_
    rintro w12 ⟨b_r2, hg, -⟩
    have M2 := M.keep hg (by rintro _ ⟨⟩; exact .inl y_r)
    have hB3 := hB2.grown hg (below_size hB2) (by rintro _ ⟨⟩; omega)
    refine Lw.val (Ex.assign rfl) rfl ?_
    refine Lw.nil ?_
    refine Pw.thenN (Cw.out ?_)
    refine Cw.ret ?_
    refine Pw.retCT rfl rfl rfl (by assumption) (Tryz.underlying29) rfl rfl rfl ?_
    exact ⟨hB3, x, y, rfl, fun h => absurd rfl h, fun _ => ⟨M2.row.mono (by omega), .inl (own_mono M2.lst.own (by omega)), M2.yx⟩⟩
  exact absurd okW (by rw [hk']; decide)
end Go.Proofs.YtmipoeanpnnjoaaGreat

/-! Contracts: the kinds of nodes. -/
namespace Go.Proofs.YtmipoeanpnnjoaaGreat
open Go Go.Dd Go.RowKit
set_option maxRecDepth 100000

/-- A row of six numbers. -/
def kv (l : List Int) : Value := .agg (l.map (Value.int .i64)).toArray
/-- The kinds: where each is put in, its number, its row. -/
def kdT : List (Nat × Int × List Int) := [(2, 1, [0, 0, 0, 0, 0, 1]), (4, 2, [0, 0, 0, 0, 0, 1]), (6, 3, [2, 2, 0, 0, 0, 0]), (8, 4, [2, 2, 0, 0, 0, 0]), (10, 7, [2, 2, 0, 0, 0, 0]), (12, 5, [1, 1, 0, 0, 0, 0]), (16, 6, [1, 1, 0, 31, 0, 0]), (18, 8, [2, 2, 1, 8, 8, 0]), (22, 9, [1, 1, 1, 64, 0, 0]), (24, 10, [1, 1, 0, 0, 0, 1]), (26, 11, [1, 1, 0, 0, 0, 2]), (28, 12, [1, 4, 0, 3, 0, 0]), (32, 13, [1, 1, 0, 3, 0, 0])]
def KD (k v : Value) : Prop := ∃ p ∈ kdT, k = .int .u8 p.2.1 ∧ v = kv p.2.2
def KDL (L : Nat → Bool) (k v : Value) : Prop := ∃ p ∈ kdT, L p.1 = true ∧ k = .int .u8 p.2.1 ∧ v = kv p.2.2
def kdI (W : World) (s : Nat) (L : Nat → Bool) (w : World) : Prop := Below W.heap.size W w ∧ (L 0 = true → W.heap.size ≤ s ∧ MapIn w s (.int .u8) (KDL L))
def kdV (f : Value) (s : Nat) : Nat → Value
  | 0 | 33 | 34 => .map (some s)
  | 1 | 3 => kv [0, 0, 0, 0, 0, 1]
  | 5 | 7 | 9 => kv [2, 2, 0, 0, 0, 0]
  | 11 | 14 | 20 | 30 => kv [1, 1, 0, 0, 0, 0]
  | 13 | 19 | 29 => f
  | 15 => kv [1, 1, 0, 31, 0, 0]
  | 17 => kv [2, 2, 1, 8, 8, 0]
  | 21 => kv [1, 1, 1, 64, 0, 0]
  | 23 => kv [1, 1, 0, 0, 0, 1]
  | 25 => kv [1, 1, 0, 0, 0, 2]
  | 27 => kv [1, 4, 0, 3, 0, 0]
  | 31 => kv [1, 1, 0, 3, 0, 0]
  | _ => undef
theorem upd_ne {L : Nat → Bool} {i j : Nat} (h : i ≠ j) : upd L i j = L j := by
  unfold upd
  cases hb : Nat.beq i j with
  | false => rfl
  | true => exact absurd (Nat.eq_of_beq_eq_true hb) h
theorem upd_self {L : Nat → Bool} {i : Nat} : upd L i i = true := by
  unfold upd; rw [Nat.beq_refl]; rfl
/-- An operation that puts nothing in. -/
theorem kd_no {W w w' : World} {s i : Nat} {L : Nat → Bool} (h : kdI W s L w) (g : Below w.heap.size w w') (h0 : i ≠ 0) (hi : ∀ p ∈ kdT, i ≠ p.1) : kdI W s (upd L i) w' := by
  refine ⟨h.1.trans (g.mono (below_size h.1)), fun hl => ?_⟩
  rw [upd_ne h0] at hl
  obtain ⟨h1, h2⟩ := h.2 hl
  refine ⟨h1, (h2.bs g).congr fun k v => ⟨fun ⟨p, hp, q⟩ => ⟨p, hp, by rw [upd_ne (hi p hp)]; exact q⟩, fun ⟨p, hp, q⟩ => ⟨p, hp, by rw [upd_ne (hi p hp)] at q; exact q⟩⟩⟩
/-- One that puts a row in. -/
theorem kd_in {W w w' : World} {s i : Nat} {n : Int} {l : List Int} {L : Nat → Bool} (h : kdI W s L w) (h0 : L 0 = true) (hm : (i, n, l) ∈ kdT) (hu : ∀ p ∈ kdT, p.1 = i → p = (i, n, l)) 
    (g : MapIn w' s (.int .u8) (fun k v => KDL L k v ∨ (k = .int .u8 n ∧ v = kv l)) ∧ w.grownBy w' (some s) ∧ w'.heap.size = w.heap.size) : kdI W s (upd L i) w' := by
  obtain ⟨h1, h2⟩ := h.2 h0
  refine ⟨h.1.grown g.2.1 (below_size h.1) (by rintro _ ⟨⟩; exact h1), fun _ => ⟨h1, g.1.congr fun k v => ⟨?_, ?_⟩⟩⟩
  · rintro (⟨p, hp, hl, hk⟩ | ⟨rfl, rfl⟩)
    · exact ⟨p, hp, by unfold upd; rw [hl, Bool.or_true], hk⟩
    · exact ⟨_, hm, upd_self, rfl, rfl⟩
  · rintro ⟨p, hp, hl, hk, hv⟩
    by_cases e : p.1 = i
    · obtain rfl := hu p hp e
      exact .inr ⟨hk, hv⟩
    · rw [upd_ne (Ne.symm e)] at hl
      exact .inl ⟨p, hp, hl, hk, hv⟩
theorem kd_new {L : Nat → Bool} {i : Nat} {n : Int} (hl : L i = false) (hu : ∀ p ∈ kdT, p.2.1 = n → p.1 = i) : ∀ v, ¬ KDL L (.int .u8 n) v := by
  rintro v ⟨p, hp, h1, h2, -⟩
  have h3 : n = p.2.1 := by cases h2; rfl
  rw [hu p hp h3.symm, hl] at h1; cases h1
theorem kv_one (l : List Int) : (l.map (Value.int .i64)).all (·.oneCell') = true := one_map (fun _ => rfl) l
theorem bt_kind (a b : Int) : Tryz.prog.built 76 [(0, .int .i64 a), (1, .int .i64 b)] = some ([a, b, 0, 0, 0, 0].map (Value.int .i64)).toArray := by
  have h1 : Tryz.prog.info? 76 = some Tryz.t76 := by kernel_rfl
  have h2 : Tryz.prog.info? 3 = some Tryz.t3 := by kernel_rfl
  simp [Program.built, h1, Tryz.underlying76, h2, Instr.fill, Value.cells]
  rfl
theorem with_c (a b lo hi : Int) (w : World) : Fnc Tryz.prog 62 [kv [a, b, 0, 0, 0, 0], .int .i64 lo, .int .i64 hi] w (fun r w' => r = kv [a, b, lo, hi, 0, 0] ∧ Below w.heap.size w w') := by
  have hB := Below.refl w.heap.size w
  refine Fnc.enter (n := 12) Tryz.func62 (by kernel_rfl) rfl rfl rfl ?_
  refine Cw.seq ?_
  refine Cw.region ?_
  obtain ⟨B, hBs⟩ : ∃ B, B = w.heap.size := ⟨_, rfl⟩
  refine Lw.boxV (cs := [a, b, 0, 0, 0, 0].map (Value.int .i64)) rfl rfl rfl ?_
  rintro A_k w eA_k b_k hn -
  replace hB := hB.bs hn
  clear hn
  have zk := blk_lt b_k
  refine Lw.newA it_76 rfl ?_
  rintro A_r w eA_r b_r hn -
  replace hB := hB.bs hn
  replace b_k := b_k.bs hn
  clear hn
  refine Lw.nil ?_
  refine Pw.thenN (Cw.out ?_)
  refine Cw.seq ?_
  refine Cw.region ?_
  refine Lw.val (Ex.move rfl) rfl ?_
  refine Lw.val (Ex.move rfl) rfl ?_
  refine Lw.val (Ex.fieldAddr (q := 0) Tryz.underlying76 rfl (sz_3 _) rfl) rfl ?_
  have zr := blk_lt b_r
  have z0 := below_size hB
  refine Lw.unit (Xu.stB (u := .int .i64 lo) (sz_3 _) rfl rfl rfl b_k (show 2 < 6 by decide)) ?_
  rintro w1 ⟨b_k, hg1, hz1⟩
  have b_r := b_r.by hg1 (by rintro ⟨⟩; omega)
  refine Lw.val (Ex.fieldAddr (q := 0) Tryz.underlying76 rfl (sz_3 _) rfl) rfl ?_
  refine Lw.unit (Xu.stB (u := .int .i64 hi) (sz_3 _) rfl rfl rfl b_k (show 3 < 6 by decide)) ?_
  rintro w2 ⟨b_k, hg2, hz2⟩
  have b_r := b_r.by hg2 (by rintro ⟨⟩; omega)
  have b_k : Blk w2 A_k 76 ([a, b, lo, hi, 0, 0].map (Value.int .i64)) := b_k
  refine Lw.nil ?_
  refine Pw.thenN (Cw.out ?_)
  refine Cw.seq ?_
  refine Cw.region ?_
  refine Lw.val (Ex.ldA (k := 6) (ag_76 _) (sz_76 _) rfl rfl b_k) rfl ?_
  refine Lw.unit (Xu.stA (cs := [a, b, lo, hi, 0, 0].map (Value.int .i64)) (k := 6) (by kernel_rfl) rfl rfl rfl (kv_one _) b_r rfl) ?_
  rintro w3 ⟨b_r, hg3, hz3⟩
  have hB1 := ((hB.grown hg1 z0 (by rintro _ ⟨⟩; omega)).grown hg2 (by omega) (by rintro _ ⟨⟩; omega)).grown hg3 (by omega) (by rintro _ ⟨⟩; omega)
  refine Lw.nil ?_
  refine Pw.thenN (Cw.out ?_)
  refine Cw.ret ?_
  refine Pw.retC rfl rfl (by assumption) (Tryz.underlying76) rfl rfl rfl ?_
  exact ⟨rfl, hB1⟩
set_option maxRecDepth 4000 in
theorem kinds_c (w : World) : Fnc Tryz.prog 35 [] w (fun r w' => Below w.heap.size w w' ∧ ∃ M, r = .map (some M) ∧ w.heap.size ≤ M ∧ MapIn w' M (.int .u8) KD) := by
  have hB := Below.refl w.heap.size w
  refine Fnc.enter (n := 37) Tryz.func35 (by kernel_rfl) rfl rfl rfl ?_
  refine Cw.seq ?_
  refine Cw.region ?_
  refine Lw.val (Ex.assign rfl) rfl ?_
  refine Lw.nil ?_
  refine Pw.thenN (Cw.out ?_)
  refine Cw.seq ?_
  refine Cw.region ?_
  refine Lw.val (Ex.build (vs := [(0, .int .i64 1), (1, .int .i64 1)]) (cs := [1, 1, 0, 0, 0, 0].map (Value.int .i64)) rfl (bt_kind 1 1)) rfl ?_
  refine Lw.val (Ex.build (vs := [(0, .int .i64 2), (1, .int .i64 2)]) (cs := [2, 2, 0, 0, 0, 0].map (Value.int .i64)) rfl (bt_kind 2 2)) rfl ?_
  refine Lw.newA it_76 rfl ?_
  rintro A_one w eA_one b_one hn -
  replace hB := hB.bs hn
  clear hn
  have z1 := blk_lt b_one
  refine Lw.newA it_76 rfl ?_
  rintro A_two w eA_two b_two hn -
  replace hB := hB.bs hn
  replace b_one := b_one.bs hn
  clear hn
  have z2 := blk_lt b_two
  have z0 := below_size hB
  refine Lw.unit (Xu.stA (cs := [1, 1, 0, 0, 0, 0].map (Value.int .i64)) (k := 6) (by kernel_rfl) rfl rfl rfl (kv_one _) b_one rfl) ?_
  rintro w1 ⟨b_one, hg1, hz1⟩
  have b_two := b_two.by hg1 (by rintro ⟨⟩; omega)
  refine Lw.unit (Xu.stA (cs := [2, 2, 0, 0, 0, 0].map (Value.int .i64)) (k := 6) (by kernel_rfl) rfl rfl rfl (kv_one _) b_two rfl) ?_
  rintro w2 ⟨b_two, hg2, hz2⟩
  have b_one := b_one.by hg2 (by rintro ⟨⟩; omega)
  have hB := (hB.grown hg1 z0 (by rintro _ ⟨⟩; omega)).grown hg2 (by omega) (by rintro _ ⟨⟩; omega)
  refine Lw.nil ?_
  refine Pw.thenN (Cw.out ?_)
  refine Cw.seq ?_
  refine Cw.region ?_
  refine Lw.val (Ex.assign rfl) rfl ?_
  refine Lw.nil ?_
  refine Pw.thenN (Cw.out ?_)
  refine Cw.seq ?_
  refine Cw.region ?_
  refine Lw.val (Ex.move rfl) rfl ?_
  refine Lw.val (Ex.ldA (k := 6) (ag_76 _) (sz_76 _) rfl rfl b_two) rfl ?_
  refine Lw.callV (p := []) (q := []) rfl rfl rfl (with_c 2 2 1 8 w2) ?_
  rintro _ w3 ⟨rfl, hn3⟩
  have b_one := b_one.bs hn3
  have b_two := b_two.bs hn3
  have z3 := hn3.size
  have hB := hB.trans (hn3.mono (below_size hB))
  refine Lw.valW (Xw.new it_76) rfl ?_
  rintro _ w4 ⟨rfl, b_win, hn4, hz4⟩
  have b_one := b_one.bs hn4
  have b_two := b_two.bs hn4
  refine Lw.unit (Xu.stA (cs := [2, 2, 1, 8, 0, 0].map (Value.int .i64)) (k := 6) (by kernel_rfl) rfl rfl rfl (kv_one _) b_win rfl) ?_
  rintro w5 ⟨b_win, hg5, hz5⟩
  have b_one := b_one.by hg5 (by rintro ⟨⟩; omega)
  have b_two := b_two.by hg5 (by rintro ⟨⟩; omega)
  have hB := (hB.trans (hn4.mono (below_size hB))).grown hg5 (by omega) (by rintro _ ⟨⟩; omega)
  refine Lw.nil ?_
  refine Pw.thenN (Cw.out ?_)
  refine Cw.seq ?_
  refine Cw.region ?_
  refine Lw.val (Ex.fieldAddr (q := 0) Tryz.underlying76 rfl (sz_3 _) rfl) rfl ?_
  refine Lw.unit (Xu.stB (u := .int .i64 8) (sz_3 _) rfl rfl rfl b_win (show 4 < 6 by decide)) ?_
  rintro w6 ⟨b_win, hg6, hz6⟩
  have b_win : Blk w6 w3.heap.size 76 ([2, 2, 1, 8, 8, 0].map (Value.int .i64)) := b_win
  have b_one := b_one.by hg6 (by rintro ⟨⟩; omega)
  have b_two := b_two.by hg6 (by rintro ⟨⟩; omega)
  have hB := hB.grown hg6 (by omega) (by rintro _ ⟨⟩; omega)
  refine Lw.nil ?_
  refine Pw.thenN (Cw.out ?_)
  refine Cw.seq ?_
  refine Cw.region ?_
  refine Lw.val (Ex.move rfl) rfl ?_
  refine Lw.val (Ex.ldA (k := 6) (ag_76 _) (sz_76 _) rfl rfl b_one) rfl ?_
  refine Lw.callV (p := []) (q := []) rfl rfl rfl (with_c 1 1 0 3 w6) ?_
  rintro _ w7 ⟨rfl, hn7⟩
  have b_one := b_one.bs hn7
  have b_two := b_two.bs hn7
  have b_win := b_win.bs hn7
  have z7 := hn7.size
  have hB := hB.trans (hn7.mono (below_size hB))
  refine Lw.valW (Xw.new it_76) rfl ?_
  rintro _ w8 ⟨rfl, b_join, hn8, hz8⟩
  have b_one := b_one.bs hn8
  have b_two := b_two.bs hn8
  have b_win := b_win.bs hn8
  refine Lw.unit (Xu.stA (cs := [1, 1, 0, 3, 0, 0].map (Value.int .i64)) (k := 6) (by kernel_rfl) rfl rfl rfl (kv_one _) b_join rfl) ?_
  rintro w9 ⟨b_join, hg9, hz9⟩
  have b_one := b_one.by hg9 (by rintro ⟨⟩; omega)
  have b_two := b_two.by hg9 (by rintro ⟨⟩; omega)
  have b_win := b_win.by hg9 (fun e => by have := Option.some.inj e; omega)
  have hB := (hB.trans (hn8.mono (below_size hB))).grown hg9 (by omega) (by rintro _ ⟨⟩; omega)
  refine Lw.nil ?_
  refine Pw.thenN (Cw.out ?_)
  refine Cw.seq ?_
  refine Cw.region ?_
  refine Lw.val (Ex.fieldAddr (q := 0) Tryz.underlying76 rfl (sz_3 _) rfl) rfl ?_
  refine Lw.unit (Xu.stB (u := .int .i64 4) (sz_3 _) rfl rfl rfl b_join (show 1 < 6 by decide)) ?_
  rintro w10 ⟨b_join, hg10, hz10⟩
  have b_join : Blk w10 w7.heap.size 76 ([1, 4, 0, 3, 0, 0].map (Value.int .i64)) := b_join
  have b_one := b_one.by hg10 (by rintro ⟨⟩; omega)
  have b_two := b_two.by hg10 (by rintro ⟨⟩; omega)
  have b_win := b_win.by hg10 (fun e => by have := Option.some.inj e; omega)
  have hB := hB.grown hg10 (by omega) (by rintro _ ⟨⟩; omega)
  refine Lw.nil ?_
  refine Pw.thenN (Cw.out ?_)
  refine Cw.seq ?_
  refine Cw.inv (kdV (.func (.func 62) #[] #[])) (kdI w10) (0) mixed (by kernel_rfl) ?_ ?_ ?_
  · exact fun w' h => ⟨h, fun h => by cases h⟩
  · refine AllOps.cons (fun s L w2 hI hl hd hcl => ?_) ?_
    · refine Ow.mk (Xw.makeMap (d := .int .u8)) ?_
      rintro _ w3 ⟨rfl, hM, hn3, -⟩
      have hno : ∀ k q, nth _ k = some q → 0 ∈ depsOf q → L k = false := fun k q hq h0 => by
        cases hk : L k with
        | false => rfl
        | true => rw [hcl k q hq hk 0 h0] at hl; cases hl
      have n33 := hno 33 _ rfl (by decide)
      have n34 : L 34 = false := by
        cases hk : L 34 with
        | false => rfl
        | true => rw [hcl 34 _ rfl hk 33 (by decide)] at n33; cases n33
      have nin : ∀ p ∈ kdT, L p.1 = false := fun p hp => by
        simp only [kdT, List.mem_cons, List.not_mem_nil, or_false] at hp
        rcases hp with rfl | rfl | rfl | rfl | rfl | rfl | rfl | rfl | rfl | rfl | rfl | rfl | rfl <;> exact hno _ _ rfl (by decide)
      refine ⟨w2.heap.size, ⟨hI.1.trans (hn3.mono (below_size hI.1)), fun _ => ⟨below_size hI.1, hM.congr fun k v => ⟨fun h => h.elim, fun ⟨p, hp, hl, _⟩ => ?_⟩⟩⟩, fun j hj => ?_, fun _ => rfl⟩
      · have hp0 : ∀ p ∈ kdT, (0 : Nat) ≠ p.1 := by decide
        rw [upd_ne (hp0 p hp), nin p hp] at hl; cases hl
      · have j0 : j ≠ 0 := fun e => by rw [e, hl] at hj; cases hj
        have j33 : j ≠ 33 := fun e => by rw [e, n33] at hj; cases hj
        have j34 : j ≠ 34 := fun e => by rw [e, n34] at hj; cases hj
        unfold kdV
        split <;> first | rfl | omega
    refine AllOps.cons (fun s L w2 hI hl hd hcl => ?_) ?_
    · exact Ow.val (Ex.build (vs := [(5, .int .i64 1)]) (cs := [0, 0, 0, 0, 0, 1].map (Value.int .i64)) rfl (by kernel_rfl)) ⟨s, kd_no hI (Below.refl _ _) (by decide) (by decide), fun _ _ => rfl, fun _ => rfl⟩
    refine AllOps.cons (fun s L w2 hI hl hd hcl => ?_) ?_
    · refine Ow.unit (Xu.insert (M := s) (S := KDL L) (k := .int .u8 1) (u := kv [0, 0, 0, 0, 0, 1]) (d := .int .u8) Tryz.underlying71 un_43 rfl rfl rfl rfl (hI.2 (hd 0 (by decide))).2 (kd_new hl (by decide))) ?_
      exact fun w3 g => ⟨s, kd_in (i := 2) (n := 1) (l := [0, 0, 0, 0, 0, 1]) hI (hd 0 (by decide)) (by decide) (by decide) g, fun _ _ => rfl, fun h => by cases h⟩
    refine AllOps.cons (fun s L w2 hI hl hd hcl => ?_) ?_
    · exact Ow.val (Ex.build (vs := [(5, .int .i64 1)]) (cs := [0, 0, 0, 0, 0, 1].map (Value.int .i64)) rfl (by kernel_rfl)) ⟨s, kd_no hI (Below.refl _ _) (by decide) (by decide), fun _ _ => rfl, fun _ => rfl⟩
    refine AllOps.cons (fun s L w2 hI hl hd hcl => ?_) ?_
    · refine Ow.unit (Xu.insert (M := s) (S := KDL L) (k := .int .u8 2) (u := kv [0, 0, 0, 0, 0, 1]) (d := .int .u8) Tryz.underlying71 un_43 rfl rfl rfl rfl (hI.2 (hd 0 (by decide))).2 (kd_new hl (by decide))) ?_
      exact fun w3 g => ⟨s, kd_in (i := 4) (n := 2) (l := [0, 0, 0, 0, 0, 1]) hI (hd 0 (by decide)) (by decide) (by decide) g, fun _ _ => rfl, fun h => by cases h⟩
    refine AllOps.cons (fun s L w2 hI hl hd hcl => ?_) ?_
    · exact Ow.val (Ex.ldA (k := 6) (ag_76 _) (sz_76 _) rfl rfl (b_two.bs hI.1)) ⟨s, kd_no hI (Below.refl _ _) (by decide) (by decide), fun _ _ => rfl, fun _ => rfl⟩
    refine AllOps.cons (fun s L w2 hI hl hd hcl => ?_) ?_
    · refine Ow.unit (Xu.insert (M := s) (S := KDL L) (k := .int .u8 3) (u := kv [2, 2, 0, 0, 0, 0]) (d := .int .u8) Tryz.underlying71 un_43 rfl rfl rfl rfl (hI.2 (hd 0 (by decide))).2 (kd_new hl (by decide))) ?_
      exact fun w3 g => ⟨s, kd_in (i := 6) (n := 3) (l := [2, 2, 0, 0, 0, 0]) hI (hd 0 (by decide)) (by decide) (by decide) g, fun _ _ => rfl, fun h => by cases h⟩
    refine AllOps.cons (fun s L w2 hI hl hd hcl => ?_) ?_
    · exact Ow.val (Ex.ldA (k := 6) (ag_76 _) (sz_76 _) rfl rfl (b_two.bs hI.1)) ⟨s, kd_no hI (Below.refl _ _) (by decide) (by decide), fun _ _ => rfl, fun _ => rfl⟩
    refine AllOps.cons (fun s L w2 hI hl hd hcl => ?_) ?_
    · refine Ow.unit (Xu.insert (M := s) (S := KDL L) (k := .int .u8 4) (u := kv [2, 2, 0, 0, 0, 0]) (d := .int .u8) Tryz.underlying71 un_43 rfl rfl rfl rfl (hI.2 (hd 0 (by decide))).2 (kd_new hl (by decide))) ?_
      exact fun w3 g => ⟨s, kd_in (i := 8) (n := 4) (l := [2, 2, 0, 0, 0, 0]) hI (hd 0 (by decide)) (by decide) (by decide) g, fun _ _ => rfl, fun h => by cases h⟩
    refine AllOps.cons (fun s L w2 hI hl hd hcl => ?_) ?_
    · exact Ow.val (Ex.ldA (k := 6) (ag_76 _) (sz_76 _) rfl rfl (b_two.bs hI.1)) ⟨s, kd_no hI (Below.refl _ _) (by decide) (by decide), fun _ _ => rfl, fun _ => rfl⟩
    refine AllOps.cons (fun s L w2 hI hl hd hcl => ?_) ?_
    · refine Ow.unit (Xu.insert (M := s) (S := KDL L) (k := .int .u8 7) (u := kv [2, 2, 0, 0, 0, 0]) (d := .int .u8) Tryz.underlying71 un_43 rfl rfl rfl rfl (hI.2 (hd 0 (by decide))).2 (kd_new hl (by decide))) ?_
      exact fun w3 g => ⟨s, kd_in (i := 10) (n := 7) (l := [2, 2, 0, 0, 0, 0]) hI (hd 0 (by decide)) (by decide) (by decide) g, fun _ _ => rfl, fun h => by cases h⟩
    refine AllOps.cons (fun s L w2 hI hl hd hcl => ?_) ?_
    · exact Ow.val (Ex.ldA (k := 6) (ag_76 _) (sz_76 _) rfl rfl (b_one.bs hI.1)) ⟨s, kd_no hI (Below.refl _ _) (by decide) (by decide), fun _ _ => rfl, fun _ => rfl⟩
    refine AllOps.cons (fun s L w2 hI hl hd hcl => ?_) ?_
    · refine Ow.unit (Xu.insert (M := s) (S := KDL L) (k := .int .u8 5) (u := kv [1, 1, 0, 0, 0, 0]) (d := .int .u8) Tryz.underlying71 un_43 rfl rfl rfl rfl (hI.2 (hd 0 (by decide))).2 (kd_new hl (by decide))) ?_
      exact fun w3 g => ⟨s, kd_in (i := 12) (n := 5) (l := [1, 1, 0, 0, 0, 0]) hI (hd 0 (by decide)) (by decide) (by decide) g, fun _ _ => rfl, fun h => by cases h⟩
    refine AllOps.cons (fun s L w2 hI hl hd hcl => ?_) ?_
    · exact Ow.val (Ex.move rfl) ⟨s, kd_no hI (Below.refl _ _) (by decide) (by decide), fun _ _ => rfl, fun _ => rfl⟩
    refine AllOps.cons (fun s L w2 hI hl hd hcl => ?_) ?_
    · exact Ow.val (Ex.ldA (k := 6) (ag_76 _) (sz_76 _) rfl rfl (b_one.bs hI.1)) ⟨s, kd_no hI (Below.refl _ _) (by decide) (by decide), fun _ _ => rfl, fun _ => rfl⟩
    refine AllOps.cons (fun s L w2 hI hl hd hcl => ?_) ?_
    · exact Ow.call (Xc.val (p := []) (q := []) (vs := [kv [1, 1, 0, 0, 0, 0], .int .i64 0, .int .i64 31]) (with_c 1 1 0 31 w2).1 rfl rfl) (with_c 1 1 0 31 w2) (fun _ w3 ⟨e, g⟩ => ⟨s, kd_no hI g (by decide) (by decide), fun _ _ => rfl, fun _ => e⟩)
    refine AllOps.cons (fun s L w2 hI hl hd hcl => ?_) ?_
    · refine Ow.unit (Xu.insert (M := s) (S := KDL L) (k := .int .u8 6) (u := kv [1, 1, 0, 31, 0, 0]) (d := .int .u8) Tryz.underlying71 un_43 rfl rfl rfl rfl (hI.2 (hd 0 (by decide))).2 (kd_new hl (by decide))) ?_
      exact fun w3 g => ⟨s, kd_in (i := 16) (n := 6) (l := [1, 1, 0, 31, 0, 0]) hI (hd 0 (by decide)) (by decide) (by decide) g, fun _ _ => rfl, fun h => by cases h⟩
    refine AllOps.cons (fun s L w2 hI hl hd hcl => ?_) ?_
    · exact Ow.val (Ex.ldA (k := 6) (ag_76 _) (sz_76 _) rfl rfl (b_win.bs hI.1)) ⟨s, kd_no hI (Below.refl _ _) (by decide) (by decide), fun _ _ => rfl, fun _ => rfl⟩
    refine AllOps.cons (fun s L w2 hI hl hd hcl => ?_) ?_
    · refine Ow.unit (Xu.insert (M := s) (S := KDL L) (k := .int .u8 8) (u := kv [2, 2, 1, 8, 8, 0]) (d := .int .u8) Tryz.underlying71 un_43 rfl rfl rfl rfl (hI.2 (hd 0 (by decide))).2 (kd_new hl (by decide))) ?_
      exact fun w3 g => ⟨s, kd_in (i := 18) (n := 8) (l := [2, 2, 1, 8, 8, 0]) hI (hd 0 (by decide)) (by decide) (by decide) g, fun _ _ => rfl, fun h => by cases h⟩
    refine AllOps.cons (fun s L w2 hI hl hd hcl => ?_) ?_
    · exact Ow.val (Ex.move rfl) ⟨s, kd_no hI (Below.refl _ _) (by decide) (by decide), fun _ _ => rfl, fun _ => rfl⟩
    refine AllOps.cons (fun s L w2 hI hl hd hcl => ?_) ?_
    · exact Ow.val (Ex.ldA (k := 6) (ag_76 _) (sz_76 _) rfl rfl (b_one.bs hI.1)) ⟨s, kd_no hI (Below.refl _ _) (by decide) (by decide), fun _ _ => rfl, fun _ => rfl⟩
    refine AllOps.cons (fun s L w2 hI hl hd hcl => ?_) ?_
    · exact Ow.call (Xc.val (p := []) (q := []) (vs := [kv [1, 1, 0, 0, 0, 0], .int .i64 1, .int .i64 64]) (with_c 1 1 1 64 w2).1 rfl rfl) (with_c 1 1 1 64 w2) (fun _ w3 ⟨e, g⟩ => ⟨s, kd_no hI g (by decide) (by decide), fun _ _ => rfl, fun _ => e⟩)
    refine AllOps.cons (fun s L w2 hI hl hd hcl => ?_) ?_
    · refine Ow.unit (Xu.insert (M := s) (S := KDL L) (k := .int .u8 9) (u := kv [1, 1, 1, 64, 0, 0]) (d := .int .u8) Tryz.underlying71 un_43 rfl rfl rfl rfl (hI.2 (hd 0 (by decide))).2 (kd_new hl (by decide))) ?_
      exact fun w3 g => ⟨s, kd_in (i := 22) (n := 9) (l := [1, 1, 1, 64, 0, 0]) hI (hd 0 (by decide)) (by decide) (by decide) g, fun _ _ => rfl, fun h => by cases h⟩
    refine AllOps.cons (fun s L w2 hI hl hd hcl => ?_) ?_
    · exact Ow.val (Ex.build (vs := [(0, .int .i64 1), (1, .int .i64 1), (5, .int .i64 1)]) (cs := [1, 1, 0, 0, 0, 1].map (Value.int .i64)) rfl (by kernel_rfl)) ⟨s, kd_no hI (Below.refl _ _) (by decide) (by decide), fun _ _ => rfl, fun _ => rfl⟩
    refine AllOps.cons (fun s L w2 hI hl hd hcl => ?_) ?_
    · refine Ow.unit (Xu.insert (M := s) (S := KDL L) (k := .int .u8 10) (u := kv [1, 1, 0, 0, 0, 1]) (d := .int .u8) Tryz.underlying71 un_43 rfl rfl rfl rfl (hI.2 (hd 0 (by decide))).2 (kd_new hl (by decide))) ?_
      exact fun w3 g => ⟨s, kd_in (i := 24) (n := 10) (l := [1, 1, 0, 0, 0, 1]) hI (hd 0 (by decide)) (by decide) (by decide) g, fun _ _ => rfl, fun h => by cases h⟩
    refine AllOps.cons (fun s L w2 hI hl hd hcl => ?_) ?_
    · exact Ow.val (Ex.build (vs := [(0, .int .i64 1), (1, .int .i64 1), (5, .int .i64 2)]) (cs := [1, 1, 0, 0, 0, 2].map (Value.int .i64)) rfl (by kernel_rfl)) ⟨s, kd_no hI (Below.refl _ _) (by decide) (by decide), fun _ _ => rfl, fun _ => rfl⟩
    refine AllOps.cons (fun s L w2 hI hl hd hcl => ?_) ?_
    · refine Ow.unit (Xu.insert (M := s) (S := KDL L) (k := .int .u8 11) (u := kv [1, 1, 0, 0, 0, 2]) (d := .int .u8) Tryz.underlying71 un_43 rfl rfl rfl rfl (hI.2 (hd 0 (by decide))).2 (kd_new hl (by decide))) ?_
      exact fun w3 g => ⟨s, kd_in (i := 26) (n := 11) (l := [1, 1, 0, 0, 0, 2]) hI (hd 0 (by decide)) (by decide) (by decide) g, fun _ _ => rfl, fun h => by cases h⟩
    refine AllOps.cons (fun s L w2 hI hl hd hcl => ?_) ?_
    · exact Ow.val (Ex.ldA (k := 6) (ag_76 _) (sz_76 _) rfl rfl (b_join.bs hI.1)) ⟨s, kd_no hI (Below.refl _ _) (by decide) (by decide), fun _ _ => rfl, fun _ => rfl⟩
    refine AllOps.cons (fun s L w2 hI hl hd hcl => ?_) ?_
    · refine Ow.unit (Xu.insert (M := s) (S := KDL L) (k := .int .u8 12) (u := kv [1, 4, 0, 3, 0, 0]) (d := .int .u8) Tryz.underlying71 un_43 rfl rfl rfl rfl (hI.2 (hd 0 (by decide))).2 (kd_new hl (by decide))) ?_
      exact fun w3 g => ⟨s, kd_in (i := 28) (n := 12) (l := [1, 4, 0, 3, 0, 0]) hI (hd 0 (by decide)) (by decide) (by decide) g, fun _ _ => rfl, fun h => by cases h⟩
    refine AllOps.cons (fun s L w2 hI hl hd hcl => ?_) ?_
    · exact Ow.val (Ex.move rfl) ⟨s, kd_no hI (Below.refl _ _) (by decide) (by decide), fun _ _ => rfl, fun _ => rfl⟩
    refine AllOps.cons (fun s L w2 hI hl hd hcl => ?_) ?_
    · exact Ow.val (Ex.ldA (k := 6) (ag_76 _) (sz_76 _) rfl rfl (b_one.bs hI.1)) ⟨s, kd_no hI (Below.refl _ _) (by decide) (by decide), fun _ _ => rfl, fun _ => rfl⟩
    refine AllOps.cons (fun s L w2 hI hl hd hcl => ?_) ?_
    · exact Ow.call (Xc.val (p := []) (q := []) (vs := [kv [1, 1, 0, 0, 0, 0], .int .i64 0, .int .i64 3]) (with_c 1 1 0 3 w2).1 rfl rfl) (with_c 1 1 0 3 w2) (fun _ w3 ⟨e, g⟩ => ⟨s, kd_no hI g (by decide) (by decide), fun _ _ => rfl, fun _ => e⟩)
    refine AllOps.cons (fun s L w2 hI hl hd hcl => ?_) ?_
    · refine Ow.unit (Xu.insert (M := s) (S := KDL L) (k := .int .u8 13) (u := kv [1, 1, 0, 3, 0, 0]) (d := .int .u8) Tryz.underlying71 un_43 rfl rfl rfl rfl (hI.2 (hd 0 (by decide))).2 (kd_new hl (by decide))) ?_
      exact fun w3 g => ⟨s, kd_in (i := 32) (n := 13) (l := [1, 1, 0, 3, 0, 0]) hI (hd 0 (by decide)) (by decide) (by decide) g, fun _ _ => rfl, fun h => by cases h⟩
    refine AllOps.cons (fun s L w2 hI hl hd hcl => ?_) ?_
    · exact Ow.val (Ex.move rfl) ⟨s, kd_no hI (Below.refl _ _) (by decide) (by decide), fun _ _ => rfl, fun _ => rfl⟩
    refine AllOps.cons (fun s L w2 hI hl hd hcl => ?_) ?_
    · exact Ow.val (Ex.assign rfl) ⟨s, kd_no hI (Below.refl _ _) (by decide) (by decide), fun _ _ => rfl, fun _ => rfl⟩
    exact AllOps.nil
  intro s L w' hI hall
  have h0 := hI.2 (hall 0 (by decide))
  have h35 : ∀ p ∈ kdT, p.1 < 35 := by decide
  have hM : MapIn w' s (.int .u8) KD := h0.2.congr fun k v => ⟨fun ⟨p, hp, _, h⟩ => ⟨p, hp, h⟩, fun ⟨p, hp, h⟩ => ⟨p, hp, hall p.1 (h35 p hp), h⟩⟩
  have hBF := hB.trans (hI.1.mono (below_size hB))
  have zB := below_size hB
  refine Pw.thenN (Cw.out ?_)
  refine Cw.ret ?_
  refine Pw.ret1 rfl rfl ?_
  exact ⟨hBF, s, rfl, by omega, hM⟩
end Go.Proofs.YtmipoeanpnnjoaaGreat

/-! Contracts: is a node one of a kind; order; the shapes of nodes. -/
namespace Go.Proofs.YtmipoeanpnnjoaaGreat
open Go Go.Dd Go.RowKit
set_option maxRecDepth 100000

/-- A node, and where its lists lie. -/
structure N5 where
  k : BitVec 8
  x : Value
  y : Value
  i : List Int
  s : List Int
  n : Int
  p : Int
def N5.cells (a : N5) : List Value := [b8 a.k, a.x, a.y, .int .i64 a.n, .int .i64 a.p]
abbrev N5.v (a : N5) : Value := .agg a.cells.toArray
structure N5.at (w : World) (a : N5) : Prop where
  i : SlT (Value.int .i64) w a.x a.i
  s : SlT (Value.int .i64) w a.y a.s
theorem N5.at.bs {w w' : World} {a : N5} (h : N5.at w a) (g : Below w.heap.size w w') : N5.at w' a := ⟨h.i.bs g, h.s.bs g⟩
theorem N5.at.ones {w : World} {a : N5} (h : N5.at w a) : a.cells.all (·.oneCell') = true := by
  unfold N5.cells
  rw [List.all_cons, List.all_cons, List.all_cons, h.i.one', h.s.one']; rfl
/-- Whether a list has each number below its length, and is short. -/
def cov (l : List Int) : Bool := (List.range l.length).all fun i => l.contains (i : Int)
theorem cov_iff {l : List Int} : cov l = true ↔ ∀ j, j < l.length → l.contains (j : Int) = true := by
  unfold cov
  rw [List.all_eq_true]
  exact ⟨fun h j hj => h j (List.mem_range.2 hj), fun h j hj => h j (List.mem_range.1 hj)⟩
theorem cov_no {l : List Int} {j : Nat} (hj : j < l.length) (h : l.contains (j : Int) = false) : cov l = false := by
  cases hk : cov l with
  | false => rfl
  | true => rw [cov_iff.1 hk j hj] at h; cases h
def gord (l : List Int) : Bool := cov l && decide (l.length ≤ 4)
def kindB (least most lo hi ar sh : Int) (i s : List Int) (n p : Int) : Bool :=
  !(decide ((i.length : Int) < least) || decide (most < (i.length : Int)) || decide (n < lo) || decide (hi < n) || decide (p < 0) || decide (ar < p)) && (if sh = 0 then decide (s.length = 0) else if sh = 1 then Shapes.ok s else gord s)
theorem gorder_c (v : Value) (l : List Int) (w : World) (hv : SlT (Value.int .i64) w v l) : Fnc Tryz.prog 63 [v] w (fun r w' => r = .bool (gord l) ∧ Below w.heap.size w w') := by
  have hle := hv.le
  refine Fnc.enter (n := 17) Tryz.func63 (by kernel_rfl) rfl rfl rfl ?_
  refine Cw.seq ?_
  refine Cw.region ?_
  refine Lw.val (Ex.assign rfl) rfl ?_
  refine Lw.nil ?_
  refine Pw.thenN (Cw.out ?_)
  refine Cw.seq ?_
  refine Cw.seq ?_
  refine Cw.region ?_
  refine Lw.val (Ex.move rfl) rfl ?_
  refine Lw.val (Ex.lenS st_26 rfl (by assumption)) rfl ?_
  refine Lw.val (Ex.move rfl) rfl ?_
  refine Lw.nil ?_
  refine Pw.thenN (Cw.out ?_)
  refine Cw.block ?_
  refine Cw.loop (S := Nat) (fun i => [(0, v), (5, .int .i64 (l.length : Int)), (6, .int .i64 (i : Int))]) (fun i w' => i ≤ l.length ∧ (∀ j, j < i → l.contains (j : Int) = true) ∧ Below w.heap.size w w') (fun i => l.length - i) (0) ⟨rfl, rfl, rfl, trivial⟩ ?_ ?_
  · exact ⟨Nat.zero_le _, fun _ h => by omega, Below.refl _ _⟩
  rintro i w1 ⟨hi, hC, hB⟩
  have hv1 := hv.bs hB
  refine Cw.seq ?_
  refine Cw.region ?_
  refine Lw.val (Ex.lss rfl rfl) rfl ?_
  refine Lw.nil ?_
  refine Pw.thenN (Cw.out ?_)
  refine Cw.seq ?_
  refine Cw.cond rfl ?_ ?_
  · intro h
    have hi' : i < l.length := by have := of_decide_eq_true h; omega
    refine Cw.skip ?_
    refine Pw.thenN (Cw.out ?_)
    refine Cw.seq ?_
    refine Cw.block ?_
    refine Cw.seq ?_
    refine Cw.region ?_
    refine Lw.val (Ex.move rfl) rfl ?_
    refine Lw.val (Ex.assign rfl) rfl ?_
    refine Lw.nil ?_
    refine Pw.thenN (Cw.out ?_)
    refine Cw.seq ?_
    refine Cw.region ?_
    refine Lw.val (Ex.move rfl) rfl ?_
    refine Lw.val (Ex.move rfl) rfl ?_
    refine Lw.callF rfl rfl (contains_c v l (i : Int) w1 hv1) ?_
    rintro _ w2 ⟨rfl, hn⟩
    have hB2 := hB.trans (hn.mono (below_size hB))
    refine Lw.val (Ex.not rfl) rfl ?_
    refine Lw.nil ?_
    refine Pw.thenN (Cw.out ?_)
    refine Cw.cond rfl ?_ ?_
    · intro g
      have g1 : l.contains (i : Int) = false := by simpa using g
      refine Cw.seq ?_
      refine Cw.region ?_
      refine Lw.val (Ex.assign rfl) rfl ?_
      refine Lw.nil ?_
      refine Pw.thenN (Cw.out ?_)
      refine Cw.ret ?_
      refine Pw.blkR ?_
      refine Pw.thenR ?_
      refine Pw.thenR ?_
      refine Pw.blkR ?_
      refine Pw.thenR ?_
      refine Pw.ret1 rfl rfl ?_
      refine ⟨?_, hB2⟩
      unfold gord; rw [cov_no hi' g1]; rfl
    intro g
    have g1 : l.contains (i : Int) = true := by simpa using g
    refine Cw.skip ?_
    refine Pw.blkN ?_
    refine Pw.thenN (Cw.out ?_)
    refine Cw.region ?_
    refine Lw.val (Ex.addI rfl rfl (by omega)) rfl ?_
    refine Lw.val (Ex.move rfl) rfl ?_
    refine Lw.nil ?_
    exact Pw.thenN (Pw.next (i + 1) ⟨rfl, rfl, rfl, trivial⟩ (⟨hi', fun j hj => (Nat.lt_succ_iff_lt_or_eq.1 hj).elim (hC j) (fun e => e ▸ g1), hB2⟩) (by omega))
  intro h
  have hi' : i = l.length := by have := of_decide_eq_false h; omega
  subst hi'
  have hok : cov l = true := cov_iff.2 hC
  refine Cw.exit ?_
  refine Pw.thenE ?_
  refine Pw.thenE ?_
  refine Pw.blkHit ?_
  refine Pw.thenN (Cw.out ?_)
  refine Cw.seq ?_
  refine Cw.region ?_
  refine Lw.val (Ex.move rfl) rfl ?_
  refine Lw.val (Ex.lenS st_26 rfl (by assumption)) rfl ?_
  refine Lw.val (Ex.leq rfl rfl) rfl ?_
  refine Lw.val (Ex.assign rfl) rfl ?_
  refine Lw.nil ?_
  refine Pw.thenN (Cw.out ?_)
  refine Cw.ret ?_
  refine Pw.ret1 rfl rfl ?_
  refine ⟨?_, hB⟩
  unfold gord; rw [hok, Bool.true_and]; congr 1; exact decide_eq_decide.2 (by omega)
theorem kindOf_c (a b lo hi ar sh : Int) (x : N5) (w : World) (hx : N5.at w x) :
    Fnc Tryz.prog 36 [kv [a, b, lo, hi, ar, sh], x.v] w (fun r w' => r = .bool (kindB a b lo hi ar sh x.i x.s x.n x.p) ∧ Below w.heap.size w w') := by
  have hB := Below.refl w.heap.size w
  have h_i := hx.i
  have h_s := hx.s
  refine Fnc.enter (n := 61) Tryz.func36 (by kernel_rfl) rfl rfl rfl ?_
  refine Cw.seq ?_
  refine Cw.region ?_
  refine Lw.boxV (cs := [a, b, lo, hi, ar, sh].map (Value.int .i64)) rfl rfl rfl ?_
  rintro A_k w eA_k b_k hn -
  replace hB := hB.bs hn
  replace h_i := h_i.bs hn
  replace h_s := h_s.bs hn
  clear hn
  refine Lw.boxV (cs := x.cells) rfl rfl rfl ?_
  rintro A_x w eA_x b_x hn -
  replace hB := hB.bs hn
  replace h_i := h_i.bs hn
  replace h_s := h_s.bs hn
  replace b_k := b_k.bs hn
  clear hn
  refine Lw.val (Ex.assign rfl) rfl ?_
  refine Lw.nil ?_
  refine Pw.thenN (Cw.out ?_)
  refine Cw.seq ?_
  refine Cw.seq ?_
  refine Cw.region ?_
  refine Lw.val (Ex.fieldAddr (q := 0) Tryz.underlying45 rfl (sz_26 _) rfl) rfl ?_
  refine Lw.val (Ex.ldB (ag_26 _) rfl (by assumption) rfl) rfl ?_
  refine Lw.val (Ex.lenS st_26 rfl (by assumption)) rfl ?_
  refine Lw.val (Ex.assign rfl) rfl ?_
  refine Lw.nil ?_
  refine Pw.thenN (Cw.out ?_)
  refine Cw.seq ?_
  refine Cw.region ?_
  refine Lw.val (Ex.move rfl) rfl ?_
  refine Lw.val (Ex.fieldAddr (q := 0) Tryz.underlying76 rfl (sz_3 _) rfl) rfl ?_
  refine Lw.val (Ex.ldB (ag_3 _) rfl (by assumption) rfl) rfl ?_
  refine Lw.val (Ex.lss rfl rfl) rfl ?_
  refine Lw.val (Ex.move rfl) rfl ?_
  refine Lw.part 13 rfl ?_ ?_
  · intro g
    have g := of_decide_eq_true g
    refine Lw.pass (dj := 13) rfl rfl rfl rfl ?_
    refine Lw.pass (dj := 13) rfl rfl rfl rfl ?_
    refine Lw.pass (dj := 13) rfl rfl rfl rfl ?_
    refine Lw.pass (dj := 13) rfl rfl rfl rfl ?_
    refine Lw.val (Ex.pickT rfl rfl) rfl ?_
    refine Lw.val (Ex.move rfl) rfl ?_
    refine Lw.pass (dj := 19) rfl rfl rfl rfl ?_
    refine Lw.pass (dj := 19) rfl rfl rfl rfl ?_
    refine Lw.pass (dj := 19) rfl rfl rfl rfl ?_
    refine Lw.pass (dj := 19) rfl rfl rfl rfl ?_
    refine Lw.pass (dj := 19) rfl rfl rfl rfl ?_
    refine Lw.val (Ex.pickT rfl rfl) rfl ?_
    refine Lw.val (Ex.move rfl) rfl ?_
    refine Lw.pass (dj := 26) rfl rfl rfl rfl ?_
    refine Lw.pass (dj := 26) rfl rfl rfl rfl ?_
    refine Lw.pass (dj := 26) rfl rfl rfl rfl ?_
    refine Lw.pass (dj := 26) rfl rfl rfl rfl ?_
    refine Lw.pass (dj := 26) rfl rfl rfl rfl ?_
    refine Lw.val (Ex.pickT rfl rfl) rfl ?_
    refine Lw.val (Ex.move rfl) rfl ?_
    refine Lw.pass (dj := 33) rfl rfl rfl rfl ?_
    refine Lw.pass (dj := 33) rfl rfl rfl rfl ?_
    refine Lw.pass (dj := 33) rfl rfl rfl rfl ?_
    refine Lw.val (Ex.pickT rfl rfl) rfl ?_
    refine Lw.val (Ex.move rfl) rfl ?_
    refine Lw.pass (dj := 38) rfl rfl rfl rfl ?_
    refine Lw.pass (dj := 38) rfl rfl rfl rfl ?_
    refine Lw.pass (dj := 38) rfl rfl rfl rfl ?_
    refine Lw.pass (dj := 38) rfl rfl rfl rfl ?_
    refine Lw.pass (dj := 38) rfl rfl rfl rfl ?_
    refine Lw.val (Ex.pickT rfl rfl) rfl ?_
    refine Lw.nil ?_
    refine Pw.thenN (Cw.out ?_)
    refine Cw.condT rfl ?_
    refine Cw.seq ?_
    refine Cw.region ?_
    refine Lw.val (Ex.assign rfl) rfl ?_
    refine Lw.nil ?_
    refine Pw.thenN (Cw.out ?_)
    refine Cw.ret ?_
    refine Pw.thenR ?_
    refine Pw.ret1 rfl rfl ?_
    refine ⟨?_, hB⟩
    unfold kindB
    simp [g]
  intro g1
  have g1 := of_decide_eq_false g1
  refine Lw.take (dj := 13) rfl rfl ?_
  refine Lw.val (Ex.move rfl) rfl ?_
  refine Lw.take (dj := 13) rfl rfl ?_
  refine Lw.val (Ex.fieldAddr (q := 0) Tryz.underlying76 rfl (sz_3 _) rfl) rfl ?_
  refine Lw.take (dj := 13) rfl rfl ?_
  refine Lw.val (Ex.ldB (ag_3 _) rfl (by assumption) rfl) rfl ?_
  refine Lw.take (dj := 13) rfl rfl ?_
  refine Lw.val (Ex.gtr rfl rfl) rfl ?_
  refine Lw.val (Ex.pickF rfl rfl) rfl ?_
  refine Lw.val (Ex.move rfl) rfl ?_
  refine Lw.part 19 rfl ?_ ?_
  · intro g
    have g := of_decide_eq_true g
    refine Lw.pass (dj := 19) rfl rfl rfl rfl ?_
    refine Lw.pass (dj := 19) rfl rfl rfl rfl ?_
    refine Lw.pass (dj := 19) rfl rfl rfl rfl ?_
    refine Lw.pass (dj := 19) rfl rfl rfl rfl ?_
    refine Lw.pass (dj := 19) rfl rfl rfl rfl ?_
    refine Lw.val (Ex.pickT rfl rfl) rfl ?_
    refine Lw.val (Ex.move rfl) rfl ?_
    refine Lw.pass (dj := 26) rfl rfl rfl rfl ?_
    refine Lw.pass (dj := 26) rfl rfl rfl rfl ?_
    refine Lw.pass (dj := 26) rfl rfl rfl rfl ?_
    refine Lw.pass (dj := 26) rfl rfl rfl rfl ?_
    refine Lw.pass (dj := 26) rfl rfl rfl rfl ?_
    refine Lw.val (Ex.pickT rfl rfl) rfl ?_
    refine Lw.val (Ex.move rfl) rfl ?_
    refine Lw.pass (dj := 33) rfl rfl rfl rfl ?_
    refine Lw.pass (dj := 33) rfl rfl rfl rfl ?_
    refine Lw.pass (dj := 33) rfl rfl rfl rfl ?_
    refine Lw.val (Ex.pickT rfl rfl) rfl ?_
    refine Lw.val (Ex.move rfl) rfl ?_
    refine Lw.pass (dj := 38) rfl rfl rfl rfl ?_
    refine Lw.pass (dj := 38) rfl rfl rfl rfl ?_
    refine Lw.pass (dj := 38) rfl rfl rfl rfl ?_
    refine Lw.pass (dj := 38) rfl rfl rfl rfl ?_
    refine Lw.pass (dj := 38) rfl rfl rfl rfl ?_
    refine Lw.val (Ex.pickT rfl rfl) rfl ?_
    refine Lw.nil ?_
    refine Pw.thenN (Cw.out ?_)
    refine Cw.condT rfl ?_
    refine Cw.seq ?_
    refine Cw.region ?_
    refine Lw.val (Ex.assign rfl) rfl ?_
    refine Lw.nil ?_
    refine Pw.thenN (Cw.out ?_)
    refine Cw.ret ?_
    refine Pw.thenR ?_
    refine Pw.ret1 rfl rfl ?_
    refine ⟨?_, hB⟩
    unfold kindB
    simp [g]
  intro g2
  have g2 := of_decide_eq_false g2
  refine Lw.take (dj := 19) rfl rfl ?_
  refine Lw.val (Ex.fieldAddr (q := 0) Tryz.underlying45 rfl (sz_3 _) rfl) rfl ?_
  refine Lw.take (dj := 19) rfl rfl ?_
  refine Lw.val (Ex.ldB (ag_3 _) rfl (by assumption) rfl) rfl ?_
  refine Lw.take (dj := 19) rfl rfl ?_
  refine Lw.val (Ex.fieldAddr (q := 0) Tryz.underlying76 rfl (sz_3 _) rfl) rfl ?_
  refine Lw.take (dj := 19) rfl rfl ?_
  refine Lw.val (Ex.ldB (ag_3 _) rfl (by assumption) rfl) rfl ?_
  refine Lw.take (dj := 19) rfl rfl ?_
  refine Lw.val (Ex.lss rfl rfl) rfl ?_
  refine Lw.val (Ex.pickF rfl rfl) rfl ?_
  refine Lw.val (Ex.move rfl) rfl ?_
  refine Lw.part 26 rfl ?_ ?_
  · intro g
    have g := of_decide_eq_true g
    refine Lw.pass (dj := 26) rfl rfl rfl rfl ?_
    refine Lw.pass (dj := 26) rfl rfl rfl rfl ?_
    refine Lw.pass (dj := 26) rfl rfl rfl rfl ?_
    refine Lw.pass (dj := 26) rfl rfl rfl rfl ?_
    refine Lw.pass (dj := 26) rfl rfl rfl rfl ?_
    refine Lw.val (Ex.pickT rfl rfl) rfl ?_
    refine Lw.val (Ex.move rfl) rfl ?_
    refine Lw.pass (dj := 33) rfl rfl rfl rfl ?_
    refine Lw.pass (dj := 33) rfl rfl rfl rfl ?_
    refine Lw.pass (dj := 33) rfl rfl rfl rfl ?_
    refine Lw.val (Ex.pickT rfl rfl) rfl ?_
    refine Lw.val (Ex.move rfl) rfl ?_
    refine Lw.pass (dj := 38) rfl rfl rfl rfl ?_
    refine Lw.pass (dj := 38) rfl rfl rfl rfl ?_
    refine Lw.pass (dj := 38) rfl rfl rfl rfl ?_
    refine Lw.pass (dj := 38) rfl rfl rfl rfl ?_
    refine Lw.pass (dj := 38) rfl rfl rfl rfl ?_
    refine Lw.val (Ex.pickT rfl rfl) rfl ?_
    refine Lw.nil ?_
    refine Pw.thenN (Cw.out ?_)
    refine Cw.condT rfl ?_
    refine Cw.seq ?_
    refine Cw.region ?_
    refine Lw.val (Ex.assign rfl) rfl ?_
    refine Lw.nil ?_
    refine Pw.thenN (Cw.out ?_)
    refine Cw.ret ?_
    refine Pw.thenR ?_
    refine Pw.ret1 rfl rfl ?_
    refine ⟨?_, hB⟩
    unfold kindB
    simp [g]
  intro g3
  have g3 := of_decide_eq_false g3
  refine Lw.take (dj := 26) rfl rfl ?_
  refine Lw.val (Ex.fieldAddr (q := 0) Tryz.underlying45 rfl (sz_3 _) rfl) rfl ?_
  refine Lw.take (dj := 26) rfl rfl ?_
  refine Lw.val (Ex.ldB (ag_3 _) rfl (by assumption) rfl) rfl ?_
  refine Lw.take (dj := 26) rfl rfl ?_
  refine Lw.val (Ex.fieldAddr (q := 0) Tryz.underlying76 rfl (sz_3 _) rfl) rfl ?_
  refine Lw.take (dj := 26) rfl rfl ?_
  refine Lw.val (Ex.ldB (ag_3 _) rfl (by assumption) rfl) rfl ?_
  refine Lw.take (dj := 26) rfl rfl ?_
  refine Lw.val (Ex.gtr rfl rfl) rfl ?_
  refine Lw.val (Ex.pickF rfl rfl) rfl ?_
  refine Lw.val (Ex.move rfl) rfl ?_
  refine Lw.part 33 rfl ?_ ?_
  · intro g
    have g := of_decide_eq_true g
    refine Lw.pass (dj := 33) rfl rfl rfl rfl ?_
    refine Lw.pass (dj := 33) rfl rfl rfl rfl ?_
    refine Lw.pass (dj := 33) rfl rfl rfl rfl ?_
    refine Lw.val (Ex.pickT rfl rfl) rfl ?_
    refine Lw.val (Ex.move rfl) rfl ?_
    refine Lw.pass (dj := 38) rfl rfl rfl rfl ?_
    refine Lw.pass (dj := 38) rfl rfl rfl rfl ?_
    refine Lw.pass (dj := 38) rfl rfl rfl rfl ?_
    refine Lw.pass (dj := 38) rfl rfl rfl rfl ?_
    refine Lw.pass (dj := 38) rfl rfl rfl rfl ?_
    refine Lw.val (Ex.pickT rfl rfl) rfl ?_
    refine Lw.nil ?_
    refine Pw.thenN (Cw.out ?_)
    refine Cw.condT rfl ?_
    refine Cw.seq ?_
    refine Cw.region ?_
    refine Lw.val (Ex.assign rfl) rfl ?_
    refine Lw.nil ?_
    refine Pw.thenN (Cw.out ?_)
    refine Cw.ret ?_
    refine Pw.thenR ?_
    refine Pw.ret1 rfl rfl ?_
    refine ⟨?_, hB⟩
    unfold kindB
    simp [g]
  intro g4
  have g4 := of_decide_eq_false g4
  refine Lw.take (dj := 33) rfl rfl ?_
  refine Lw.val (Ex.fieldAddr (q := 0) Tryz.underlying45 rfl (sz_3 _) rfl) rfl ?_
  refine Lw.take (dj := 33) rfl rfl ?_
  refine Lw.val (Ex.ldB (ag_3 _) rfl (by assumption) rfl) rfl ?_
  refine Lw.take (dj := 33) rfl rfl ?_
  refine Lw.val (Ex.lss rfl rfl) rfl ?_
  refine Lw.val (Ex.pickF rfl rfl) rfl ?_
  refine Lw.val (Ex.move rfl) rfl ?_
  refine Lw.part 38 rfl ?_ ?_
  · intro g
    have g := of_decide_eq_true g
    refine Lw.pass (dj := 38) rfl rfl rfl rfl ?_
    refine Lw.pass (dj := 38) rfl rfl rfl rfl ?_
    refine Lw.pass (dj := 38) rfl rfl rfl rfl ?_
    refine Lw.pass (dj := 38) rfl rfl rfl rfl ?_
    refine Lw.pass (dj := 38) rfl rfl rfl rfl ?_
    refine Lw.val (Ex.pickT rfl rfl) rfl ?_
    refine Lw.nil ?_
    refine Pw.thenN (Cw.out ?_)
    refine Cw.condT rfl ?_
    refine Cw.seq ?_
    refine Cw.region ?_
    refine Lw.val (Ex.assign rfl) rfl ?_
    refine Lw.nil ?_
    refine Pw.thenN (Cw.out ?_)
    refine Cw.ret ?_
    refine Pw.thenR ?_
    refine Pw.ret1 rfl rfl ?_
    refine ⟨?_, hB⟩
    unfold kindB
    simp [g]
  intro g5
  have g5 := of_decide_eq_false g5
  refine Lw.take (dj := 38) rfl rfl ?_
  refine Lw.val (Ex.fieldAddr (q := 0) Tryz.underlying45 rfl (sz_3 _) rfl) rfl ?_
  refine Lw.take (dj := 38) rfl rfl ?_
  refine Lw.val (Ex.ldB (ag_3 _) rfl (by assumption) rfl) rfl ?_
  refine Lw.take (dj := 38) rfl rfl ?_
  refine Lw.val (Ex.fieldAddr (q := 0) Tryz.underlying76 rfl (sz_3 _) rfl) rfl ?_
  refine Lw.take (dj := 38) rfl rfl ?_
  refine Lw.val (Ex.ldB (ag_3 _) rfl (by assumption) rfl) rfl ?_
  refine Lw.take (dj := 38) rfl rfl ?_
  refine Lw.val (Ex.gtr rfl rfl) rfl ?_
  refine Lw.val (Ex.pickF rfl rfl) rfl ?_
  refine Lw.nil ?_
  refine Pw.thenN (Cw.out ?_)
  refine Cw.cond rfl ?_ ?_
  · intro g
    have g := of_decide_eq_true g
    refine Cw.seq ?_
    refine Cw.region ?_
    refine Lw.val (Ex.assign rfl) rfl ?_
    refine Lw.nil ?_
    refine Pw.thenN (Cw.out ?_)
    refine Cw.ret ?_
    refine Pw.thenR ?_
    refine Pw.ret1 rfl rfl ?_
    refine ⟨?_, hB⟩
    unfold kindB
    simp [g]
  intro g6
  have g6 := of_decide_eq_false g6
  have e : kindB a b lo hi ar sh x.i x.s x.n x.p = if sh = 0 then decide (x.s.length = 0) else if sh = 1 then Shapes.ok x.s else gord x.s := by
    unfold kindB
    rw [decide_eq_false g1, decide_eq_false g2, decide_eq_false g3, decide_eq_false g4, decide_eq_false g5, decide_eq_false g6]; rfl
  rw [e]
  refine Cw.skip ?_
  refine Pw.thenN (Cw.out ?_)
  refine Cw.seq ?_
  refine Cw.seq ?_
  refine Cw.region ?_
  refine Lw.val (Ex.fieldAddr (q := 0) Tryz.underlying76 rfl (sz_3 _) rfl) rfl ?_
  refine Lw.val (Ex.ldB (ag_3 _) rfl (by assumption) rfl) rfl ?_
  refine Lw.nil ?_
  refine Pw.thenN (Cw.out ?_)
  refine Cw.block ?_
  refine Cw.seq ?_
  refine Cw.region ?_
  refine Lw.val (Ex.eql rfl rfl) rfl ?_
  refine Lw.val (Ex.assign rfl) rfl ?_
  refine Lw.nil ?_
  refine Pw.thenN (Cw.out ?_)
  refine Cw.cond rfl ?_ ?_
  · intro g
    have g := of_decide_eq_true g
    refine Cw.seq ?_
    refine Cw.region ?_
    refine Lw.val (Ex.fieldAddr (q := 0) Tryz.underlying45 rfl (sz_26 _) rfl) rfl ?_
    refine Lw.val (Ex.ldB (ag_26 _) rfl (by assumption) rfl) rfl ?_
    refine Lw.val (Ex.lenS st_26 rfl (by assumption)) rfl ?_
    refine Lw.val (Ex.eql rfl rfl) rfl ?_
    refine Lw.val (Ex.assign rfl) rfl ?_
    refine Lw.nil ?_
    refine Pw.thenN (Cw.out ?_)
    refine Cw.ret ?_
    refine Pw.blkR ?_
    refine Pw.thenR ?_
    refine Pw.ret1 rfl rfl ?_
    refine ⟨?_, hB⟩
    rw [if_pos g]; congr 1; exact decide_eq_decide.2 (by omega)
  intro g7
  have g7 := of_decide_eq_false g7
  rw [if_neg g7]
  refine Cw.seq ?_
  refine Cw.region ?_
  refine Lw.val (Ex.eql rfl rfl) rfl ?_
  refine Lw.val (Ex.assign rfl) rfl ?_
  refine Lw.nil ?_
  refine Pw.thenN (Cw.out ?_)
  refine Cw.cond rfl ?_ ?_
  · intro g
    have g := of_decide_eq_true g
    rw [if_pos g]
    refine Cw.seq ?_
    refine Cw.region ?_
    refine Lw.val (Ex.fieldAddr (q := 0) Tryz.underlying45 rfl (sz_26 _) rfl) rfl ?_
    refine Lw.val (Ex.ldB (ag_26 _) rfl (by assumption) rfl) rfl ?_
    refine Lw.callF rfl rfl (check_c x.y x.s w h_s) ?_
    rintro _ w ⟨rfl, hn⟩
    refine Lw.val (Ex.assign rfl) rfl ?_
    refine Lw.nil ?_
    refine Pw.thenN (Cw.out ?_)
    refine Cw.ret ?_
    refine Pw.blkR ?_
    refine Pw.thenR ?_
    refine Pw.ret1 rfl rfl ?_
    exact ⟨rfl, bt hB hn⟩
  intro g8
  have g8 := of_decide_eq_false g8
  rw [if_neg g8]
  refine Cw.skip ?_
  refine Pw.blkN ?_
  refine Pw.thenN (Cw.out ?_)
  refine Cw.seq ?_
  refine Cw.region ?_
  refine Lw.val (Ex.fieldAddr (q := 0) Tryz.underlying45 rfl (sz_26 _) rfl) rfl ?_
  refine Lw.val (Ex.ldB (ag_26 _) rfl (by assumption) rfl) rfl ?_
  refine Lw.callF rfl rfl (gorder_c x.y x.s w h_s) ?_
  rintro _ w ⟨rfl, hn⟩
  refine Lw.val (Ex.assign rfl) rfl ?_
  refine Lw.nil ?_
  refine Pw.thenN (Cw.out ?_)
  refine Cw.ret ?_
  refine Pw.ret1 rfl rfl ?_
  exact ⟨rfl, bt hB hn⟩
end Go.Proofs.YtmipoeanpnnjoaaGreat

/-! Contracts: shapes without a direction, turned, joined. -/
namespace Go.Proofs.YtmipoeanpnnjoaaGreat
open Go Go.Dd Go.RowKit
set_option maxRecDepth 100000

theorem del_c (v : Value) (l : List Int) (i B : Nat) (w : World) (ho : w.ownsRow B 3 1 v l.length (l.map (Value.int .i64))) (hi : i < l.length) (hB : B ≤ w.heap.size) (hl : l.length ≤ 1000000) :
    Fnc Tryz.prog 100 [v, .int .i64 (i : Int), .int .i64 ((i + 1 : Nat) : Int)] w (fun r w' => w'.ownsRow B 3 1 r (l.eraseIdx i).length ((l.eraseIdx i).map (Value.int .i64)) ∧ Below B w w') := by
  have hsl := own_sl ho
  obtain ⟨b, cap0, -, eg, -, -⟩ : ∃ b cap, v = .slice (some ⟨b, 0, none⟩) l.length cap ∧ v.ownBlock = some b ∧ True ∧ True := by
    rcases ho.2 with ⟨_, h0⟩ | ⟨g, cap, cur, rfl, -⟩
    · omega
    · exact ⟨g, cap, rfl, rfl, trivial, trivial⟩
  obtain ⟨cap, cur, rfl, hb, htk, h1, h2, h3, h4⟩ := own_cells ho eg
  rw [Nat.mul_one] at htk h3
  have hsl : SlT (Value.int .i64) w (.slice (some ⟨b, 0, none⟩) l.length cap) l := hsl
  have hsd := SlT.drop hsl (show i + 1 ≤ l.length by omega)
  obtain ⟨news, hnews⟩ : ∃ news, news = (l.drop (i + 1)).map (Value.int .i64) := ⟨_, rfl⟩
  have ln : news.length = l.length - (i + 1) := by rw [hnews, List.length_map, List.length_drop]
  have hsd : Sl w 1 (cut (.slice (some ⟨b, 0, none⟩) l.length cap) 1 (i + 1) l.length) (l.length - (i + 1)) news := by
    have := hsd; unfold SlT at this
    rwa [List.length_drop, ← hnews] at this
  have hcut : cut (.slice (some ⟨b, 0, none⟩) l.length cap) 1 0 i = .slice (some ⟨b, 0, none⟩) i cap := by
    unfold cut
    simp only [Nat.sub_zero]
    split
    · rfl
    · simp [add_lit]
  refine Fnc.enter (n := 33) Tryz.func100 (by kernel_rfl) rfl rfl rfl ?_
  refine Cw.seq ?_
  refine Cw.region ?_
  refine Lw.val (Ex.assign rfl) rfl ?_
  refine Lw.nil ?_
  refine Pw.thenN (Cw.out ?_)
  refine Cw.seq ?_
  refine Cw.region ?_
  refine Lw.val (Ex.move rfl) rfl ?_
  refine Lw.val (Ex.move rfl) rfl ?_
  refine Lw.val (Ex.move rfl) rfl ?_
  refine Lw.val (Ex.move rfl) rfl ?_
  refine Lw.val (Ex.lenS st_26 rfl (by assumption)) rfl ?_
  refine Lw.valW (Xw.cut3 st_26 rfl rfl rfl rfl (by omega) (by omega) h1) rfl ?_
  rintro _ w rfl
  refine Lw.nil ?_
  refine Pw.thenN (Cw.out ?_)
  refine Cw.seq ?_
  refine Cw.seq ?_
  refine Cw.region ?_
  refine Lw.val (Ex.move rfl) rfl ?_
  refine Lw.val (Ex.move rfl) rfl ?_
  refine Lw.val (Ex.as (Ex.eql rfl rfl) (congrArg Value.bool (decide_eq_false (by omega)))) rfl ?_
  refine Lw.nil ?_
  refine Pw.thenN (Cw.out ?_)
  refine Cw.condB rfl false (rfl) ?_
  refine Cw.skip ?_
  refine Pw.thenN (Cw.out ?_)
  refine Cw.seq ?_
  refine Cw.region ?_
  refine Lw.val (Ex.move rfl) rfl ?_
  refine Lw.val (Ex.lenS st_26 rfl (by assumption)) rfl ?_
  refine Lw.val (Ex.assign rfl) rfl ?_
  refine Lw.nil ?_
  refine Pw.thenN (Cw.out ?_)
  refine Cw.seq ?_
  refine Cw.tail 6 mixed (by kernel_rfl) ?_
  refine Qw.val (fun w1 hq => Ex.move rfl) rfl ?_
  refine Qw.val (fun w1 hq => Ex.move rfl) rfl ?_
  refine Qw.val (fun w1 hq => Ex.as (Ex.cutHv st_26 rfl rfl hsl.shp (by omega)) hcut) rfl ?_
  refine Qw.val (fun w1 hq => Ex.move rfl) rfl ?_
  refine Qw.val (fun w1 hq => Ex.move rfl) rfl ?_
  refine Qw.val (fun w1 hq => Ex.cutLv (i := i + 1) st_26 rfl rfl hsl.shp (by omega)) rfl ?_
  refine Qw.done (fun w1 hq => ?_)
  refine Lw.valW (Xw.appRoom st_26 it_3 rfl rfl (hb.bs hq) h3 (hsd.bs hq) (by rw [hnews]; exact one_map (fun _ => rfl) _) (by omega)) rfl ?_
  rintro _ w2 ⟨rfl, hb2, hg2, hz2⟩
  have e1 : i + (l.length - (i + 1)) = l.length - 1 := by omega
  rw [e1]
  have l2 : (spl cur i news).length = cap := by rw [spl_len (by omega)]; exact h3
  have b2 : (l.length : Int) = ((l.length - 1 + 1 : Nat) : Int) := by omega
  refine Lw.val (Ex.assign rfl) rfl ?_
  refine Lw.nil ?_
  refine Pw.thenN (Cw.out ?_)
  refine Cw.seq ?_
  refine Cw.region ?_
  refine Lw.val (Ex.move rfl) rfl ?_
  refine Lw.val (Ex.move rfl) rfl ?_
  refine Lw.val (Ex.lenS st_26 rfl (own_sl (own_back (base := B) (sz := 1) hb2 (by rw [Nat.mul_one]; exact l2) (by omega) h2 h4))) rfl ?_
  refine Lw.val (Ex.move rfl) rfl ?_
  refine Lw.val (Ex.cutLHc st_26 rfl rfl rfl (show l.length - 1 ≤ l.length by omega) h1 (by omega)) rfl ?_
  have m1 : l.length - (l.length - 1) = 0 + 1 := by omega
  rw [m1]
  refine Lw.valU (Xw.clear (m := 0) st_26 it_3 rfl rfl hb2 (by omega)) ?_
  rintro _ w3 ⟨hb3, hg3, hz3⟩
  have ln1 : ((l.eraseIdx i).length) = l.length - 1 := by rw [List.length_eraseIdx, if_pos hi]
  have hcells : (spl (spl cur i news) (l.length - 1) (List.replicate (0 + 1) (Value.int .i64 0))).take ((l.length - 1) * 1) = (l.eraseIdx i).map (Value.int .i64) := by
    have e3 : spl (spl cur i news) (l.length - 1) (List.replicate (0 + 1) (Value.int .i64 0)) = (spl cur i news).take (l.length - 1) ++ (List.replicate (0 + 1) (Value.int .i64 0) ++ (spl cur i news).drop (l.length - 1 + 1)) := by simp [spl]
    rw [Nat.mul_one, e3, List.take_left' (by rw [List.length_take]; omega)]
    have e4 : spl cur i news = (cur.take i ++ news) ++ cur.drop (i + news.length) := by simp [spl]
    rw [e4, List.take_left' (by rw [List.length_append, List.length_take]; omega)]
    have e5 : cur.take i = (l.take i).map (Value.int .i64) := by
      have := congrArg (List.take i) htk
      rw [List.take_take, Nat.min_eq_left (by omega)] at this
      rw [this, List.map_take]
    rw [e5, hnews, ← List.map_append, List.eraseIdx_eq_take_drop_succ]
  have hF := own_back (base := B) (sz := 1) (n := l.length - 1) hb3 (by rw [Nat.mul_one, spl_len (by simp; omega)]; exact l2) (by omega) h2 h4
  rw [hcells] at hF
  refine Lw.nil ?_
  refine Pw.thenN (Cw.out ?_)
  refine Cw.seq ?_
  refine Cw.region ?_
  refine Lw.val (Ex.move rfl) rfl ?_
  refine Lw.val (Ex.assign rfl) rfl ?_
  refine Lw.nil ?_
  refine Pw.thenN (Cw.out ?_)
  refine Cw.ret ?_
  refine Pw.ret1 rfl rfl ?_
  rw [ln1]
  exact ⟨hF, (((Below.refl B w).trans (hq.mono hB)).grown hg2 (by have := hq.size; omega) (by rintro _ ⟨⟩; exact h4)).grown hg3 (by have := hq.size; omega) (by rintro _ ⟨⟩; exact h4)⟩

/-! ### Without a direction -/
def woG (s : List Int) (k : Int) : List Int := if (s.length : Int) ≤ k then [] else if s.length = 1 then [1] else s.eraseIdx k.toNat
theorem gwithout_c (u : Value) (s : List Int) (k : Int) (w : World) (hu : SlT (Value.int .i64) w u s) (hk : 0 ≤ k) (hl : s.length ≤ 1000000) :
    Fnc Tryz.prog 70 [u, .int .i64 k] w (fun r w' => SlT (Value.int .i64) w' r (woG s k) ∧ Below w.heap.size w w') := by
  refine Fnc.enter (n := 21) Tryz.func70 (by kernel_rfl) rfl rfl rfl ?_
  refine Cw.seq ?_
  refine Cw.region ?_
  refine Lw.val (Ex.assign rfl) rfl ?_
  refine Lw.nil ?_
  refine Pw.thenN (Cw.out ?_)
  refine Cw.seq ?_
  refine Cw.block ?_
  refine Cw.seq ?_
  refine Cw.region ?_
  refine Lw.val (Ex.move rfl) rfl ?_
  refine Lw.val (Ex.move rfl) rfl ?_
  refine Lw.val (Ex.lenS st_26 rfl (by assumption)) rfl ?_
  refine Lw.val (Ex.geq rfl rfl) rfl ?_
  refine Lw.val (Ex.assign rfl) rfl ?_
  refine Lw.nil ?_
  refine Pw.thenN (Cw.out ?_)
  refine Cw.cond rfl ?_ ?_
  · intro g
    have g := of_decide_eq_true g
    refine Cw.seq ?_
    refine Cw.region ?_
    refine Lw.val (Ex.assign rfl) rfl ?_
    refine Lw.nil ?_
    refine Pw.thenN (Cw.out ?_)
    refine Cw.ret ?_
    refine Pw.blkR ?_
    refine Pw.thenR ?_
    refine Pw.ret1 rfl rfl ?_
    exact ⟨by rw [woG, if_pos (by omega)]; exact Sl.nil _ _, Below.refl _ _⟩
  intro g
  have g := of_decide_eq_false g
  refine Cw.seq ?_
  refine Cw.region ?_
  refine Lw.val (Ex.move rfl) rfl ?_
  refine Lw.val (Ex.lenS st_26 rfl (by assumption)) rfl ?_
  refine Lw.val (Ex.eql rfl rfl) rfl ?_
  refine Lw.val (Ex.assign rfl) rfl ?_
  refine Lw.nil ?_
  refine Pw.thenN (Cw.out ?_)
  refine Cw.cond rfl ?_ ?_
  · intro g2
    have g2 := of_decide_eq_true g2
    refine Cw.seq ?_
    refine Cw.region ?_
    refine Lw.valW (Xw.lit (vs := [(1 : Int)].map (Value.int .i64)) st_26 it_3 rfl rfl rfl rfl rfl) rfl ?_
    rintro v w1 ⟨o_v, -, hn, -⟩
    refine Lw.val (Ex.assign rfl) rfl ?_
    refine Lw.nil ?_
    refine Pw.thenN (Cw.out ?_)
    refine Cw.ret ?_
    refine Pw.blkR ?_
    refine Pw.thenR ?_
    refine Pw.ret1 rfl rfl ?_
    exact ⟨by rw [woG, if_neg (by omega), if_pos (by omega)]; exact own_slT o_v, hn⟩
  intro g2
  have g2 := of_decide_eq_false g2
  obtain ⟨i, rfl⟩ : ∃ i : Nat, k = (i : Int) := ⟨k.toNat, by omega⟩
  refine Cw.skip ?_
  refine Pw.blkN ?_
  refine Pw.thenN (Cw.out ?_)
  refine Cw.seq ?_
  refine Cw.region ?_
  refine Lw.val (Ex.move rfl) rfl ?_
  refine Lw.callF rfl rfl (clone_c u s w hu (by omega)) ?_
  rintro v w1 ⟨o_v, hn⟩
  refine Lw.val (Ex.move rfl) rfl ?_
  refine Lw.val (Ex.move rfl) rfl ?_
  refine Lw.val (Ex.as (Ex.addI rfl rfl (by omega)) (congrArg (Value.int .i64) (show (i : Int) + 1 = ((i + 1 : Nat) : Int) by omega))) rfl ?_
  refine Lw.callF rfl rfl (del_c v s i w.heap.size w1 o_v (by omega) hn.size hl) ?_
  rintro r w2 ⟨o_r, hn2⟩
  refine Lw.val (Ex.assign rfl) rfl ?_
  refine Lw.nil ?_
  refine Pw.thenN (Cw.out ?_)
  refine Cw.ret ?_
  refine Pw.ret1 rfl rfl ?_
  refine ⟨?_, hn.trans hn2⟩
  rw [woG, if_neg (by omega), if_neg (by omega), Int.toNat_natCast]
  exact own_slT o_r

/-! ### Turned -/
def trnG (s o : List Int) : List Int := if s.length = o.length then o.map (fun k => s.getD k.toNat default) else []
theorem gturned_c (u v : Value) (s o : List Int) (w : World) (hu : SlT (Value.int .i64) w u s) (hv : SlT (Value.int .i64) w v o) (ho : ∀ k ∈ o, 0 ≤ k ∧ k < (o.length : Int)) (hl : o.length ≤ 1000000) :
    Fnc Tryz.prog 68 [u, v] w (fun r w' => SlT (Value.int .i64) w' r (trnG s o) ∧ Below w.heap.size w w') := by
  refine Fnc.enter (n := 27) Tryz.func68 (by kernel_rfl) rfl rfl rfl ?_
  refine Cw.seq ?_
  refine Cw.region ?_
  refine Lw.val (Ex.assign rfl) rfl ?_
  refine Lw.nil ?_
  refine Pw.thenN (Cw.out ?_)
  refine Cw.seq ?_
  refine Cw.seq ?_
  refine Cw.region ?_
  refine Lw.val (Ex.move rfl) rfl ?_
  refine Lw.val (Ex.lenS st_26 rfl (by assumption)) rfl ?_
  refine Lw.val (Ex.move rfl) rfl ?_
  refine Lw.val (Ex.lenS st_26 rfl (by assumption)) rfl ?_
  refine Lw.val (Ex.neq rfl rfl) rfl ?_
  refine Lw.nil ?_
  refine Pw.thenN (Cw.out ?_)
  refine Cw.cond rfl ?_ ?_
  · intro g
    have g1 : ¬ s.length = o.length := fun e => by rw [e] at g; simp at g
    refine Cw.seq ?_
    refine Cw.region ?_
    refine Lw.val (Ex.assign rfl) rfl ?_
    refine Lw.nil ?_
    refine Pw.thenN (Cw.out ?_)
    refine Cw.ret ?_
    refine Pw.thenR ?_
    refine Pw.ret1 rfl rfl ?_
    exact ⟨by rw [trnG, if_neg g1]; exact Sl.nil _ _, Below.refl _ _⟩
  intro g
  have g1 : s.length = o.length := by simp at g; omega
  refine Cw.skip ?_
  refine Pw.thenN (Cw.out ?_)
  refine Cw.seq ?_
  refine Cw.seq ?_
  refine Cw.region ?_
  refine Lw.val (Ex.move rfl) rfl ?_
  refine Lw.val (Ex.lenS st_26 rfl (by assumption)) rfl ?_
  refine Lw.val (Ex.move rfl) rfl ?_
  refine Lw.nil ?_
  refine Pw.thenN (Cw.out ?_)
  refine Cw.block ?_
  refine Cw.loop (S := (Nat × Value)) (fun z => [(0, u), (1, v), (4, z.2), (12, v), (13, .int .i64 (o.length : Int)), (14, .int .i64 (z.1 : Int))]) (fun z w' => z.1 ≤ o.length ∧ Below w.heap.size w w' ∧ w'.ownsRow w.heap.size 3 1 z.2 z.1 (((o.take z.1).map (fun k => s.getD k.toNat default)).map (Value.int .i64))) (fun z => o.length - z.1) ((0, .slice none 0 0)) ⟨rfl, rfl, rfl, rfl, rfl, rfl, trivial⟩ ?_ ?_
  · exact ⟨Nat.zero_le _, Below.refl _ _, ⟨rfl, .inl ⟨rfl, rfl⟩⟩⟩
  rintro ⟨i, r⟩ w1 ⟨hi, hB, o_r⟩
  dsimp only at hi hB o_r ⊢
  have hu1 := hu.bs hB
  have hv1 := hv.bs hB
  refine Cw.seq ?_
  refine Cw.region ?_
  refine Lw.val (Ex.lss rfl rfl) rfl ?_
  refine Lw.nil ?_
  refine Pw.thenN (Cw.out ?_)
  refine Cw.seq ?_
  refine Cw.cond rfl ?_ ?_
  · intro h
    have hi' : i < o.length := by have := of_decide_eq_true h; omega
    obtain ⟨k, hk⟩ : ∃ k, k = o.getD i default := ⟨_, rfl⟩
    have hkm : k ∈ o := by rw [hk, List.getD_eq_getElem?_getD, List.getElem?_eq_getElem hi']; exact List.getElem_mem hi'
    have hkb := ho k hkm
    refine Cw.skip ?_
    refine Pw.thenN (Cw.out ?_)
    refine Cw.seq ?_
    refine Cw.block ?_
    refine Cw.seq ?_
    refine Cw.region ?_
    refine Lw.val (Ex.idxT st_26 rfl rfl (by assumption) _ rfl (by omega)) rfl ?_
    refine Lw.val (Ex.as (Ex.ldT (ag_3 _) rfl hv1 hi') (congrArg (Value.int .i64) hk.symm)) rfl ?_
    refine Lw.val (Ex.assign rfl) rfl ?_
    refine Lw.nil ?_
    refine Pw.thenN (Cw.out ?_)
    refine Cw.region ?_
    refine Lw.val (Ex.move rfl) rfl ?_
    refine Lw.val (Ex.move rfl) rfl ?_
    refine Lw.val (Ex.move rfl) rfl ?_
    refine Lw.val (Ex.idxT st_26 rfl rfl hu1 k.toNat (by omega) (by omega)) rfl ?_
    refine Lw.val (Ex.ldT (ag_3 _) rfl hu1 (show k.toNat < s.length by omega)) rfl ?_
    refine Lw.valW (Xw.lit (vs := [s.getD k.toNat default].map (Value.int .i64)) st_26 it_3 rfl rfl rfl rfl rfl) rfl ?_
    rintro q w2 ⟨o_q, -, hn, -⟩
    have hB2 := hB.trans (hn.mono (below_size hB))
    have z1 := below_size hB
    have z2 := hn.size
    refine Lw.valW (Xw.append (base := w.heap.size) st_26 it_3 rfl (by decide) rfl rfl (own_bs o_r hn) (own_sl o_q) (one_map (fun _ => rfl) _) (by omega) (by omega) (by omega)) rfl ?_
    rintro r' w3 ⟨o_r', hb3, -⟩
    have e1 : ((o.take i).map (fun k => s.getD k.toNat default)).map (Value.int .i64) ++ [s.getD k.toNat default].map (Value.int .i64) = ((o.take (i + 1)).map (fun k => s.getD k.toNat default)).map (Value.int .i64) := by
      rw [List.take_succ_eq_append_getElem hi', List.map_append, List.map_append]
      have : o[i] = k := by rw [hk, List.getD_eq_getElem?_getD, List.getElem?_eq_getElem hi']; rfl
      rw [this]; rfl
    rw [e1] at o_r'
    refine Lw.val (Ex.assign rfl) rfl ?_
    refine Lw.nil ?_
    refine Pw.blkN ?_
    refine Pw.thenN (Cw.out ?_)
    refine Cw.region ?_
    refine Lw.val (Ex.addI rfl rfl (by omega)) rfl ?_
    refine Lw.val (Ex.move rfl) rfl ?_
    refine Lw.nil ?_
    exact Pw.thenN (Pw.next ((i + 1, r')) ⟨rfl, rfl, rfl, rfl, rfl, rfl, trivial⟩ (⟨hi', hB2.trans hb3, o_r'⟩) (by simp only; omega))
  intro h
  have hi' : i = o.length := by have := of_decide_eq_false h; omega
  subst hi'
  rw [List.take_length] at o_r
  refine Cw.exit ?_
  refine Pw.thenE ?_
  refine Pw.thenE ?_
  refine Pw.blkHit ?_
  refine Pw.thenN (Cw.out ?_)
  refine Cw.seq ?_
  refine Cw.region ?_
  refine Lw.val (Ex.move rfl) rfl ?_
  refine Lw.val (Ex.assign rfl) rfl ?_
  refine Lw.nil ?_
  refine Pw.thenN (Cw.out ?_)
  refine Cw.ret ?_
  refine Pw.ret1 rfl rfl ?_
  refine ⟨?_, hB⟩
  rw [trnG, if_pos g1]
  exact own_slT o_r

/-! ### Joined -/
/-- Lists of whole numbers, in memory. -/
structure LI (w : World) (v : Value) (ps : List (Value × List Int)) : Prop where
  sl : SlT (fun p : Value × List Int => p.1) w v ps
  each : ∀ p ∈ ps, SlT (Value.int .i64) w p.1 p.2
theorem LI.bs {w w' : World} {v : Value} {ps : List (Value × List Int)} (h : LI w v ps) (g : Below w.heap.size w w') : LI w' v ps := ⟨h.sl.bs g, fun p hp => (h.each p hp).bs g⟩
abbrev ints2 (ps : List (Value × List Int)) : List (List Int) := ps.map (·.2)
def jn1 (k : Nat) (s x : List Int) : Option (List Int) := if x.length = s.length ∧ k < s.length ∧ (∀ m, m < s.length → m ≠ k → s.getD m default = x.getD m default) then some (s.set k (s.getD k default + x.getD k default)) else none
def jnR (k : Nat) : List Int → List (List Int) → Option (List Int)
  | s, [] => some s
  | s, x :: r => match jn1 k s x with
    | some s' => jnR k s' r
    | none => none
def jnG (l : List (List Int)) (k : Nat) : List Int := match jnR k (l.headD []) l.tail with
  | some s => if k < s.length then s else []
  | none => []
theorem spl_set {l : List Int} {j : Nat} {z : Int} (h : j < l.length) : spl (l.map (Value.int .i64)) j [.int .i64 z] = (l.set j z).map (Value.int .i64) := by
  rw [spl_one (by rw [List.length_map]; exact h), List.map_set]
theorem getD_mem {l : List Int} {j : Nat} (h : j < l.length) : l.getD j default ∈ l := by
  rw [List.getD_eq_getElem?_getD, List.getElem?_eq_getElem h]; exact List.getElem_mem h
theorem gjoined_c (v : Value) (ps : List (Value × List Int)) (k : Nat) (w : World) (h : LI w v ps) (h0 : 0 < ps.length) (h4 : ps.length ≤ 4) (hb : ∀ p ∈ ps, p.2.length ≤ 4 ∧ ∀ x ∈ p.2, 0 ≤ x ∧ x ≤ 64) :
    Fnc Tryz.prog 69 [v, .int .i64 (k : Int)] w (fun r w' => SlT (Value.int .i64) w' r (jnG (ints2 ps) k) ∧ Below w.heap.size w w') := by
  obtain ⟨p0, rest, rfl⟩ : ∃ p0 rest, ps = p0 :: rest := by
    cases ps with
    | nil => simp at h0
    | cons p0 rest => exact ⟨p0, rest, rfl⟩
  have s_0 := h.each p0 (by simp)
  have b_0 := hb p0 (by simp)
  have hsl := h.sl
  have hrest : SlT (fun p : Value × List Int => p.1) w (cut v 1 1 (rest.length + 1)) rest := SlT.drop h.sl (show 1 ≤ (p0 :: rest).length by simp)
  have hjn : ∀ s, jnR k p0.2 (ints2 rest) = some s → jnG (ints2 (p0 :: rest)) k = if k < s.length then s else [] := fun s hs => by
    show (match jnR k p0.2 (ints2 rest) with | some s => if k < s.length then s else [] | none => []) = _
    rw [hs]
  have hjnN : jnR k p0.2 (ints2 rest) = none → jnG (ints2 (p0 :: rest)) k = [] := fun hs => by
    show (match jnR k p0.2 (ints2 rest) with | some s => if k < s.length then s else [] | none => []) = _
    rw [hs]
  obtain ⟨s0, hs0⟩ : ∃ s0, s0 = p0.2 := ⟨_, rfl⟩
  rw [← hs0] at s_0 b_0 hjn hjnN
  obtain ⟨RES, hRES⟩ : ∃ RES, RES = jnG (ints2 (p0 :: rest)) k := ⟨_, rfl⟩
  rw [← hRES] at hjn hjnN ⊢
  simp only [List.length_cons] at h4
  refine Fnc.enter (n := 64) Tryz.func69 (by kernel_rfl) rfl rfl rfl ?_
  refine Cw.seq ?_
  refine Cw.region ?_
  refine Lw.val (Ex.assign rfl) rfl ?_
  refine Lw.nil ?_
  refine Pw.thenN (Cw.out ?_)
  refine Cw.seq ?_
  refine Cw.region ?_
  refine Lw.val (Ex.move rfl) rfl ?_
  refine Lw.val (Ex.idxT st_39 rfl rfl hsl 0 rfl (by simp)) rfl ?_
  refine Lw.val (Ex.as (Ex.ldT (ag_26 _) rfl hsl (show 0 < (p0 :: rest).length by simp)) rfl) rfl ?_
  refine Lw.callF rfl rfl (clone_c p0.1 s0 w s_0 (by omega)) ?_
  rintro u w1 ⟨o_u, hn1⟩
  have ub := own_block o_u
  have hrest1 := hrest.bs hn1
  refine Lw.val (Ex.assign rfl) rfl ?_
  refine Lw.nil ?_
  refine Pw.thenN (Cw.out ?_)
  refine Cw.seq ?_
  refine Cw.seq ?_
  refine Cw.region ?_
  refine Lw.val (Ex.move rfl) rfl ?_
  refine Lw.val (Ex.as (Ex.cutLv (i := 1) st_39 rfl rfl (hsl.bs hn1).shp (by simp)) rfl) rfl ?_
  refine Lw.val (Ex.lenS st_39 rfl hrest1) rfl ?_
  refine Lw.val (Ex.move rfl) rfl ?_
  refine Lw.nil ?_
  refine Pw.thenN (Cw.out ?_)
  refine Cw.block ?_
  refine Cw.loop (S := (Nat × List Int)) (fun z => [(0, v), (1, .int .i64 (k : Int)), (5, u), (15, cut v 1 1 (rest.length + 1)), (16, .int .i64 (rest.length : Int)), (17, .int .i64 (z.1 : Int))]) (fun z w' => z.1 ≤ rest.length ∧ Below w.heap.size w w' ∧ w'.ownsRow w.heap.size 3 1 u z.2.length (z.2.map (Value.int .i64)) ∧ jnR k z.2 (ints2 (rest.drop z.1)) = jnR k s0 (ints2 rest) ∧ z.2.length ≤ 4 ∧ (∀ m, m < z.2.length → 0 ≤ z.2.getD m default ∧ z.2.getD m default ≤ 64 * ((z.1 : Int) + 1))) (fun z => rest.length - z.1) ((0, s0)) ⟨rfl, rfl, rfl, rfl, rfl, rfl, trivial⟩ ?_ ?_
  · exact ⟨Nat.zero_le _, hn1, o_u, rfl, b_0.1, fun m hm => ⟨(b_0.2 _ (getD_mem hm)).1, by have := (b_0.2 _ (getD_mem hm)).2; simp only; omega⟩⟩
  clear o_u
  rintro ⟨i, s⟩ w2 ⟨hi, hB, o_u, hj, hs4, hsb⟩
  dsimp only at hi hB o_u hj hs4 hsb ⊢
  have hrest2 := hrest.bs hB
  have s_u : SlT (Value.int .i64) w2 u s := own_slT o_u
  refine Cw.seq ?_
  refine Cw.region ?_
  refine Lw.val (Ex.lss rfl rfl) rfl ?_
  refine Lw.nil ?_
  refine Pw.thenN (Cw.out ?_)
  refine Cw.seq ?_
  refine Cw.cond rfl ?_ ?_
  · intro g
    have hi' : i < rest.length := by have := of_decide_eq_true g; omega
    obtain ⟨p, hp⟩ : ∃ p, p = rest[i] := ⟨_, rfl⟩
    have hpm : p ∈ p0 :: rest := List.mem_cons_of_mem _ (by rw [hp]; exact List.getElem_mem hi')
    have s_x := (h.each p hpm).bs hB
    obtain ⟨x, hx⟩ : ∃ x, x = p.2 := ⟨_, rfl⟩
    have b_x := hb p hpm
    rw [← hx] at s_x b_x
    have eg : (rest.getD i default).1 = p.1 := by rw [hp, List.getD_eq_getElem?_getD, List.getElem?_eq_getElem hi']; rfl
    have ed : ints2 (rest.drop i) = x :: ints2 (rest.drop (i + 1)) := by rw [List.drop_eq_getElem_cons hi', ints2, List.map_cons, ← hp, ← hx]
    have hst : jnR k s0 (ints2 rest) = match jn1 k s x with | some s' => jnR k s' (ints2 (rest.drop (i + 1))) | none => none := by rw [← hj, ed]; rfl
    have hno : jn1 k s x = none → RES = [] := fun e => hjnN (by rw [hst, e])
    refine Cw.skip ?_
    refine Pw.thenN (Cw.out ?_)
    refine Cw.seq ?_
    refine Cw.block ?_
    refine Cw.seq ?_
    refine Cw.region ?_
    refine Lw.val (Ex.idxT st_39 rfl rfl hrest2 i rfl hi') rfl ?_
    refine Lw.val (Ex.as (Ex.ldT (ag_26 _) rfl hrest2 hi') eg) rfl ?_
    refine Lw.val (Ex.assign rfl) rfl ?_
    refine Lw.nil ?_
    refine Pw.thenN (Cw.out ?_)
    refine Cw.seq ?_
    refine Cw.seq ?_
    refine Cw.region ?_
    refine Lw.val (Ex.move rfl) rfl ?_
    refine Lw.val (Ex.lenS st_26 rfl (by assumption)) rfl ?_
    refine Lw.val (Ex.move rfl) rfl ?_
    refine Lw.val (Ex.lenS st_26 rfl (by assumption)) rfl ?_
    refine Lw.val (Ex.neq rfl rfl) rfl ?_
    refine Lw.val (Ex.move rfl) rfl ?_
    refine Lw.part 26 rfl ?_ ?_
    · intro g1
      have g1 : ¬ x.length = s.length := fun e => by rw [e] at g1; simp at g1
      refine Lw.pass (dj := 26) rfl rfl rfl rfl ?_
      refine Lw.pass (dj := 26) rfl rfl rfl rfl ?_
      refine Lw.pass (dj := 26) rfl rfl rfl rfl ?_
      refine Lw.pass (dj := 26) rfl rfl rfl rfl ?_
      refine Lw.val (Ex.pickT rfl rfl) rfl ?_
      refine Lw.nil ?_
      refine Pw.thenN (Cw.out ?_)
      refine Cw.condT rfl ?_
      refine Cw.seq ?_
      refine Cw.region ?_
      refine Lw.val (Ex.assign rfl) rfl ?_
      refine Lw.nil ?_
      refine Pw.thenN (Cw.out ?_)
      refine Cw.ret ?_
      refine Pw.thenR ?_
      refine Pw.blkR ?_
      refine Pw.thenR ?_
      refine Pw.thenR ?_
      refine Pw.blkR ?_
      refine Pw.thenR ?_
      refine Pw.ret1 rfl rfl ?_
      exact ⟨by rw [hno (by unfold jn1; rw [if_neg (fun h => g1 h.1)])]; exact Sl.nil _ _, hB⟩
    intro g1
    have g1 : x.length = s.length := by simp at g1; omega
    refine Lw.take (dj := 26) rfl rfl ?_
    refine Lw.val (Ex.move rfl) rfl ?_
    refine Lw.take (dj := 26) rfl rfl ?_
    refine Lw.val (Ex.move rfl) rfl ?_
    refine Lw.take (dj := 26) rfl rfl ?_
    refine Lw.val (Ex.lenS st_26 rfl (by assumption)) rfl ?_
    refine Lw.take (dj := 26) rfl rfl ?_
    refine Lw.val (Ex.geq rfl rfl) rfl ?_
    refine Lw.val (Ex.pickF rfl rfl) rfl ?_
    refine Lw.nil ?_
    refine Pw.thenN (Cw.out ?_)
    refine Cw.cond rfl ?_ ?_
    · intro g2
      have g2 : ¬ k < s.length := by have := of_decide_eq_true g2; omega
      refine Cw.seq ?_
      refine Cw.region ?_
      refine Lw.val (Ex.assign rfl) rfl ?_
      refine Lw.nil ?_
      refine Pw.thenN (Cw.out ?_)
      refine Cw.ret ?_
      refine Pw.thenR ?_
      refine Pw.blkR ?_
      refine Pw.thenR ?_
      refine Pw.thenR ?_
      refine Pw.blkR ?_
      refine Pw.thenR ?_
      refine Pw.ret1 rfl rfl ?_
      exact ⟨by rw [hno (by unfold jn1; rw [if_neg (fun h => g2 h.2.1)])]; exact Sl.nil _ _, hB⟩
    intro g2
    have g2 : k < s.length := by have := of_decide_eq_false g2; omega
    have bk := hsb k g2
    have xk := b_x.2 _ (getD_mem (show k < x.length by omega))
    refine Cw.skip ?_
    refine Pw.thenN (Cw.out ?_)
    refine Cw.seq ?_
    refine Cw.region ?_
    refine Lw.val (Ex.move rfl) rfl ?_
    refine Lw.val (Ex.lenS st_26 rfl (by assumption)) rfl ?_
    refine Lw.val (Ex.move rfl) rfl ?_
    refine Lw.nil ?_
    refine Pw.thenN (Cw.out ?_)
    refine Cw.block ?_
    refine Cw.loop (S := (Nat × List Int)) (fun y => [(0, v), (1, .int .i64 (k : Int)), (5, u), (7, p.1), (15, cut v 1 1 (rest.length + 1)), (16, .int .i64 (rest.length : Int)), (17, .int .i64 (i : Int)), (32, p.1), (33, .int .i64 (x.length : Int)), (34, .int .i64 (y.1 : Int))]) (fun y w' => y.1 ≤ x.length ∧ Below w.heap.size w w' ∧ w'.ownsRow w.heap.size 3 1 u y.2.length (y.2.map (Value.int .i64)) ∧ y.2 = (if k < y.1 then s.set k (s.getD k default + x.getD k default) else s) ∧ (∀ m, m < y.1 → m ≠ k → s.getD m default = x.getD m default)) (fun y => x.length - y.1) ((0, s)) ⟨rfl, rfl, rfl, rfl, rfl, rfl, rfl, rfl, rfl, rfl, trivial⟩ ?_ ?_
    · exact ⟨Nat.zero_le _, hB, o_u, by rw [if_neg (by omega)], fun _ h => by omega⟩
    clear o_u s_u s_x hrest2
    rintro ⟨j, s'⟩ w3 ⟨hjx, hB3, o_u, hs', hm⟩
    dsimp only at hjx hB3 o_u hs' hm ⊢
    have s_x := (h.each p hpm).bs hB3
    rw [← hx] at s_x
    have ls' : s'.length = s.length := by rw [hs']; split <;> simp
    refine Cw.seq ?_
    refine Cw.region ?_
    refine Lw.val (Ex.lss rfl rfl) rfl ?_
    refine Lw.nil ?_
    refine Pw.thenN (Cw.out ?_)
    refine Cw.seq ?_
    refine Cw.cond rfl ?_ ?_
    · intro g3
      have hjx' : j < x.length := by have := of_decide_eq_true g3; omega
      obtain ⟨gb, _, -, egb, -, hgb⟩ : ∃ gb cap, u = .slice (some ⟨gb, 0, none⟩) s'.length cap ∧ u.ownBlock = some gb ∧ True ∧ w.heap.size ≤ gb := by
        rcases o_u.2 with ⟨_, h0⟩ | ⟨g, cap, cur, rfl, hbb, -⟩
        · omega
        · exact ⟨g, cap, rfl, rfl, trivial, hbb⟩
      have e_j : s'.getD j default = s.getD j default := by
        rw [hs']
        split
        · rw [List.getD_eq_getElem?_getD, List.getElem?_set_ne (by omega), ← List.getD_eq_getElem?_getD]
        · rfl
      have cj : (s'.map (Value.int .i64))[j * 1]? = some (.int .i64 (s.getD j default)) := by
        rw [Nat.mul_one, List.getElem?_map, List.getElem?_eq_getElem (by omega), ← e_j, List.getD_eq_getElem?_getD, List.getElem?_eq_getElem (by omega)]; rfl
      refine Cw.skip ?_
      refine Pw.thenN (Cw.out ?_)
      refine Cw.seq ?_
      refine Cw.block ?_
      refine Cw.seq ?_
      refine Cw.region ?_
      refine Lw.val (Ex.move rfl) rfl ?_
      refine Lw.val (Ex.idxT st_26 rfl rfl (by assumption) _ rfl (by omega)) rfl ?_
      refine Lw.val (Ex.ldT (ag_3 _) rfl (by assumption) (by omega)) rfl ?_
      refine Lw.val (Ex.assign rfl) rfl ?_
      refine Lw.val (Ex.assign rfl) rfl ?_
      refine Lw.nil ?_
      refine Pw.thenN (Cw.out ?_)
      refine Cw.block ?_
      refine Cw.seq ?_
      refine Cw.region ?_
      refine Lw.val (Ex.move rfl) rfl ?_
      refine Lw.val (Ex.move rfl) rfl ?_
      refine Lw.val (Ex.eql rfl rfl) rfl ?_
      refine Lw.val (Ex.assign rfl) rfl ?_
      refine Lw.nil ?_
      refine Pw.thenN (Cw.out ?_)
      refine Cw.cond rfl ?_ ?_
      · intro g4
        have g4 : j = k := by have := of_decide_eq_true g4; omega
        subst g4
        refine Cw.region ?_
        refine Lw.val (Ex.move rfl) rfl ?_
        refine Lw.val (Ex.move rfl) rfl ?_
        refine Lw.val (Ex.idxO st_26 rfl rfl o_u egb j rfl (by omega)) rfl ?_
        refine Lw.val (Ex.ldO (ag_3 _) rfl o_u egb cj) rfl ?_
        refine Lw.val (Ex.move rfl) rfl ?_
        refine Lw.val (Ex.addI rfl rfl (by omega)) rfl ?_
        refine Lw.val (Ex.idxO st_26 rfl rfl o_u egb j rfl (by omega)) rfl ?_
        refine Lw.unit (Xu.stO1 (sz_3 _) rfl rfl rfl o_u egb (show j * 1 < _ by rw [List.length_map]; omega)) ?_
        rintro w4 ⟨o_u4, hg, hz⟩
        rw [Nat.mul_one, spl_set (by omega)] at o_u4
        have hB4 := hB3.grown hg (below_size hB3) (by rintro _ e; cases e; exact hgb)
        refine Lw.nil ?_
        refine Pw.blkN ?_
        refine Pw.blkN ?_
        refine Pw.thenN (Cw.out ?_)
        refine Cw.region ?_
        refine Lw.val (Ex.addI rfl rfl (by omega)) rfl ?_
        refine Lw.val (Ex.move rfl) rfl ?_
        refine Lw.nil ?_
        exact Pw.thenN (Pw.next ((j + 1, s'.set j (s.getD j default + x.getD j default))) ⟨rfl, rfl, rfl, rfl, rfl, rfl, rfl, rfl, rfl, rfl, trivial⟩ (⟨hjx', hB4, by rw [List.length_set]; exact o_u4, by rw [if_pos (by omega), hs', if_neg (by omega)], fun m h1 h2 => hm m (by omega) h2⟩) (by simp only; omega))
      intro g4
      have g4 : j ≠ k := by have := of_decide_eq_false g4; omega
      refine Cw.seq ?_
      refine Cw.region ?_
      refine Lw.val (Ex.move rfl) rfl ?_
      refine Lw.val (Ex.move rfl) rfl ?_
      refine Lw.val (Ex.idxO st_26 rfl rfl o_u egb j rfl (by omega)) rfl ?_
      refine Lw.val (Ex.ldO (ag_3 _) rfl o_u egb cj) rfl ?_
      refine Lw.val (Ex.move rfl) rfl ?_
      refine Lw.val (Ex.neq rfl rfl) rfl ?_
      refine Lw.val (Ex.assign rfl) rfl ?_
      refine Lw.nil ?_
      refine Pw.thenN (Cw.out ?_)
      refine Cw.cond rfl ?_ ?_
      · intro g5
        have g5 : ¬ s.getD j default = x.getD j default := fun e => by rw [e] at g5; simp at g5
        refine Cw.seq ?_
        refine Cw.region ?_
        refine Lw.val (Ex.assign rfl) rfl ?_
        refine Lw.nil ?_
        refine Pw.thenN (Cw.out ?_)
        refine Cw.ret ?_
        refine Pw.blkR ?_
        refine Pw.blkR ?_
        refine Pw.thenR ?_
        refine Pw.thenR ?_
        refine Pw.blkR ?_
        refine Pw.blkR ?_
        refine Pw.thenR ?_
        refine Pw.thenR ?_
        refine Pw.blkR ?_
        refine Pw.thenR ?_
        refine Pw.ret1 rfl rfl ?_
        exact ⟨by rw [hno (by unfold jn1; rw [if_neg (fun h => g5 (h.2.2 j (by omega) g4))])]; exact Sl.nil _ _, hB3⟩
      intro g5
      have g5 : s.getD j default = x.getD j default := by simpa using g5
      refine Cw.skip ?_
      refine Pw.blkN ?_
      refine Pw.blkN ?_
      refine Pw.thenN (Cw.out ?_)
      refine Cw.region ?_
      refine Lw.val (Ex.addI rfl rfl (by omega)) rfl ?_
      refine Lw.val (Ex.move rfl) rfl ?_
      refine Lw.nil ?_
      exact Pw.thenN (Pw.next ((j + 1, s')) ⟨rfl, rfl, rfl, rfl, rfl, rfl, rfl, rfl, rfl, rfl, trivial⟩ (⟨hjx', hB3, o_u, by rw [hs']; by_cases e : k < j; rw [if_pos e, if_pos (by omega)]; rw [if_neg e, if_neg (by omega)], fun m h1 h2 => (Nat.lt_succ_iff_lt_or_eq.1 h1).elim (fun h => hm m h h2) (fun e => e ▸ g5)⟩) (by simp only; omega))
    intro g3
    have hjx' : j = x.length := by have := of_decide_eq_false g3; omega
    subst hjx'
    rw [if_pos (by omega)] at hs'
    have e1 : jn1 k s x = some s' := by unfold jn1; rw [if_pos ⟨g1, g2, fun m h1 h2 => hm m (by omega) h2⟩, hs']
    have hbd : ∀ m, m < s'.length → 0 ≤ s'.getD m default ∧ s'.getD m default ≤ 64 * (((i + 1 : Nat) : Int) + 1) := fun m hm' => by
      have b1 := hsb m (by omega)
      rw [hs']
      by_cases e : m = k
      · subst e
        rw [List.getD_eq_getElem?_getD, List.getElem?_set_self (by omega), Option.getD_some]
        omega
      · rw [List.getD_eq_getElem?_getD, List.getElem?_set_ne (by omega), ← List.getD_eq_getElem?_getD]
        omega
    refine Cw.exit ?_
    refine Pw.thenE ?_
    refine Pw.thenE ?_
    refine Pw.blkHit ?_
    refine Pw.blkN ?_
    refine Pw.thenN (Cw.out ?_)
    refine Cw.region ?_
    refine Lw.val (Ex.addI rfl rfl (by omega)) rfl ?_
    refine Lw.val (Ex.move rfl) rfl ?_
    refine Lw.nil ?_
    exact Pw.thenN (Pw.next ((i + 1, s')) ⟨rfl, rfl, rfl, rfl, rfl, rfl, trivial⟩ (⟨hi', hB3, o_u, by rw [hst, e1], by simp only; omega, hbd⟩) (by simp only; omega))
  intro g
  have hi' : i = rest.length := by have := of_decide_eq_false g; omega
  subst hi'
  have hfin := hjn s (by rw [← hj, List.drop_length]; rfl)
  refine Cw.exit ?_
  refine Pw.thenE ?_
  refine Pw.thenE ?_
  refine Pw.blkHit ?_
  refine Pw.thenN (Cw.out ?_)
  refine Cw.seq ?_
  refine Cw.seq ?_
  refine Cw.region ?_
  refine Lw.val (Ex.move rfl) rfl ?_
  refine Lw.val (Ex.move rfl) rfl ?_
  refine Lw.val (Ex.lenS st_26 rfl (by assumption)) rfl ?_
  refine Lw.val (Ex.geq rfl rfl) rfl ?_
  refine Lw.nil ?_
  refine Pw.thenN (Cw.out ?_)
  refine Cw.cond rfl ?_ ?_
  · intro g2
    have g2 : ¬ k < s.length := by have := of_decide_eq_true g2; omega
    refine Cw.seq ?_
    refine Cw.region ?_
    refine Lw.val (Ex.assign rfl) rfl ?_
    refine Lw.nil ?_
    refine Pw.thenN (Cw.out ?_)
    refine Cw.ret ?_
    refine Pw.thenR ?_
    refine Pw.ret1 rfl rfl ?_
    exact ⟨by rw [hfin, if_neg g2]; exact Sl.nil _ _, hB⟩
  intro g2
  have g2 : k < s.length := by have := of_decide_eq_false g2; omega
  refine Cw.skip ?_
  refine Pw.thenN (Cw.out ?_)
  refine Cw.seq ?_
  refine Cw.region ?_
  refine Lw.val (Ex.move rfl) rfl ?_
  refine Lw.val (Ex.assign rfl) rfl ?_
  refine Lw.nil ?_
  refine Pw.thenN (Cw.out ?_)
  refine Cw.ret ?_
  refine Pw.ret1 rfl rfl ?_
  exact ⟨by rw [hfin, if_pos g2]; exact s_u, hB⟩
end Go.Proofs.YtmipoeanpnnjoaaGreat

/-! Contract: the shape of a node, of those that it takes in. -/
namespace Go.Proofs.YtmipoeanpnnjoaaGreat
open Go Go.Dd Go.RowKit
set_option maxRecDepth 100000

/-- A kind's row. -/
def kdOf (k : BitVec 8) : Option (List Int) := (kdT.find? (fun p => decide (p.2.1 = (k.toNat : Int)))).map (·.2.2)
def kindF (k : BitVec 8) (i s : List Int) (n p : Int) : Bool := match kdOf k with
  | some [a, b, c, d, e, f] => kindB a b c d e f i s n p
  | _ => false
theorem kindB_iff {l m lo hi ar sh : Int} {i s : List Int} {n p : Int} : kindB l m lo hi ar sh i s n p = true ↔ (l ≤ (i.length : Int) ∧ (i.length : Int) ≤ m ∧ lo ≤ n ∧ n ≤ hi ∧ 0 ≤ p ∧ p ≤ ar) ∧ (if sh = 0 then decide (s.length = 0) else if sh = 1 then Shapes.ok s else gord s) = true := by
  unfold kindB
  rw [Bool.and_eq_true, Bool.not_eq_true', Bool.or_eq_false_iff, Bool.or_eq_false_iff, Bool.or_eq_false_iff, Bool.or_eq_false_iff, Bool.or_eq_false_iff]
  simp only [decide_eq_false_iff_not]
  constructor
  · rintro ⟨⟨⟨⟨⟨⟨h1, h2⟩, h3⟩, h4⟩, h5⟩, h6⟩, h7⟩
    exact ⟨⟨by omega, by omega, by omega, by omega, by omega, by omega⟩, h7⟩
  · rintro ⟨⟨h1, h2, h3, h4, h5, h6⟩, h7⟩
    exact ⟨⟨⟨⟨⟨⟨by omega, by omega⟩, by omega⟩, by omega⟩, by omega⟩, by omega⟩, h7⟩
def gshN (k : BitVec 8) (s : List Int) (n p : Int) (ins : List (List Int)) : List Int :=
  let a := ins.getD 0 []
  let b := ins.getD 1 []
  if k = 1#8 ∨ k = 2#8 then s else if k = 5#8 ∨ k = 6#8 then a else if k = 3#8 ∨ k = 4#8 then (if a = b then a else [])
  else if k = 10#8 then (if Shapes.size a = Shapes.size s then s else []) else if k = 7#8 then (if pshE a b = 0 then [a.getD 0 default, b.getD 1 default] else [])
  else if k = 8#8 then (if wshE a b n p = 0 then wshS a b n p else []) else if k = 9#8 then (if poolE a n = 0 then pshS a n else [])
  else if k = 11#8 then trnG a s else if k = 12#8 then jnG ins n.toNat else if k = 13#8 then woG a n else []
theorem told_c (v : Value) (ps : List (Value × List Int)) (j : Int) (w : World) (h : LI w v ps) (hj : 0 ≤ j ∧ j < (ps.length : Int)) :
    Fnc Tryz.prog 40 [.agg [v].toArray, .int .i64 j] w (fun r w' => r = (ps.getD j.toNat default).1 ∧ Below w.heap.size w w') := by
  have hB := Below.refl w.heap.size w
  have s_v := h.sl
  refine Fnc.enter (n := 10) Tryz.func40 (by kernel_rfl) rfl rfl rfl ?_
  refine Cw.seq ?_
  refine Cw.region ?_
  refine Lw.boxV (cs := [v]) rfl rfl rfl ?_
  rintro A_t w eA_t b_t hn -
  replace hB := hB.bs hn
  replace s_v := s_v.bs hn
  clear hn
  refine Lw.val (Ex.assign rfl) rfl ?_
  refine Lw.nil ?_
  refine Pw.thenN (Cw.out ?_)
  refine Cw.seq ?_
  refine Cw.region ?_
  refine Lw.val (Ex.fieldAddr (q := 0) Tryz.underlying74 rfl (sz_39 _) rfl) rfl ?_
  refine Lw.val (Ex.ldB (ag_39 _) rfl (by assumption) rfl) rfl ?_
  refine Lw.val (Ex.move rfl) rfl ?_
  refine Lw.val (Ex.idxT st_39 rfl rfl s_v j.toNat (show j = ((j.toNat : Nat) : Int) by omega) (show j.toNat < ps.length by omega)) rfl ?_
  refine Lw.val (Ex.as (Ex.ldT (ag_26 _) rfl s_v (show j.toNat < ps.length by omega)) rfl) rfl ?_
  refine Lw.val (Ex.assign rfl) rfl ?_
  refine Lw.nil ?_
  refine Pw.thenN (Cw.out ?_)
  refine Cw.ret ?_
  refine Pw.ret1 rfl rfl ?_
  exact ⟨rfl, hB⟩
theorem ok_len {s : List Int} (h : Shapes.ok s = true) : 1 ≤ s.length ∧ s.length ≤ 4 := ((Shapes.ok_iff s).1 h).1
theorem ok_bd {s : List Int} (h : Shapes.ok s = true) : ∀ x ∈ s, 1 ≤ x ∧ x ≤ 64 := ((Shapes.ok_iff s).1 h).2.1
theorem jnR_len {k : Nat} : ∀ (l : List (List Int)) (s s' : List Int), jnR k s l = some s' → s'.length = s.length
  | [], s, s', h => by cases h; rfl
  | x :: l, s, s', h => by
    unfold jnR at h
    cases e : jn1 k s x with
    | none => rw [e] at h; cases h
    | some t =>
      rw [e] at h
      have h1 := jnR_len l t s' h
      unfold jn1 at e
      split at e
      · cases e; rw [h1, List.length_set]
      · cases e
theorem jnG_len {l : List (List Int)} {k : Nat} (h : (l.headD []).length ≤ 4) : (jnG l k).length ≤ 4 := by
  unfold jnG
  cases e : jnR k (l.headD []) l.tail with
  | none => simp
  | some s =>
    have := jnR_len _ _ _ e
    simp only
    split
    · omega
    · simp
theorem cov_bd {l : List Int} (h : cov l = true) (h4 : l.length ≤ 4) : ∀ k ∈ l, 0 ≤ k ∧ k < (l.length : Int) := by
  rw [cov_iff] at h
  have m : ∀ j, j < l.length → (j : Int) ∈ l := fun j hj => by simpa using h j hj
  match l, h4 with
  | [], _ => intro k hk; cases hk
  | [a], _ =>
    have := m 0 (by simp)
    simp at this ⊢; omega
  | [a, b], _ =>
    have h0 := m 0 (by simp); have h1 := m 1 (by simp)
    simp at h0 h1 ⊢; omega
  | [a, b, c], _ =>
    have h0 := m 0 (by simp); have h1 := m 1 (by simp); have h2 := m 2 (by simp)
    simp at h0 h1 h2 ⊢; omega
  | [a, b, c, d], _ =>
    have h0 := m 0 (by simp); have h1 := m 1 (by simp); have h2 := m 2 (by simp); have h3 := m 3 (by simp)
    simp at h0 h1 h2 h3 ⊢; omega
  | a :: b :: c :: d :: e :: l, h4 => simp at h4
/-- What a node's kind asks of it. -/
theorem kindF_at {k : BitVec 8} {i s : List Int} {n p : Int} (h : kindF k i s n p = true) {a b c d e f : Int} (hk : kdOf k = some [a, b, c, d, e, f]) : (a ≤ (i.length : Int) ∧ (i.length : Int) ≤ b ∧ c ≤ n ∧ n ≤ d ∧ 0 ≤ p ∧ p ≤ e) ∧ (if f = 0 then decide (s.length = 0) else if f = 1 then Shapes.ok s else gord s) = true := by
  unfold kindF at h
  rw [hk] at h
  exact kindB_iff.1 h
theorem kd_1 : kdOf 1#8 = some [0, 0, 0, 0, 0, 1] := by decide
theorem kd_2 : kdOf 2#8 = some [0, 0, 0, 0, 0, 1] := by decide
theorem kd_3 : kdOf 3#8 = some [2, 2, 0, 0, 0, 0] := by decide
theorem kd_4 : kdOf 4#8 = some [2, 2, 0, 0, 0, 0] := by decide
theorem kd_5 : kdOf 5#8 = some [1, 1, 0, 0, 0, 0] := by decide
theorem kd_6 : kdOf 6#8 = some [1, 1, 0, 31, 0, 0] := by decide
theorem kd_7 : kdOf 7#8 = some [2, 2, 0, 0, 0, 0] := by decide
theorem kd_8 : kdOf 8#8 = some [2, 2, 1, 8, 8, 0] := by decide
theorem kd_9 : kdOf 9#8 = some [1, 1, 1, 64, 0, 0] := by decide
theorem kd_10 : kdOf 10#8 = some [1, 1, 0, 0, 0, 1] := by decide
theorem kd_11 : kdOf 11#8 = some [1, 1, 0, 0, 0, 2] := by decide
theorem kd_12 : kdOf 12#8 = some [1, 4, 0, 3, 0, 0] := by decide
theorem kd_13 : kdOf 13#8 = some [1, 1, 0, 3, 0, 0] := by decide
theorem kd_some : ∀ k : BitVec 8, (kdOf k).isSome = true → (k = 1#8 ∨ k = 2#8 ∨ k = 3#8 ∨ k = 4#8 ∨ k = 5#8 ∨ k = 6#8 ∨ k = 7#8 ∨ k = 8#8 ∨ k = 9#8 ∨ k = 10#8 ∨ k = 11#8 ∨ k = 12#8 ∨ k = 13#8) := by decide +kernel
theorem ito_x (n : Int) (h : 0 ≤ n) : (n.toNat : Int) = n := by omega
set_option maxHeartbeats 1000000 in
theorem gshape_c (x : N5) (v : Value) (ps : List (Value × List Int)) (w : World) (hx : N5.at w x) (h : LI w v ps) (hk : kindF x.k x.i x.s x.n x.p = true) (hi : ∀ j ∈ x.i, 0 ≤ j ∧ j < (ps.length : Int)) (hok : ∀ p ∈ ps, Shapes.ok p.2 = true) :
    Fnc Tryz.prog 39 [x.v, .func (.func 40) #[.agg [v].toArray] #[]] w (fun r w' => SlT (Value.int .i64) w' r (gshN x.k x.s x.n x.p (x.i.map fun j => (ps.getD j.toNat default).2)) ∧ Below w.heap.size w w' ∧ ∀ b, r.ownBlock = some b → w.heap.size ≤ b ∧ b < w'.heap.size) := by
  obtain ⟨G, hG⟩ : ∃ G, G = gshN x.k x.s x.n x.p (x.i.map fun j => (ps.getD j.toNat default).2) := ⟨_, rfl⟩
  rw [← hG]
  obtain ⟨W, hW⟩ : ∃ W, W = w := ⟨_, rfl⟩
  have hB := Below.refl W.heap.size W
  have h_i := hx.i
  have h_s := hx.s
  have hli := h_i.le
  obtain ⟨qs, hqs⟩ : ∃ qs, qs = x.i.map fun j => ps.getD j.toNat default := ⟨_, rfl⟩
  have hq2 : ints2 qs = x.i.map fun j => (ps.getD j.toNat default).2 := by rw [hqs]; simp [ints2]
  have lq : qs.length = x.i.length := by rw [hqs, List.length_map]
  have hqm : ∀ p ∈ qs, p ∈ ps := fun p hp => by
    rw [hqs] at hp
    obtain ⟨j, hj, rfl⟩ := List.mem_map.1 hp
    have := hi j hj
    rw [List.getD_eq_getElem?_getD, List.getElem?_eq_getElem (by omega)]
    exact List.getElem_mem _
  have li4 : x.i.length ≤ 4 := by
    unfold kindF at hk
    split at hk
    · rename_i a b c d e f he
      have h1 := (kindB_iff.1 hk).1
      have h2 : ∀ p ∈ kdT, p.2.2.getD 1 0 ≤ 4 := by decide
      unfold kdOf at he
      cases hf : kdT.find? (fun p => decide (p.2.1 = (x.k.toNat : Int))) with
      | none => rw [hf] at he; cases he
      | some p =>
        rw [hf] at he
        have h3 := h2 p (List.mem_of_find?_eq_some hf)
        have h4 : p.2.2 = [a, b, c, d, e, f] := by simpa using he
        rw [h4] at h3
        simp at h3
        omega
    · cases hk
  rw [← hW] at hx h h_i h_s
  rw [← hW]
  refine Fnc.enter (n := 124) Tryz.func39 (by kernel_rfl) rfl rfl rfl ?_
  refine Cw.seq ?_
  refine Cw.region ?_
  refine Lw.boxV (cs := x.cells) rfl rfl rfl ?_
  rintro A_x w eA_x b_x hn -
  replace hB := hB.bs hn
  replace h_i := h_i.bs hn
  replace h_s := h_s.bs hn
  clear hn
  refine Lw.val (Ex.assign rfl) rfl ?_
  refine Lw.nil ?_
  refine Pw.thenN (Cw.out ?_)
  refine Cw.seq ?_
  refine Cw.region ?_
  refine Lw.val (Ex.assign rfl) rfl ?_
  refine Lw.nil ?_
  refine Pw.thenN (Cw.out ?_)
  refine Cw.seq ?_
  refine Cw.seq ?_
  refine Cw.region ?_
  refine Lw.val (Ex.fieldAddr (q := 0) Tryz.underlying45 rfl (sz_26 _) rfl) rfl ?_
  refine Lw.val (Ex.ldB (ag_26 _) rfl (by assumption) rfl) rfl ?_
  refine Lw.val (Ex.lenS st_26 rfl (by assumption)) rfl ?_
  refine Lw.val (Ex.move rfl) rfl ?_
  refine Lw.nil ?_
  refine Pw.thenN (Cw.out ?_)
  refine Cw.block ?_
  have zx := blk_lt b_x
  have zW := below_size hB
  obtain ⟨B, hBd⟩ : ∃ B, B = w.heap.size := ⟨_, rfl⟩
  rw [← hBd] at zx zW
  refine Cw.loop (S := (Nat × Value)) (fun z => [(1, .func (.func 40) #[.agg [v].toArray] #[]), (2, .pointer (some ⟨A_x, 0, none⟩)), (4, .slice none 0 0), (5, z.2), (9, x.x), (10, .int .i64 (x.i.length : Int)), (11, .int .i64 (z.1 : Int))]) (fun z w' => z.1 ≤ x.i.length ∧ Below W.heap.size W w' ∧ Blk w' A_x 45 x.cells ∧ w'.ownsRow B 26 1 z.2 z.1 ((qs.take z.1).map (·.1)) ∧ B ≤ w'.heap.size) (fun z => x.i.length - z.1) ((0, .slice none 0 0)) ⟨rfl, rfl, rfl, rfl, rfl, rfl, rfl, trivial⟩ ?_ ?_
  · exact ⟨Nat.zero_le _, hB, b_x, ⟨rfl, .inl ⟨rfl, rfl⟩⟩, by omega⟩
  rintro ⟨i, u⟩ w1 ⟨hi1, hB, b_x, o_u, hAx⟩
  dsimp only at hi1 hB b_x o_u ⊢
  have h1 := h.bs hB
  have h_i := hx.i.bs hB
  have h_s := hx.s.bs hB
  have zB := below_size hB
  refine Cw.seq ?_
  refine Cw.region ?_
  refine Lw.val (Ex.lss rfl rfl) rfl ?_
  refine Lw.nil ?_
  refine Pw.thenN (Cw.out ?_)
  refine Cw.seq ?_
  refine Cw.cond rfl ?_ ?_
  · intro g
    have hi' : i < x.i.length := by have := of_decide_eq_true g; omega
    obtain ⟨j, hj⟩ : ∃ j, j = x.i.getD i default := ⟨_, rfl⟩
    have hjm : j ∈ x.i := by rw [hj]; exact getD_mem hi'
    obtain ⟨q, hq⟩ : ∃ q, q = ps.getD j.toNat default := ⟨_, rfl⟩
    have hqi : qs[i]'(by omega) = q := by
      have ej : x.i[i] = j := by rw [hj, List.getD_eq_getElem?_getD, List.getElem?_eq_getElem hi']; rfl
      simp only [hqs, List.getElem_map, ej]; exact hq.symm
    refine Cw.skip ?_
    refine Pw.thenN (Cw.out ?_)
    refine Cw.seq ?_
    refine Cw.block ?_
    refine Cw.seq ?_
    refine Cw.region ?_
    refine Lw.val (Ex.idxT st_26 rfl rfl (by assumption) _ rfl (by omega)) rfl ?_
    refine Lw.val (Ex.as (Ex.ldT (ag_3 _) rfl h_i hi') (congrArg (Value.int .i64) hj.symm)) rfl ?_
    refine Lw.val (Ex.assign rfl) rfl ?_
    refine Lw.nil ?_
    refine Pw.thenN (Cw.out ?_)
    refine Cw.region ?_
    refine Lw.val (Ex.move rfl) rfl ?_
    refine Lw.val (Ex.move rfl) rfl ?_
    refine Lw.val (Ex.move rfl) rfl ?_
    refine Lw.callV (p := [.agg [v].toArray]) (q := []) rfl rfl rfl (told_c v ps j w1 h1 (hi j hjm)) ?_
    rintro _ w2 ⟨rfl, hn⟩
    rw [← hq]
    have s_q : SlT (Value.int .i64) w2 q.1 q.2 := (h1.bs hn).each q (hqm q (hqi ▸ List.getElem_mem _))
    have o_u := own_bs o_u hn
    have b_x := b_x.bs hn
    have z2 := hn.size
    refine Lw.valW (Xw.lit (vs := [q.1]) st_39 it_26 rfl rfl rfl (by rw [List.all_cons, s_q.one']; rfl) rfl) rfl ?_
    rintro r w3 ⟨o_r, -, hn3, -⟩
    have o_u := own_bs o_u hn3
    have b_x := b_x.bs hn3
    have z3 := hn3.size
    refine Lw.valW (Xw.append2 (base := B) st_39 it_26 rfl (by decide) rfl rfl o_u (own_sl o_r) (by rw [List.all_cons, s_q.one']; rfl) (by omega) (by omega) (by omega)) rfl ?_
    rintro u' w4 ⟨o_u', hn4, hg4, -⟩
    have ub := own_block o_u
    have b_x := b_x.by hg4 (fun e => by have := ub _ e.symm; omega)
    have e1 : (qs.take i).map (·.1) ++ [q.1] = (qs.take (i + 1)).map (·.1) := by
      rw [List.take_succ_eq_append_getElem (by omega), List.map_append, hqi]; rfl
    rw [e1] at o_u'
    refine Lw.val (Ex.assign rfl) rfl ?_
    refine Lw.nil ?_
    refine Pw.blkN ?_
    refine Pw.thenN (Cw.out ?_)
    refine Cw.region ?_
    refine Lw.val (Ex.addI rfl rfl (by omega)) rfl ?_
    refine Lw.val (Ex.move rfl) rfl ?_
    refine Lw.nil ?_
    exact Pw.thenN (Pw.next ((i + 1, u')) ⟨rfl, rfl, rfl, rfl, rfl, rfl, rfl, trivial⟩ (⟨hi', ((hB.trans (hn.mono zB)).trans (hn3.mono (by omega))).trans (hn4.mono zW), b_x, o_u', by have := hn4.size; omega⟩) (by simp only; omega))
  intro g
  have hi' : i = x.i.length := by have := of_decide_eq_false g; omega
  subst hi'
  rw [← lq, List.take_length] at o_u
  have hin : LI w1 u qs := ⟨own_slT o_u, fun p hp => h1.each p (hqm p hp)⟩
  have hq4 : ∀ p ∈ qs, p.2.length ≤ 4 ∧ ∀ y ∈ p.2, 0 ≤ y ∧ y ≤ 64 := fun p hp => ⟨(ok_len (hok p (hqm p hp))).2, fun y hy => by have := ok_bd (hok p (hqm p hp)) y hy; omega⟩
  have h0 : ∀ (hl : 0 < qs.length), ∃ q, qs.getD 0 default = q ∧ (ints2 qs).getD 0 [] = q.2 ∧ q ∈ qs := fun hl => ⟨qs[0], by rw [List.getD_eq_getElem?_getD, List.getElem?_eq_getElem hl]; rfl, by rw [List.getD_eq_getElem?_getD, List.getElem?_map, List.getElem?_eq_getElem hl]; rfl, List.getElem_mem hl⟩
  have h1q : ∀ (hl : 1 < qs.length), ∃ q, qs.getD 1 default = q ∧ (ints2 qs).getD 1 [] = q.2 ∧ q ∈ qs := fun hl => ⟨qs[1], by rw [List.getD_eq_getElem?_getD, List.getElem?_eq_getElem hl]; rfl, by rw [List.getD_eq_getElem?_getD, List.getElem?_map, List.getElem?_eq_getElem hl]; rfl, List.getElem_mem hl⟩
  have hql := hin.sl
  rw [← hq2] at hG
  refine Cw.exit ?_
  refine Pw.thenE ?_
  refine Pw.thenE ?_
  refine Pw.blkHit ?_
  refine Pw.thenN (Cw.out ?_)
  refine Cw.seq ?_
  refine Cw.seq ?_
  refine Cw.region ?_
  refine Lw.val (Ex.fieldAddr (q := 0) Tryz.underlying45 rfl (sz_43 _) rfl) rfl ?_
  refine Lw.val (Ex.ldB (ag_43 _) rfl (by assumption) rfl) rfl ?_
  refine Lw.nil ?_
  refine Pw.thenN (Cw.out ?_)
  refine Cw.midS (St := Value) (fun y => [(4, y)]) (fun y w' => Below W.heap.size W w' ∧ SlT (Value.int .i64) w' y G ∧ G.length ≤ 4) ?_ ?_
  · refine Cw.block ?_
    refine Cw.seq ?_
    refine Cw.seq ?_
    refine Cw.region ?_
    refine Lw.val (Ex.eql8 rfl (show _ = some (b8 (1#8)) from rfl)) rfl ?_
    refine Lw.val (Ex.assign rfl) rfl ?_
    refine Lw.nil ?_
    refine Pw.thenN (Cw.out ?_)
    refine Cw.cond rfl ?_ ?_
    · intro g
      have g : x.k = 1#8 := of_decide_eq_true g
      refine Cw.know 24 (v' := .bool true) rfl (congrArg Value.bool (decide_eq_true g)) ?_
      refine Cw.skip ?_
      refine Pw.thenN (Cw.out ?_)
      refine Cw.condT rfl ?_
      refine Cw.region ?_
      refine Lw.val (Ex.fieldAddr (q := 0) Tryz.underlying45 rfl (sz_26 _) rfl) rfl ?_
      refine Lw.val (Ex.ldB (ag_26 _) rfl (by assumption) rfl) rfl ?_
      refine Lw.val (Ex.assign rfl) rfl ?_
      refine Lw.nil ?_
      refine Pw.blkN ?_
      have k_s : Shapes.ok x.s = true := (kindF_at (by rw [g] at hk; exact hk) kd_1).2
      have eG : G = x.s := by rw [hG, g]; rfl
      exact Pw.midS (x.y) ⟨rfl, trivial⟩ (⟨hB, by rw [eG]; exact h_s, by rw [eG]; exact (ok_len k_s).2⟩)
    intro g1
    have g1 : ¬ x.k = 1#8 := of_decide_eq_false g1
    refine Cw.region ?_
    refine Lw.val (Ex.eql8 rfl (show _ = some (b8 (2#8)) from rfl)) rfl ?_
    refine Lw.val (Ex.assign rfl) rfl ?_
    refine Lw.nil ?_
    refine Pw.thenN (Cw.out ?_)
    refine Cw.cond rfl ?_ ?_
    · intro g
      have g : x.k = 2#8 := of_decide_eq_true g
      refine Cw.region ?_
      refine Lw.val (Ex.fieldAddr (q := 0) Tryz.underlying45 rfl (sz_26 _) rfl) rfl ?_
      refine Lw.val (Ex.ldB (ag_26 _) rfl (by assumption) rfl) rfl ?_
      refine Lw.val (Ex.assign rfl) rfl ?_
      refine Lw.nil ?_
      refine Pw.blkN ?_
      have k_s : Shapes.ok x.s = true := (kindF_at (by rw [g] at hk; exact hk) kd_2).2
      have eG : G = x.s := by rw [hG, g]; rfl
      exact Pw.midS (x.y) ⟨rfl, trivial⟩ (⟨hB, by rw [eG]; exact h_s, by rw [eG]; exact (ok_len k_s).2⟩)
    intro g2
    have g2 : ¬ x.k = 2#8 := of_decide_eq_false g2
    refine Cw.seq ?_
    refine Cw.seq ?_
    refine Cw.region ?_
    refine Lw.val (Ex.eql8 rfl (show _ = some (b8 (5#8)) from rfl)) rfl ?_
    refine Lw.val (Ex.assign rfl) rfl ?_
    refine Lw.nil ?_
    refine Pw.thenN (Cw.out ?_)
    refine Cw.cond rfl ?_ ?_
    · intro g
      have g : x.k = 5#8 := of_decide_eq_true g
      have l1 : 0 < qs.length := by have := (kindF_at (by rw [g] at hk; exact hk) kd_5).1; omega
      obtain ⟨a, ea, ga, ma⟩ := h0 l1
      have s_a := hin.each a ma
      have k_a := hok a (hqm a ma)
      have ea' : (qs.getD 0 default).1 = a.1 := by rw [ea]
      have eG : G = a.2 := by rw [hG, g]; exact ga
      refine Cw.know 29 (v' := .bool true) rfl (congrArg Value.bool (decide_eq_true g)) ?_
      refine Cw.skip ?_
      refine Pw.thenN (Cw.out ?_)
      refine Cw.condT rfl ?_
      refine Cw.region ?_
      refine Lw.val (Ex.move rfl) rfl ?_
      refine Lw.val (Ex.idxT st_39 rfl rfl hql 0 rfl l1) rfl ?_
      refine Lw.val (Ex.as (Ex.ldT (ag_26 _) rfl hql l1) ea') rfl ?_
      refine Lw.val (Ex.assign rfl) rfl ?_
      refine Lw.nil ?_
      refine Pw.blkN ?_
      exact Pw.midS (a.1) ⟨rfl, trivial⟩ (⟨hB, by rw [eG]; exact s_a, by rw [eG]; exact (ok_len k_a).2⟩)
    intro g5
    have g5 : ¬ x.k = 5#8 := of_decide_eq_false g5
    refine Cw.region ?_
    refine Lw.val (Ex.eql8 rfl (show _ = some (b8 (6#8)) from rfl)) rfl ?_
    refine Lw.val (Ex.assign rfl) rfl ?_
    refine Lw.nil ?_
    refine Pw.thenN (Cw.out ?_)
    refine Cw.cond rfl ?_ ?_
    · intro g
      have g : x.k = 6#8 := of_decide_eq_true g
      have l1 : 0 < qs.length := by have := (kindF_at (by rw [g] at hk; exact hk) kd_6).1; omega
      obtain ⟨a, ea, ga, ma⟩ := h0 l1
      have s_a := hin.each a ma
      have k_a := hok a (hqm a ma)
      have ea' : (qs.getD 0 default).1 = a.1 := by rw [ea]
      have eG : G = a.2 := by rw [hG, g]; exact ga
      refine Cw.region ?_
      refine Lw.val (Ex.move rfl) rfl ?_
      refine Lw.val (Ex.idxT st_39 rfl rfl hql 0 rfl l1) rfl ?_
      refine Lw.val (Ex.as (Ex.ldT (ag_26 _) rfl hql l1) ea') rfl ?_
      refine Lw.val (Ex.assign rfl) rfl ?_
      refine Lw.nil ?_
      refine Pw.blkN ?_
      exact Pw.midS (a.1) ⟨rfl, trivial⟩ (⟨hB, by rw [eG]; exact s_a, by rw [eG]; exact (ok_len k_a).2⟩)
    intro g6
    have g6 : ¬ x.k = 6#8 := of_decide_eq_false g6
    refine Cw.seq ?_
    refine Cw.seq ?_
    refine Cw.region ?_
    refine Lw.val (Ex.eql8 rfl (show _ = some (b8 (3#8)) from rfl)) rfl ?_
    refine Lw.val (Ex.assign rfl) rfl ?_
    refine Lw.nil ?_
    refine Pw.thenN (Cw.out ?_)
    refine Cw.cond rfl ?_ ?_
    · intro g
      have g : x.k = 3#8 := of_decide_eq_true g
      refine Cw.know 35 (v' := .bool true) rfl (congrArg Value.bool (decide_eq_true g)) ?_
      refine Cw.skip ?_
      refine Pw.thenN (Cw.out ?_)
      refine Cw.condT rfl ?_
      refine Cw.seq ?_
      have l1 : 0 < qs.length := by have := (kindF_at (by rw [g] at hk; exact hk) kd_3).1; omega
      obtain ⟨a, ea, ga, ma⟩ := h0 l1
      have s_a := hin.each a ma
      have k_a := hok a (hqm a ma)
      have ea' : (qs.getD 0 default).1 = a.1 := by rw [ea]
      have l2 : 1 < qs.length := by have := (kindF_at (by rw [g] at hk; exact hk) kd_3).1; omega
      obtain ⟨b, eb, gb, mb⟩ := h1q l2
      have s_b := hin.each b mb
      have k_b := hok b (hqm b mb)
      have eb' : (qs.getD 1 default).1 = b.1 := by rw [eb]
      have eG : G = if a.2 = b.2 then a.2 else [] := by rw [hG, g, ← ga, ← gb]; rfl
      refine Cw.any mixed (fun w2 hd _ => ?_)
      refine Aw.cls (fun w' => Below w1.heap.size w1 w') (fun hC => ?_) (hd)
      have hB2 := hB.trans (hd.mono (below_size hB))
      have h_s2 := h_s.bs hd
      have s_a2 := s_a.bs hd
      have s_b2 := s_b.bs hd
      refine AwC.take (i := 0) (NoP.thn (NoP.blk NoP.midS)) rfl (by kernel_rfl) (by kernel_rfl) (by kernel_rfl) (fun w1 hc => Ex.move rfl) rfl ?_
      refine AwC.take (i := 1) (NoP.thn (NoP.blk NoP.midS)) rfl (by kernel_rfl) (by kernel_rfl) (by kernel_rfl) (fun w1 hc => Ex.idxT st_39 rfl rfl (hql.bs hc) 0 rfl l1) rfl ?_
      refine AwC.take (i := 2) (NoP.thn (NoP.blk NoP.midS)) rfl (by kernel_rfl) (by kernel_rfl) (by kernel_rfl) (fun w1 hc => Ex.as (Ex.ldT (ag_26 _) rfl (hql.bs hc) l1) ea') rfl ?_
      refine AwC.take (i := 3) (NoP.thn (NoP.blk NoP.midS)) rfl (by kernel_rfl) (by kernel_rfl) (by kernel_rfl) (fun w1 hc => Ex.move rfl) rfl ?_
      refine AwC.take (i := 4) (NoP.thn (NoP.blk NoP.midS)) rfl (by kernel_rfl) (by kernel_rfl) (by kernel_rfl) (fun w1 hc => Ex.idxT st_39 rfl rfl (hql.bs hc) 1 rfl l2) rfl ?_
      refine AwC.take (i := 5) (NoP.thn (NoP.blk NoP.midS)) rfl (by kernel_rfl) (by kernel_rfl) (by kernel_rfl) (fun w1 hc => Ex.as (Ex.ldT (ag_26 _) rfl (hql.bs hc) l2) eb') rfl ?_
      refine AwC.only (by assumption) (i := 6) (by kernel_rfl) rfl ?_
      refine Lw.callF rfl rfl (equalInts_c a.1 b.1 a.2 b.2 w2 s_a2 s_b2) ?_
      rintro _ w3 ⟨rfl, hn3⟩
      have hd3 : Below w1.heap.size w1 w3 := hd.trans (hn3.mono hd.size)
      have hB3 := hB2.trans (hn3.mono (below_size hB2))
      have hql3 := (hql.bs hd).bs hn3
      refine AwC.back ?_
      refine AwC.done (by assumption) (by kernel_rfl) ?_
      refine Pw.thenN (Cw.out ?_)
      refine Cw.cond rfl ?_ ?_
      · intro e
        have e : a.2 = b.2 := of_decide_eq_true e
        refine Cw.region ?_
        refine Lw.val (Ex.move rfl) rfl ?_
        refine Lw.val (Ex.idxT st_39 rfl rfl hql3 0 rfl l1) rfl ?_
        refine Lw.val (Ex.as (Ex.ldT (ag_26 _) rfl hql3 l1) ea') rfl ?_
        refine Lw.val (Ex.assign rfl) rfl ?_
        refine Lw.nil ?_
        refine Pw.blkN ?_
        exact Pw.midS (a.1) ⟨rfl, trivial⟩ (⟨hB3, by rw [eG, if_pos e]; exact s_a2.bs hn3, by rw [eG, if_pos e]; exact (ok_len k_a).2⟩)
      intro e
      have e : ¬ a.2 = b.2 := of_decide_eq_false e
      refine Cw.skip ?_
      refine Pw.blkN ?_
      exact Pw.midS ((.slice none 0 0)) ⟨rfl, trivial⟩ (⟨hB3, by rw [eG, if_neg e]; exact Sl.nil _ _, by rw [eG, if_neg e]; exact Nat.zero_le _⟩)
    intro g3
    have g3 : ¬ x.k = 3#8 := of_decide_eq_false g3
    refine Cw.region ?_
    refine Lw.val (Ex.eql8 rfl (show _ = some (b8 (4#8)) from rfl)) rfl ?_
    refine Lw.val (Ex.assign rfl) rfl ?_
    refine Lw.nil ?_
    refine Pw.thenN (Cw.out ?_)
    refine Cw.cond rfl ?_ ?_
    · intro g
      have g : x.k = 4#8 := of_decide_eq_true g
      refine Cw.seq ?_
      have l1 : 0 < qs.length := by have := (kindF_at (by rw [g] at hk; exact hk) kd_4).1; omega
      obtain ⟨a, ea, ga, ma⟩ := h0 l1
      have s_a := hin.each a ma
      have k_a := hok a (hqm a ma)
      have ea' : (qs.getD 0 default).1 = a.1 := by rw [ea]
      have l2 : 1 < qs.length := by have := (kindF_at (by rw [g] at hk; exact hk) kd_4).1; omega
      obtain ⟨b, eb, gb, mb⟩ := h1q l2
      have s_b := hin.each b mb
      have k_b := hok b (hqm b mb)
      have eb' : (qs.getD 1 default).1 = b.1 := by rw [eb]
      have eG : G = if a.2 = b.2 then a.2 else [] := by rw [hG, g, ← ga, ← gb]; rfl
      refine Cw.any mixed (fun w2 hd _ => ?_)
      refine Aw.cls (fun w' => Below w1.heap.size w1 w') (fun hC => ?_) (hd)
      have hB2 := hB.trans (hd.mono (below_size hB))
      have h_s2 := h_s.bs hd
      have s_a2 := s_a.bs hd
      have s_b2 := s_b.bs hd
      refine AwC.take (i := 0) (NoP.thn (NoP.blk NoP.midS)) rfl (by kernel_rfl) (by kernel_rfl) (by kernel_rfl) (fun w1 hc => Ex.move rfl) rfl ?_
      refine AwC.take (i := 1) (NoP.thn (NoP.blk NoP.midS)) rfl (by kernel_rfl) (by kernel_rfl) (by kernel_rfl) (fun w1 hc => Ex.idxT st_39 rfl rfl (hql.bs hc) 0 rfl l1) rfl ?_
      refine AwC.take (i := 2) (NoP.thn (NoP.blk NoP.midS)) rfl (by kernel_rfl) (by kernel_rfl) (by kernel_rfl) (fun w1 hc => Ex.as (Ex.ldT (ag_26 _) rfl (hql.bs hc) l1) ea') rfl ?_
      refine AwC.take (i := 3) (NoP.thn (NoP.blk NoP.midS)) rfl (by kernel_rfl) (by kernel_rfl) (by kernel_rfl) (fun w1 hc => Ex.move rfl) rfl ?_
      refine AwC.take (i := 4) (NoP.thn (NoP.blk NoP.midS)) rfl (by kernel_rfl) (by kernel_rfl) (by kernel_rfl) (fun w1 hc => Ex.idxT st_39 rfl rfl (hql.bs hc) 1 rfl l2) rfl ?_
      refine AwC.take (i := 5) (NoP.thn (NoP.blk NoP.midS)) rfl (by kernel_rfl) (by kernel_rfl) (by kernel_rfl) (fun w1 hc => Ex.as (Ex.ldT (ag_26 _) rfl (hql.bs hc) l2) eb') rfl ?_
      refine AwC.only (by assumption) (i := 6) (by kernel_rfl) rfl ?_
      refine Lw.callF rfl rfl (equalInts_c a.1 b.1 a.2 b.2 w2 s_a2 s_b2) ?_
      rintro _ w3 ⟨rfl, hn3⟩
      have hd3 : Below w1.heap.size w1 w3 := hd.trans (hn3.mono hd.size)
      have hB3 := hB2.trans (hn3.mono (below_size hB2))
      have hql3 := (hql.bs hd).bs hn3
      refine AwC.back ?_
      refine AwC.done (by assumption) (by kernel_rfl) ?_
      refine Pw.thenN (Cw.out ?_)
      refine Cw.cond rfl ?_ ?_
      · intro e
        have e : a.2 = b.2 := of_decide_eq_true e
        refine Cw.region ?_
        refine Lw.val (Ex.move rfl) rfl ?_
        refine Lw.val (Ex.idxT st_39 rfl rfl hql3 0 rfl l1) rfl ?_
        refine Lw.val (Ex.as (Ex.ldT (ag_26 _) rfl hql3 l1) ea') rfl ?_
        refine Lw.val (Ex.assign rfl) rfl ?_
        refine Lw.nil ?_
        refine Pw.blkN ?_
        exact Pw.midS (a.1) ⟨rfl, trivial⟩ (⟨hB3, by rw [eG, if_pos e]; exact s_a2.bs hn3, by rw [eG, if_pos e]; exact (ok_len k_a).2⟩)
      intro e
      have e : ¬ a.2 = b.2 := of_decide_eq_false e
      refine Cw.skip ?_
      refine Pw.blkN ?_
      exact Pw.midS ((.slice none 0 0)) ⟨rfl, trivial⟩ (⟨hB3, by rw [eG, if_neg e]; exact Sl.nil _ _, by rw [eG, if_neg e]; exact Nat.zero_le _⟩)
    intro g4
    have g4 : ¬ x.k = 4#8 := of_decide_eq_false g4
    refine Cw.seq ?_
    refine Cw.region ?_
    refine Lw.val (Ex.eql8 rfl (show _ = some (b8 (10#8)) from rfl)) rfl ?_
    refine Lw.val (Ex.assign rfl) rfl ?_
    refine Lw.nil ?_
    refine Pw.thenN (Cw.out ?_)
    refine Cw.cond rfl ?_ ?_
    · intro g
      have g : x.k = 10#8 := of_decide_eq_true g
      refine Cw.seq ?_
      have l1 : 0 < qs.length := by have := (kindF_at (by rw [g] at hk; exact hk) kd_10).1; omega
      obtain ⟨a, ea, ga, ma⟩ := h0 l1
      have s_a := hin.each a ma
      have k_a := hok a (hqm a ma)
      have ea' : (qs.getD 0 default).1 = a.1 := by rw [ea]
      have k_s : Shapes.ok x.s = true := (kindF_at (by rw [g] at hk; exact hk) kd_10).2
      have eG : G = if Shapes.size a.2 = Shapes.size x.s then x.s else [] := by rw [hG, g, ← ga]; rfl
      refine Cw.any mixed (fun w2 hd _ => ?_)
      refine Aw.cls (fun w' => Below w1.heap.size w1 w') (fun hC => ?_) (hd)
      have hB2 := hB.trans (hd.mono (below_size hB))
      have h_s2 := h_s.bs hd
      have s_a2 := s_a.bs hd
      refine AwC.take (i := 0) (NoP.thn (NoP.blk NoP.midS)) rfl (by kernel_rfl) (by kernel_rfl) (by kernel_rfl) (fun w1 hc => Ex.move rfl) rfl ?_
      refine AwC.take (i := 1) (NoP.thn (NoP.blk NoP.midS)) rfl (by kernel_rfl) (by kernel_rfl) (by kernel_rfl) (fun w1 hc => Ex.idxT st_39 rfl rfl (hql.bs hc) 0 rfl l1) rfl ?_
      refine AwC.take (i := 2) (NoP.thn (NoP.blk NoP.midS)) rfl (by kernel_rfl) (by kernel_rfl) (by kernel_rfl) (fun w1 hc => Ex.as (Ex.ldT (ag_26 _) rfl (hql.bs hc) l1) ea') rfl ?_
      refine AwC.take (i := 4) (NoP.thn (NoP.blk NoP.midS)) rfl (by kernel_rfl) (by kernel_rfl) (by kernel_rfl) (fun w1 hc => Ex.fieldAddr (q := 0) Tryz.underlying45 rfl (sz_26 _) rfl) rfl ?_
      refine AwC.take (i := 5) (NoP.thn (NoP.blk NoP.midS)) rfl (by kernel_rfl) (by kernel_rfl) (by kernel_rfl) (fun w1 hc => Ex.ldB (ag_26 _) rfl (Blk.bs (by assumption) hc) rfl) rfl ?_
      refine AwC.only (by assumption) (i := 3) (by kernel_rfl) rfl ?_
      refine Lw.callF rfl rfl (size_c a.1 a.2 w2 s_a2) ?_
      rintro _ w3 ⟨rfl, hn3⟩
      have hd3 : Below w1.heap.size w1 w3 := hd.trans (hn3.mono hd.size)
      refine AwC.back ?_
      refine AwC.only (by assumption) (i := 6) (by kernel_rfl) rfl ?_
      refine Lw.callF rfl rfl (size_c x.y x.s w3 (h_s2.bs hn3)) ?_
      rintro _ w4 ⟨rfl, hn4⟩
      have hn34 := hn3.trans (hn4.mono hn3.size)
      have hB4 := hB2.trans (hn34.mono (below_size hB2))
      have hd4 : Below w1.heap.size w1 w4 := hd.trans (hn34.mono hd.size)
      have b_x := (b_x.bs hd).bs hn34
      refine AwC.back ?_
      refine AwC.take (i := 7) (NoP.thn (NoP.blk NoP.midS)) rfl (by kernel_rfl) (by kernel_rfl) (by kernel_rfl) (fun w1 hc => Ex.eql rfl rfl) rfl ?_
      refine AwC.done (by assumption) (by kernel_rfl) ?_
      refine Pw.thenN (Cw.out ?_)
      refine Cw.cond rfl ?_ ?_
      · intro e
        have e : Shapes.size a.2 = Shapes.size x.s := by have := of_decide_eq_true e; omega
        refine Cw.region ?_
        refine Lw.val (Ex.fieldAddr (q := 0) Tryz.underlying45 rfl (sz_26 _) rfl) rfl ?_
        refine Lw.val (Ex.ldB (ag_26 _) rfl (by assumption) rfl) rfl ?_
        refine Lw.val (Ex.assign rfl) rfl ?_
        refine Lw.nil ?_
        refine Pw.blkN ?_
        exact Pw.midS (x.y) ⟨rfl, trivial⟩ (⟨hB4, by rw [eG, if_pos e]; exact h_s2.bs hn34, by rw [eG, if_pos e]; exact (ok_len k_s).2⟩)
      intro e
      have e : ¬ Shapes.size a.2 = Shapes.size x.s := by have := of_decide_eq_false e; omega
      refine Cw.skip ?_
      refine Pw.blkN ?_
      exact Pw.midS ((.slice none 0 0)) ⟨rfl, trivial⟩ (⟨hB4, by rw [eG, if_neg e]; exact Sl.nil _ _, by rw [eG, if_neg e]; exact Nat.zero_le _⟩)
    intro g10
    have g10 : ¬ x.k = 10#8 := of_decide_eq_false g10
    refine Cw.seq ?_
    refine Cw.region ?_
    refine Lw.val (Ex.eql8 rfl (show _ = some (b8 (7#8)) from rfl)) rfl ?_
    refine Lw.val (Ex.assign rfl) rfl ?_
    refine Lw.nil ?_
    refine Pw.thenN (Cw.out ?_)
    refine Cw.cond rfl ?_ ?_
    · intro g
      have g : x.k = 7#8 := of_decide_eq_true g
      have eG : G = if pshE ((ints2 qs).getD 0 []) ((ints2 qs).getD 1 []) = 0 then [((ints2 qs).getD 0 []).getD 0 default, ((ints2 qs).getD 1 []).getD 1 default] else [] := by rw [hG, g]; rfl
      have l1 : 0 < qs.length := by have := (kindF_at (by rw [g] at hk; exact hk) kd_7).1; omega
      obtain ⟨a, ea, ga, ma⟩ := h0 l1
      have s_a := hin.each a ma
      have k_a := hok a (hqm a ma)
      have ea' : (qs.getD 0 default).1 = a.1 := by rw [ea]
      have l2 : 1 < qs.length := by have := (kindF_at (by rw [g] at hk; exact hk) kd_7).1; omega
      obtain ⟨b, eb, gb, mb⟩ := h1q l2
      have s_b := hin.each b mb
      have k_b := hok b (hqm b mb)
      have eb' : (qs.getD 1 default).1 = b.1 := by rw [eb]
      refine Cw.any mixed (fun w2 hd _ => ?_)
      refine Aw.cls (fun w' => Below w1.heap.size w1 w') (fun hC => ?_) (hd)
      have hB2 := hB.trans (hd.mono (below_size hB))
      have h_s2 := h_s.bs hd
      have s_a2 := s_a.bs hd
      have s_b2 := s_b.bs hd
      refine AwC.take (i := 0) (NoP.blk NoP.midS) rfl (by kernel_rfl) (by kernel_rfl) (by kernel_rfl) (fun w1 hc => Ex.move rfl) rfl ?_
      refine AwC.take (i := 1) (NoP.blk NoP.midS) rfl (by kernel_rfl) (by kernel_rfl) (by kernel_rfl) (fun w1 hc => Ex.idxT st_39 rfl rfl (hql.bs hc) 0 rfl l1) rfl ?_
      refine AwC.take (i := 2) (NoP.blk NoP.midS) rfl (by kernel_rfl) (by kernel_rfl) (by kernel_rfl) (fun w1 hc => Ex.as (Ex.ldT (ag_26 _) rfl (hql.bs hc) l1) ea') rfl ?_
      refine AwC.take (i := 3) (NoP.blk NoP.midS) rfl (by kernel_rfl) (by kernel_rfl) (by kernel_rfl) (fun w1 hc => Ex.move rfl) rfl ?_
      refine AwC.take (i := 4) (NoP.blk NoP.midS) rfl (by kernel_rfl) (by kernel_rfl) (by kernel_rfl) (fun w1 hc => Ex.idxT st_39 rfl rfl (hql.bs hc) 1 rfl l2) rfl ?_
      refine AwC.take (i := 5) (NoP.blk NoP.midS) rfl (by kernel_rfl) (by kernel_rfl) (by kernel_rfl) (fun w1 hc => Ex.as (Ex.ldT (ag_26 _) rfl (hql.bs hc) l2) eb') rfl ?_
      refine AwC.only (by assumption) (i := 6) (by kernel_rfl) rfl ?_
      rw [ga, gb] at eG
      refine Lw.callF rfl rfl (pshape_c a.1 b.1 a.2 b.2 w2 s_a2 s_b2) ?_
      rintro _ w3 ⟨hn3, y, rfl, hy0, hy1⟩
      have hd3 : Below w1.heap.size w1 w3 := hd.trans (hn3.mono hd.size)
      have hB3 := hB2.trans (hn3.mono (below_size hB2))
      have hy : SlT (Value.int .i64) w3 y G ∧ G.length ≤ 4 := by
        by_cases e : pshE a.2 b.2 = 0
        · rw [eG, if_pos e]; exact ⟨own_slT (hy1 e), by simp⟩
        · rw [eG, if_neg e, hy0 e]; exact ⟨Sl.nil _ _, by simp⟩
      refine AwC.back ?_
      refine AwC.take (i := 7) (NoP.blk NoP.midS) rfl (by kernel_rfl) (by kernel_rfl) (by kernel_rfl) (fun w1 hc => Ex.move rfl) rfl ?_
      refine AwC.take (i := 8) (NoP.blk NoP.midS) rfl (by kernel_rfl) (by kernel_rfl) (by kernel_rfl) (fun w1 hc => Ex.extract (i := 0) rfl rfl) rfl ?_
      refine AwC.take (i := 9) (NoP.blk NoP.midS) rfl (by kernel_rfl) (by kernel_rfl) (by kernel_rfl) (fun w1 hc => Ex.extract (i := 1) rfl rfl) rfl ?_
      refine AwC.take (i := 10) (NoP.blk NoP.midS) rfl (by kernel_rfl) (by kernel_rfl) (by kernel_rfl) (fun w1 hc => Ex.assign rfl) rfl ?_
      refine AwC.done (by assumption) (by kernel_rfl) ?_
      refine Pw.blkN ?_
      exact Pw.midS (y) ⟨rfl, trivial⟩ (⟨hB3, hy.1, hy.2⟩)
    intro g7
    have g7 : ¬ x.k = 7#8 := of_decide_eq_false g7
    refine Cw.seq ?_
    refine Cw.region ?_
    refine Lw.val (Ex.eql8 rfl (show _ = some (b8 (8#8)) from rfl)) rfl ?_
    refine Lw.val (Ex.assign rfl) rfl ?_
    refine Lw.nil ?_
    refine Pw.thenN (Cw.out ?_)
    refine Cw.cond rfl ?_ ?_
    · intro g
      have g : x.k = 8#8 := of_decide_eq_true g
      have eG : G = if wshE ((ints2 qs).getD 0 []) ((ints2 qs).getD 1 []) x.n x.p = 0 then wshS ((ints2 qs).getD 0 []) ((ints2 qs).getD 1 []) x.n x.p else [] := by rw [hG, g]; rfl
      have l1 : 0 < qs.length := by have := (kindF_at (by rw [g] at hk; exact hk) kd_8).1; omega
      obtain ⟨a, ea, ga, ma⟩ := h0 l1
      have s_a := hin.each a ma
      have k_a := hok a (hqm a ma)
      have ea' : (qs.getD 0 default).1 = a.1 := by rw [ea]
      have l2 : 1 < qs.length := by have := (kindF_at (by rw [g] at hk; exact hk) kd_8).1; omega
      obtain ⟨b, eb, gb, mb⟩ := h1q l2
      have s_b := hin.each b mb
      have k_b := hok b (hqm b mb)
      have eb' : (qs.getD 1 default).1 = b.1 := by rw [eb]
      refine Cw.any mixed (fun w2 hd _ => ?_)
      refine Aw.cls (fun w' => Below w1.heap.size w1 w') (fun hC => ?_) (hd)
      have hB2 := hB.trans (hd.mono (below_size hB))
      have h_s2 := h_s.bs hd
      have s_a2 := s_a.bs hd
      have s_b2 := s_b.bs hd
      refine AwC.take (i := 0) (NoP.blk NoP.midS) rfl (by kernel_rfl) (by kernel_rfl) (by kernel_rfl) (fun w1 hc => Ex.move rfl) rfl ?_
      refine AwC.take (i := 1) (NoP.blk NoP.midS) rfl (by kernel_rfl) (by kernel_rfl) (by kernel_rfl) (fun w1 hc => Ex.idxT st_39 rfl rfl (hql.bs hc) 0 rfl l1) rfl ?_
      refine AwC.take (i := 2) (NoP.blk NoP.midS) rfl (by kernel_rfl) (by kernel_rfl) (by kernel_rfl) (fun w1 hc => Ex.as (Ex.ldT (ag_26 _) rfl (hql.bs hc) l1) ea') rfl ?_
      refine AwC.take (i := 3) (NoP.blk NoP.midS) rfl (by kernel_rfl) (by kernel_rfl) (by kernel_rfl) (fun w1 hc => Ex.move rfl) rfl ?_
      refine AwC.take (i := 4) (NoP.blk NoP.midS) rfl (by kernel_rfl) (by kernel_rfl) (by kernel_rfl) (fun w1 hc => Ex.idxT st_39 rfl rfl (hql.bs hc) 1 rfl l2) rfl ?_
      refine AwC.take (i := 5) (NoP.blk NoP.midS) rfl (by kernel_rfl) (by kernel_rfl) (by kernel_rfl) (fun w1 hc => Ex.as (Ex.ldT (ag_26 _) rfl (hql.bs hc) l2) eb') rfl ?_
      refine AwC.take (i := 6) (NoP.blk NoP.midS) rfl (by kernel_rfl) (by kernel_rfl) (by kernel_rfl) (fun w1 hc => Ex.fieldAddr (q := 0) Tryz.underlying45 rfl (sz_3 _) rfl) rfl ?_
      refine AwC.take (i := 7) (NoP.blk NoP.midS) rfl (by kernel_rfl) (by kernel_rfl) (by kernel_rfl) (fun w1 hc => Ex.ldB (ag_3 _) rfl (Blk.bs (by assumption) hc) rfl) rfl ?_
      refine AwC.take (i := 8) (NoP.blk NoP.midS) rfl (by kernel_rfl) (by kernel_rfl) (by kernel_rfl) (fun w1 hc => Ex.fieldAddr (q := 0) Tryz.underlying45 rfl (sz_3 _) rfl) rfl ?_
      refine AwC.take (i := 9) (NoP.blk NoP.midS) rfl (by kernel_rfl) (by kernel_rfl) (by kernel_rfl) (fun w1 hc => Ex.ldB (ag_3 _) rfl (Blk.bs (by assumption) hc) rfl) rfl ?_
      refine AwC.only (by assumption) (i := 10) (by kernel_rfl) rfl ?_
      rw [ga, gb] at eG
      refine Lw.callF rfl rfl (wshape_c a.2 b.2 x.n x.p a.1 b.1 w2 s_a2 s_b2) ?_
      rintro _ w3 ⟨hn3, y, m, rfl, o_y, hy0, hy1⟩
      have hd3 : Below w1.heap.size w1 w3 := hd.trans (hn3.mono hd.size)
      have hB3 := hB2.trans (hn3.mono (below_size hB2))
      have hy : SlT (Value.int .i64) w3 y G ∧ G.length ≤ 4 := by
        by_cases e : wshE a.2 b.2 x.n x.p = 0
        · rw [eG, if_pos e, ← hy1 e]; exact ⟨own_slT o_y, by rw [hy1 e]; simp [wshS]⟩
        · rw [eG, if_neg e, (hy0 e).1]; exact ⟨Sl.nil _ _, by simp⟩
      refine AwC.back ?_
      refine AwC.take (i := 11) (NoP.blk NoP.midS) rfl (by kernel_rfl) (by kernel_rfl) (by kernel_rfl) (fun w1 hc => Ex.move rfl) rfl ?_
      refine AwC.take (i := 12) (NoP.blk NoP.midS) rfl (by kernel_rfl) (by kernel_rfl) (by kernel_rfl) (fun w1 hc => Ex.extract (i := 0) rfl rfl) rfl ?_
      refine AwC.take (i := 13) (NoP.blk NoP.midS) rfl (by kernel_rfl) (by kernel_rfl) (by kernel_rfl) (fun w1 hc => Ex.extract (i := 1) rfl rfl) rfl ?_
      refine AwC.take (i := 14) (NoP.blk NoP.midS) rfl (by kernel_rfl) (by kernel_rfl) (by kernel_rfl) (fun w1 hc => Ex.assign rfl) rfl ?_
      refine AwC.done (by assumption) (by kernel_rfl) ?_
      refine Pw.blkN ?_
      exact Pw.midS (y) ⟨rfl, trivial⟩ (⟨hB3, hy.1, hy.2⟩)
    intro g8
    have g8 : ¬ x.k = 8#8 := of_decide_eq_false g8
    refine Cw.seq ?_
    refine Cw.region ?_
    refine Lw.val (Ex.eql8 rfl (show _ = some (b8 (9#8)) from rfl)) rfl ?_
    refine Lw.val (Ex.assign rfl) rfl ?_
    refine Lw.nil ?_
    refine Pw.thenN (Cw.out ?_)
    refine Cw.cond rfl ?_ ?_
    · intro g
      have g : x.k = 9#8 := of_decide_eq_true g
      have eG : G = if poolE ((ints2 qs).getD 0 []) x.n = 0 then pshS ((ints2 qs).getD 0 []) x.n else [] := by rw [hG, g]; rfl
      have l1 : 0 < qs.length := by have := (kindF_at (by rw [g] at hk; exact hk) kd_9).1; omega
      obtain ⟨a, ea, ga, ma⟩ := h0 l1
      have s_a := hin.each a ma
      have k_a := hok a (hqm a ma)
      have ea' : (qs.getD 0 default).1 = a.1 := by rw [ea]
      refine Cw.any mixed (fun w2 hd _ => ?_)
      refine Aw.cls (fun w' => Below w1.heap.size w1 w') (fun hC => ?_) (hd)
      have hB2 := hB.trans (hd.mono (below_size hB))
      have h_s2 := h_s.bs hd
      have s_a2 := s_a.bs hd
      refine AwC.take (i := 0) (NoP.blk NoP.midS) rfl (by kernel_rfl) (by kernel_rfl) (by kernel_rfl) (fun w1 hc => Ex.move rfl) rfl ?_
      refine AwC.take (i := 1) (NoP.blk NoP.midS) rfl (by kernel_rfl) (by kernel_rfl) (by kernel_rfl) (fun w1 hc => Ex.idxT st_39 rfl rfl (hql.bs hc) 0 rfl l1) rfl ?_
      refine AwC.take (i := 2) (NoP.blk NoP.midS) rfl (by kernel_rfl) (by kernel_rfl) (by kernel_rfl) (fun w1 hc => Ex.as (Ex.ldT (ag_26 _) rfl (hql.bs hc) l1) ea') rfl ?_
      refine AwC.take (i := 3) (NoP.blk NoP.midS) rfl (by kernel_rfl) (by kernel_rfl) (by kernel_rfl) (fun w1 hc => Ex.fieldAddr (q := 0) Tryz.underlying45 rfl (sz_3 _) rfl) rfl ?_
      refine AwC.take (i := 4) (NoP.blk NoP.midS) rfl (by kernel_rfl) (by kernel_rfl) (by kernel_rfl) (fun w1 hc => Ex.ldB (ag_3 _) rfl (Blk.bs (by assumption) hc) rfl) rfl ?_
      refine AwC.only (by assumption) (i := 5) (by kernel_rfl) rfl ?_
      rw [ga] at eG
      refine Lw.callF rfl rfl (wpshape_c a.2 x.n a.1 w2 s_a2) ?_
      rintro _ w3 ⟨hn3, y, m, rfl, o_y, hy0, hy1⟩
      have hd3 : Below w1.heap.size w1 w3 := hd.trans (hn3.mono hd.size)
      have hB3 := hB2.trans (hn3.mono (below_size hB2))
      have hy : SlT (Value.int .i64) w3 y G ∧ G.length ≤ 4 := by
        by_cases e : poolE a.2 x.n = 0
        · rw [eG, if_pos e, ← hy1 e]; exact ⟨own_slT o_y, by rw [hy1 e]; simp [pshS]⟩
        · rw [eG, if_neg e, (hy0 e).1]; exact ⟨Sl.nil _ _, by simp⟩
      refine AwC.back ?_
      refine AwC.take (i := 6) (NoP.blk NoP.midS) rfl (by kernel_rfl) (by kernel_rfl) (by kernel_rfl) (fun w1 hc => Ex.move rfl) rfl ?_
      refine AwC.take (i := 7) (NoP.blk NoP.midS) rfl (by kernel_rfl) (by kernel_rfl) (by kernel_rfl) (fun w1 hc => Ex.extract (i := 0) rfl rfl) rfl ?_
      refine AwC.take (i := 8) (NoP.blk NoP.midS) rfl (by kernel_rfl) (by kernel_rfl) (by kernel_rfl) (fun w1 hc => Ex.extract (i := 1) rfl rfl) rfl ?_
      refine AwC.take (i := 9) (NoP.blk NoP.midS) rfl (by kernel_rfl) (by kernel_rfl) (by kernel_rfl) (fun w1 hc => Ex.assign rfl) rfl ?_
      refine AwC.done (by assumption) (by kernel_rfl) ?_
      refine Pw.blkN ?_
      exact Pw.midS (y) ⟨rfl, trivial⟩ (⟨hB3, hy.1, hy.2⟩)
    intro g9
    have g9 : ¬ x.k = 9#8 := of_decide_eq_false g9
    refine Cw.seq ?_
    refine Cw.region ?_
    refine Lw.val (Ex.eql8 rfl (show _ = some (b8 (11#8)) from rfl)) rfl ?_
    refine Lw.val (Ex.assign rfl) rfl ?_
    refine Lw.nil ?_
    refine Pw.thenN (Cw.out ?_)
    refine Cw.cond rfl ?_ ?_
    · intro g
      have g : x.k = 11#8 := of_decide_eq_true g
      have k_s : gord x.s = true := (kindF_at (by rw [g] at hk; exact hk) kd_11).2
      have k_c : cov x.s = true ∧ x.s.length ≤ 4 := by unfold gord at k_s; rw [Bool.and_eq_true] at k_s; exact ⟨k_s.1, of_decide_eq_true k_s.2⟩
      have eG : G = trnG ((ints2 qs).getD 0 []) x.s := by rw [hG, g]; rfl
      have l1 : 0 < qs.length := by have := (kindF_at (by rw [g] at hk; exact hk) kd_11).1; omega
      obtain ⟨a, ea, ga, ma⟩ := h0 l1
      have s_a := hin.each a ma
      have k_a := hok a (hqm a ma)
      have ea' : (qs.getD 0 default).1 = a.1 := by rw [ea]
      refine Cw.any mixed (fun w2 hd _ => ?_)
      refine Aw.cls (fun w' => Below w1.heap.size w1 w') (fun hC => ?_) (hd)
      have hB2 := hB.trans (hd.mono (below_size hB))
      have h_s2 := h_s.bs hd
      have s_a2 := s_a.bs hd
      refine AwC.take (i := 0) (NoP.blk NoP.midS) rfl (by kernel_rfl) (by kernel_rfl) (by kernel_rfl) (fun w1 hc => Ex.move rfl) rfl ?_
      refine AwC.take (i := 1) (NoP.blk NoP.midS) rfl (by kernel_rfl) (by kernel_rfl) (by kernel_rfl) (fun w1 hc => Ex.idxT st_39 rfl rfl (hql.bs hc) 0 rfl l1) rfl ?_
      refine AwC.take (i := 2) (NoP.blk NoP.midS) rfl (by kernel_rfl) (by kernel_rfl) (by kernel_rfl) (fun w1 hc => Ex.as (Ex.ldT (ag_26 _) rfl (hql.bs hc) l1) ea') rfl ?_
      refine AwC.take (i := 3) (NoP.blk NoP.midS) rfl (by kernel_rfl) (by kernel_rfl) (by kernel_rfl) (fun w1 hc => Ex.fieldAddr (q := 0) Tryz.underlying45 rfl (sz_26 _) rfl) rfl ?_
      refine AwC.take (i := 4) (NoP.blk NoP.midS) rfl (by kernel_rfl) (by kernel_rfl) (by kernel_rfl) (fun w1 hc => Ex.ldB (ag_26 _) rfl (Blk.bs (by assumption) hc) rfl) rfl ?_
      refine AwC.only (by assumption) (i := 5) (by kernel_rfl) rfl ?_
      rw [ga] at eG
      refine Lw.callF rfl rfl (gturned_c a.1 x.y a.2 x.s w2 s_a2 h_s2 (cov_bd k_c.1 k_c.2) (by omega)) ?_
      rintro y w3 ⟨s_y, hn3⟩
      have hd3 : Below w1.heap.size w1 w3 := hd.trans (hn3.mono hd.size)
      have hB3 := hB2.trans (hn3.mono (below_size hB2))
      have lG : G.length ≤ 4 := by rw [eG]; unfold trnG; split; rw [List.length_map]; exact k_c.2; simp
      refine AwC.back ?_
      refine AwC.take (i := 6) (NoP.blk NoP.midS) rfl (by kernel_rfl) (by kernel_rfl) (by kernel_rfl) (fun w1 hc => Ex.assign rfl) rfl ?_
      refine AwC.done (by assumption) (by kernel_rfl) ?_
      refine Pw.blkN ?_
      exact Pw.midS (y) ⟨rfl, trivial⟩ (⟨hB3, by rw [eG]; exact s_y, lG⟩)
    intro g11
    have g11 : ¬ x.k = 11#8 := of_decide_eq_false g11
    refine Cw.seq ?_
    refine Cw.region ?_
    refine Lw.val (Ex.eql8 rfl (show _ = some (b8 (12#8)) from rfl)) rfl ?_
    refine Lw.val (Ex.assign rfl) rfl ?_
    refine Lw.nil ?_
    refine Pw.thenN (Cw.out ?_)
    refine Cw.cond rfl ?_ ?_
    · intro g
      have g : x.k = 12#8 := of_decide_eq_true g
      refine Cw.region ?_
      refine Lw.val (Ex.move rfl) rfl ?_
      refine Lw.val (Ex.fieldAddr (q := 0) Tryz.underlying45 rfl (sz_3 _) rfl) rfl ?_
      refine Lw.val (Ex.ldB (ag_3 _) rfl (by assumption) rfl) rfl ?_
      have l1 : 0 < qs.length := by have := (kindF_at (by rw [g] at hk; exact hk) kd_12).1; omega
      have n0 : 0 ≤ x.n := by have := (kindF_at (by rw [g] at hk; exact hk) kd_12).1; omega
      have eG : G = jnG (ints2 qs) x.n.toNat := by rw [hG, g]; rfl
      have hj := gjoined_c u qs x.n.toNat w1 hin l1 (by omega) hq4
      rw [ito_x x.n n0] at hj
      have lG : G.length ≤ 4 := by
        rw [eG]
        obtain ⟨a, -, ga, ma⟩ := h0 l1
        refine jnG_len ?_
        have : (ints2 qs).headD [] = (ints2 qs).getD 0 [] := by cases ints2 qs <;> rfl
        rw [this, ga]; exact (hq4 a ma).1
      refine Lw.callF rfl rfl (hj) ?_
      rintro y w3 ⟨s_y, hn3⟩
      have hB3 := hB.trans (hn3.mono (below_size hB))
      refine Lw.val (Ex.assign rfl) rfl ?_
      refine Lw.nil ?_
      refine Pw.blkN ?_
      exact Pw.midS (y) ⟨rfl, trivial⟩ (⟨hB3, by rw [eG]; exact s_y, lG⟩)
    intro g12
    have g12 : ¬ x.k = 12#8 := of_decide_eq_false g12
    refine Cw.seq ?_
    refine Cw.region ?_
    refine Lw.val (Ex.eql8 rfl (show _ = some (b8 (13#8)) from rfl)) rfl ?_
    refine Lw.val (Ex.assign rfl) rfl ?_
    refine Lw.nil ?_
    refine Pw.thenN (Cw.out ?_)
    refine Cw.cond rfl ?_ ?_
    · intro g
      have g : x.k = 13#8 := of_decide_eq_true g
      have n0 : 0 ≤ x.n := by have := (kindF_at (by rw [g] at hk; exact hk) kd_13).1; omega
      have eG : G = woG ((ints2 qs).getD 0 []) x.n := by rw [hG, g]; rfl
      have l1 : 0 < qs.length := by have := (kindF_at (by rw [g] at hk; exact hk) kd_13).1; omega
      obtain ⟨a, ea, ga, ma⟩ := h0 l1
      have s_a := hin.each a ma
      have k_a := hok a (hqm a ma)
      have ea' : (qs.getD 0 default).1 = a.1 := by rw [ea]
      refine Cw.any mixed (fun w2 hd _ => ?_)
      refine Aw.cls (fun w' => Below w1.heap.size w1 w') (fun hC => ?_) (hd)
      have hB2 := hB.trans (hd.mono (below_size hB))
      have h_s2 := h_s.bs hd
      have s_a2 := s_a.bs hd
      refine AwC.take (i := 0) (NoP.blk NoP.midS) rfl (by kernel_rfl) (by kernel_rfl) (by kernel_rfl) (fun w1 hc => Ex.move rfl) rfl ?_
      refine AwC.take (i := 1) (NoP.blk NoP.midS) rfl (by kernel_rfl) (by kernel_rfl) (by kernel_rfl) (fun w1 hc => Ex.idxT st_39 rfl rfl (hql.bs hc) 0 rfl l1) rfl ?_
      refine AwC.take (i := 2) (NoP.blk NoP.midS) rfl (by kernel_rfl) (by kernel_rfl) (by kernel_rfl) (fun w1 hc => Ex.as (Ex.ldT (ag_26 _) rfl (hql.bs hc) l1) ea') rfl ?_
      refine AwC.take (i := 3) (NoP.blk NoP.midS) rfl (by kernel_rfl) (by kernel_rfl) (by kernel_rfl) (fun w1 hc => Ex.fieldAddr (q := 0) Tryz.underlying45 rfl (sz_3 _) rfl) rfl ?_
      refine AwC.take (i := 4) (NoP.blk NoP.midS) rfl (by kernel_rfl) (by kernel_rfl) (by kernel_rfl) (fun w1 hc => Ex.ldB (ag_3 _) rfl (Blk.bs (by assumption) hc) rfl) rfl ?_
      refine AwC.only (by assumption) (i := 5) (by kernel_rfl) rfl ?_
      rw [ga] at eG
      refine Lw.callF rfl rfl (gwithout_c a.1 a.2 x.n w2 s_a2 n0 (by have := (ok_len k_a).2; omega)) ?_
      rintro y w3 ⟨s_y, hn3⟩
      have hd3 : Below w1.heap.size w1 w3 := hd.trans (hn3.mono hd.size)
      have hB3 := hB2.trans (hn3.mono (below_size hB2))
      have lG : G.length ≤ 4 := by
        have := (ok_len k_a).2
        rw [eG]; unfold woG
        split
        · simp
        · split
          · simp
          · rw [List.length_eraseIdx]; split <;> omega
      refine AwC.back ?_
      refine AwC.take (i := 6) (NoP.blk NoP.midS) rfl (by kernel_rfl) (by kernel_rfl) (by kernel_rfl) (fun w1 hc => Ex.assign rfl) rfl ?_
      refine AwC.done (by assumption) (by kernel_rfl) ?_
      refine Pw.blkN ?_
      exact Pw.midS (y) ⟨rfl, trivial⟩ (⟨hB3, by rw [eG]; exact s_y, lG⟩)
    intro g13
    have g13 : ¬ x.k = 13#8 := of_decide_eq_false g13
    exfalso
    have hs : (kdOf x.k).isSome = true := by
      cases e : kdOf x.k with
      | some _ => rfl
      | none => unfold kindF at hk; rw [e] at hk; cases hk
    rcases kd_some x.k hs with e | e | e | e | e | e | e | e | e | e | e | e | e
    · exact g1 e
    · exact g2 e
    · exact g3 e
    · exact g4 e
    · exact g5 e
    · exact g6 e
    · exact g7 e
    · exact g8 e
    · exact g9 e
    · exact g10 e
    · exact g11 e
    · exact g12 e
    · exact g13 e
  rintro y w2 ⟨hB2, s_y, hG4⟩
  refine Cw.seq ?_
  refine Cw.region ?_
  refine Lw.val (Ex.move rfl) rfl ?_
  refine Lw.callF rfl rfl (clone_c y G w2 s_y (by omega)) ?_
  rintro r w3 ⟨o_r, hn3⟩
  refine Lw.callF rfl rfl (clip_c r G w3 (own_slT o_r)) ?_
  rintro _ w4 ⟨rfl, hn4⟩
  refine Lw.val (Ex.assign rfl) rfl ?_
  refine Lw.nil ?_
  refine Pw.thenN (Cw.out ?_)
  refine Cw.ret ?_
  refine Pw.ret1 rfl rfl ?_
  have kr := (KRow.clip o_r).bs hn4
  have z2 := below_size hB2
  exact ⟨kr.slT, (hB2.trans (hn3.mono (below_size hB2))).trans (hn4.mono (by have := hn3.size; omega)), fun b e => by have := kr.lt b e; omega⟩
end Go.Proofs.YtmipoeanpnnjoaaGreat

/-! Contracts: the shapes of a graph; may it be; its weights. -/
namespace Go.Proofs.YtmipoeanpnnjoaaGreat
open Go Go.Dd Go.RowKit
set_option maxRecDepth 100000

instance : Inhabited N5 := ⟨⟨0#8, .slice none 0 0, .slice none 0 0, [], [], 0, 0⟩⟩
theorem N5.cells_len (a : N5) : a.cells.length = 5 := rfl
/-- Nodes, in memory. -/
structure GN (w : World) (v : Value) (ls : List N5) : Prop where
  sl : Sl w 5 v ls.length (flw N5.cells ls)
  each : ∀ a ∈ ls, N5.at w a
theorem GN.bs {w w' : World} {v : Value} {ls : List N5} (h : GN w v ls) (g : Below w.heap.size w w') : GN w' v ls := ⟨h.sl.bs g, fun a ha => (h.each a ha).bs g⟩
theorem GN.cells {w : World} {v : Value} {ls : List N5} (_h : GN w v ls) {i : Nat} (hi : i < ls.length) : ∀ k, k < 5 → ∃ q, (ls[i]).cells[k]? = some q ∧ (flw N5.cells ls)[i * 5 + k]? = some q := fun k hk => by
  rw [flw_get (fun a _ => N5.cells_len a) hi hk]
  exact ⟨_, List.getElem?_eq_getElem (by rw [N5.cells_len]; exact hk), List.getElem?_eq_getElem _⟩
def inB (m : Nat) (l : List Int) : Bool := l.any fun n => decide (n < 0) || decide ((m : Int) ≤ n)
def stp (acc : List (List Int)) (x : N5) : Option (List Int) :=
  if kindF x.k x.i x.s x.n x.p && !inB acc.length x.i && Shapes.ok (gshN x.k x.s x.n x.p (x.i.map fun j => acc.getD j.toNat [])) then some (gshN x.k x.s x.n x.p (x.i.map fun j => acc.getD j.toNat [])) else none
def gshR : List (List Int) → List N5 → Option (List (List Int))
  | acc, [] => some acc
  | acc, x :: l => match stp acc x with
    | some s => gshR (acc ++ [s]) l
    | none => none
def lastF (k : BitVec 8) : Bool := match kdOf k with
  | some r => decide (r.getD 1 0 ≠ 0)
  | none => false
def inputs (ls : List N5) : Nat := (ls.filter fun a => decide (a.k = 1#8)).length
def gsh (ls : List N5) : Option (List (List Int)) :=
  if ls.length < 1 ∨ 32 < ls.length then none else match gshR [] ls with
  | some ss => if inputs ls = 1 ∧ lastF (ls.getD (ls.length - 1) default).k = true then some ss else none
  | none => none
theorem sh1_c (n : Int) (A m : Nat) (w : World) (b_A : Blk w A 3 [.int .i64 (m : Int)]) : Fnc Tryz.prog 38 [.int .i64 n, .pointer (some ⟨A, 0, none⟩)] w (fun r w' => r = .bool (decide (n < 0) || decide ((m : Int) ≤ n)) ∧ w' = w) := by
  refine Fnc.enter (n := 11) Tryz.func38 (by kernel_rfl) rfl rfl rfl ?_
  refine Cw.seq ?_
  refine Cw.region ?_
  refine Lw.val (Ex.assign rfl) rfl ?_
  refine Lw.nil ?_
  refine Pw.thenN (Cw.out ?_)
  refine Cw.seq ?_
  refine Cw.region ?_
  refine Lw.val (Ex.move rfl) rfl ?_
  refine Lw.val (Ex.lss rfl rfl) rfl ?_
  refine Lw.val (Ex.move rfl) rfl ?_
  refine Lw.part 6 rfl ?_ ?_
  · intro g
    refine Lw.pass (dj := 6) rfl rfl rfl rfl ?_
    refine Lw.pass (dj := 6) rfl rfl rfl rfl ?_
    refine Lw.pass (dj := 6) rfl rfl rfl rfl ?_
    refine Lw.val (Ex.pickT rfl rfl) rfl ?_
    refine Lw.val (Ex.assign rfl) rfl ?_
    refine Lw.nil ?_
    refine Pw.thenN (Cw.out ?_)
    refine Cw.ret ?_
    refine Pw.ret1 rfl rfl ?_
    rw [g]
    exact ⟨rfl, rfl⟩
  intro g
  refine Lw.take (dj := 6) rfl rfl ?_
  refine Lw.val (Ex.move rfl) rfl ?_
  refine Lw.take (dj := 6) rfl rfl ?_
  refine Lw.val (Ex.ldB (ag_3 _) rfl (by assumption) rfl) rfl ?_
  refine Lw.take (dj := 6) rfl rfl ?_
  refine Lw.val (Ex.geq rfl rfl) rfl ?_
  refine Lw.val (Ex.pickF rfl rfl) rfl ?_
  refine Lw.val (Ex.assign rfl) rfl ?_
  refine Lw.nil ?_
  refine Pw.thenN (Cw.out ?_)
  refine Cw.ret ?_
  refine Pw.ret1 rfl rfl ?_
  rw [g]
  exact ⟨rfl, rfl⟩
theorem gidx_c (v : Value) (l : List Int) (A m : Nat) (w : World) (hv : SlT (Value.int .i64) w v l) (b_A : Blk w A 3 [.int .i64 (m : Int)]) : Fnc Tryz.prog 64 [v, .func (.func 38) #[] [.pointer (some ⟨A, 0, none⟩)].toArray] w (fun r w' => (∃ j, r = .int .i64 j ∧ decide (0 ≤ j) = inB m l) ∧ w' = w) := by
  have hle := hv.le
  refine Fnc.enter (n := 19) Tryz.func64 (by kernel_rfl) rfl rfl rfl ?_
  refine Cw.seq ?_
  refine Cw.region ?_
  refine Lw.val (Ex.assign rfl) rfl ?_
  refine Lw.nil ?_
  refine Pw.thenN (Cw.out ?_)
  refine Cw.seq ?_
  refine Cw.seq ?_
  refine Cw.region ?_
  refine Lw.val (Ex.move rfl) rfl ?_
  refine Lw.val (Ex.lenS st_26 rfl (by assumption)) rfl ?_
  refine Lw.val (Ex.move rfl) rfl ?_
  refine Lw.nil ?_
  refine Pw.thenN (Cw.out ?_)
  refine Cw.block ?_
  refine Cw.loop (S := Nat) (fun i => [(0, v), (1, .func (.func 38) #[] [.pointer (some ⟨A, 0, none⟩)].toArray), (7, .int .i64 (l.length : Int)), (8, .int .i64 (i : Int))]) (fun i w' => i ≤ l.length ∧ inB m (l.take i) = false ∧ w' = w) (fun i => l.length - i) (0) ⟨rfl, rfl, rfl, rfl, trivial⟩ ?_ ?_
  · exact ⟨Nat.zero_le _, rfl, rfl⟩
  rintro i w1 ⟨hi, hc, rfl⟩
  refine Cw.seq ?_
  refine Cw.region ?_
  refine Lw.val (Ex.lss rfl rfl) rfl ?_
  refine Lw.nil ?_
  refine Pw.thenN (Cw.out ?_)
  refine Cw.seq ?_
  refine Cw.cond rfl ?_ ?_
  · intro hlt
    have hi' : i < l.length := by have := of_decide_eq_true hlt; omega
    have e1 : inB m (l.take (i + 1)) = (inB m (l.take i) || (decide (l.getD i default < 0) || decide ((m : Int) ≤ l.getD i default))) := by
      unfold inB
      rw [List.take_succ_eq_append_getElem hi', List.any_append]
      simp [hi']
    refine Cw.skip ?_
    refine Pw.thenN (Cw.out ?_)
    refine Cw.seq ?_
    refine Cw.block ?_
    refine Cw.seq ?_
    refine Cw.region ?_
    refine Lw.val (Ex.move rfl) rfl ?_
    refine Lw.val (Ex.assign rfl) rfl ?_
    refine Lw.nil ?_
    refine Pw.thenN (Cw.out ?_)
    refine Cw.seq ?_
    refine Cw.region ?_
    refine Lw.val (Ex.move rfl) rfl ?_
    refine Lw.val (Ex.move rfl) rfl ?_
    refine Lw.val (Ex.move rfl) rfl ?_
    refine Lw.val (Ex.idxT st_26 rfl rfl (by assumption) _ rfl (by omega)) rfl ?_
    refine Lw.val (Ex.ldT (ag_3 _) rfl (by assumption) (by omega)) rfl ?_
    refine Lw.callV (p := []) (q := [.pointer (some ⟨A, 0, none⟩)]) rfl rfl rfl (sh1_c (l.getD i default) A m w1 b_A) ?_
    rintro _ _ ⟨rfl, rfl⟩
    refine Lw.nil ?_
    refine Pw.thenN (Cw.out ?_)
    refine Cw.cond rfl ?_ ?_
    · intro g
      refine Cw.seq ?_
      refine Cw.region ?_
      refine Lw.val (Ex.move rfl) rfl ?_
      refine Lw.val (Ex.assign rfl) rfl ?_
      refine Lw.nil ?_
      refine Pw.thenN (Cw.out ?_)
      refine Cw.ret ?_
      refine Pw.blkR ?_
      refine Pw.thenR ?_
      refine Pw.thenR ?_
      refine Pw.blkR ?_
      refine Pw.thenR ?_
      refine Pw.ret1 rfl rfl ?_
      refine ⟨⟨(i : Int), rfl, ?_⟩, rfl⟩
      have hm : l.getD i default ∈ l := getD_mem hi'
      have : inB m l = true := by unfold inB; exact List.any_eq_true.2 ⟨_, hm, g⟩
      rw [this, decide_eq_true (by omega)]
    intro g
    refine Cw.skip ?_
    refine Pw.blkN ?_
    refine Pw.thenN (Cw.out ?_)
    refine Cw.region ?_
    refine Lw.val (Ex.addI rfl rfl (by omega)) rfl ?_
    refine Lw.val (Ex.move rfl) rfl ?_
    refine Lw.nil ?_
    exact Pw.thenN (Pw.next (i + 1) ⟨rfl, rfl, rfl, rfl, trivial⟩ (⟨hi', by rw [e1, hc, g]; rfl, rfl⟩) (by omega))
  intro hge
  have hi' : i = l.length := by have := of_decide_eq_false hge; omega
  subst hi'
  rw [List.take_length] at hc
  refine Cw.exit ?_
  refine Pw.thenE ?_
  refine Pw.thenE ?_
  refine Pw.blkHit ?_
  refine Pw.thenN (Cw.out ?_)
  refine Cw.seq ?_
  refine Cw.region ?_
  refine Lw.val (Ex.assign rfl) rfl ?_
  refine Lw.nil ?_
  refine Pw.thenN (Cw.out ?_)
  refine Cw.ret ?_
  refine Pw.ret1 rfl rfl ?_
  exact ⟨⟨-1, rfl, by rw [hc]; rfl⟩, rfl⟩
theorem ghas_c (v : Value) (l : List Int) (A m : Nat) (w : World) (hv : SlT (Value.int .i64) w v l) (b_A : Blk w A 3 [.int .i64 (m : Int)]) : Fnc Tryz.prog 37 [v, .func (.func 38) #[] [.pointer (some ⟨A, 0, none⟩)].toArray] w (fun r w' => r = .bool (inB m l) ∧ Below w.heap.size w w') := by
  refine Fnc.enter (n := 9) Tryz.func37 (by kernel_rfl) rfl rfl rfl ?_
  refine Cw.seq ?_
  refine Cw.region ?_
  refine Lw.val (Ex.assign rfl) rfl ?_
  refine Lw.nil ?_
  refine Pw.thenN (Cw.out ?_)
  refine Cw.seq ?_
  refine Cw.region ?_
  refine Lw.val (Ex.move rfl) rfl ?_
  refine Lw.val (Ex.move rfl) rfl ?_
  refine Lw.callF rfl rfl (gidx_c v l A m w hv b_A) ?_
  rintro _ _ ⟨⟨j, rfl, hj⟩, rfl⟩
  refine Lw.val (Ex.geq rfl rfl) rfl ?_
  refine Lw.val (Ex.assign rfl) rfl ?_
  refine Lw.nil ?_
  refine Pw.thenN (Cw.out ?_)
  refine Cw.ret ?_
  refine Pw.ret1 rfl rfl ?_
  exact ⟨congrArg Value.bool hj, Below.refl _ _⟩
theorem clipL_c (u : Value) (ps : List (Value × List Int)) (w : World) (hu : SlT (fun p : Value × List Int => p.1) w u ps) : Fnc Tryz.prog 42 [u] w (fun r w' => r = clip u ∧ Below w.heap.size w w') := by
  refine Fnc.enter (n := 9) Tryz.func42 (by kernel_rfl) rfl rfl rfl ?_
  refine Cw.seq ?_
  refine Cw.region ?_
  refine Lw.val (Ex.assign rfl) rfl ?_
  refine Lw.nil ?_
  refine Pw.thenN (Cw.out ?_)
  refine Cw.seq ?_
  refine Cw.region ?_
  refine Lw.val (Ex.move rfl) rfl ?_
  refine Lw.val (Ex.move rfl) rfl ?_
  refine Lw.val (Ex.lenS st_39 rfl (by assumption)) rfl ?_
  refine Lw.val (Ex.move rfl) rfl ?_
  refine Lw.val (Ex.lenS st_39 rfl (by assumption)) rfl ?_
  refine Lw.val (Ex.clip st_39 rfl rfl rfl hu.shp) rfl ?_
  refine Lw.val (Ex.assign rfl) rfl ?_
  refine Lw.nil ?_
  refine Pw.thenN (Cw.out ?_)
  refine Cw.ret ?_
  refine Pw.ret1 rfl rfl ?_
  exact ⟨rfl, Below.refl _ _⟩
/-- What a row's lookup comes to. -/
theorem kd_look {k : BitVec 8} {r : List Int} (h : kdOf k = some r) : KD (b8 k) (kv r) ∧ (∀ v, KD (b8 k) v → v = kv r) ∧ r.length = 6 := by
  unfold kdOf at h
  cases hf : kdT.find? (fun p => decide (p.2.1 = (k.toNat : Int))) with
  | none => rw [hf] at h; cases h
  | some p =>
    rw [hf] at h
    obtain rfl : p.2.2 = r := by simpa using h
    have hm := List.mem_of_find?_eq_some hf
    have hk : p.2.1 = (k.toNat : Int) := by have := List.find?_some hf; simpa using this
    have hu : ∀ p ∈ kdT, ∀ q ∈ kdT, p.2.1 = q.2.1 → p = q := by decide
    have h6 : ∀ p ∈ kdT, p.2.2.length = 6 := by decide
    refine ⟨⟨p, hm, by rw [hk], rfl⟩, fun v ⟨q, hq, h1, h2⟩ => ?_, h6 p hm⟩
    have : (k.toNat : Int) = q.2.1 := by injection h1
    rw [h2, hu p hm q hq (hk.trans this)]
theorem kd_look_no {k : BitVec 8} (h : kdOf k = none) : ∀ v, ¬ KD (b8 k) v := fun v ⟨q, hq, h1, _⟩ => by
  unfold kdOf at h
  have hf : kdT.find? (fun p => decide (p.2.1 = (k.toNat : Int))) = none := by simpa using h
  have := List.find?_eq_none.1 hf q hq
  have e : (k.toNat : Int) = q.2.1 := by injection h1
  simp [e] at this
theorem six_of {l : List Int} (h : l.length = 6) : ∃ a b c d e f, l = [a, b, c, d, e, f] := by
  match l, h with
  | [a, b, c, d, e, f], _ => exact ⟨a, b, c, d, e, f, rfl⟩
theorem mapIn_by {w w' : World} {M : Nat} {d : TypeDesc} {S : Value → Value → Prop} {r : Option Nat} (h : MapIn w M d S) (g : w.grownBy w' r) (hne : some M ≠ r) : MapIn w' M d S := by
  have hl := h.lt
  obtain ⟨es, c, h, h2⟩ := h
  exact ⟨es, c, by rw [g.block M hl hne]; exact h, h2⟩
abbrev nodeT : TypeId := 45
abbrev kindT : TypeId := 76
/-- Off a list's own block. -/
def offL (B : Nat) (w : World) (u : Value) (ps : List (Value × List Int)) : Prop := ∀ p ∈ ps, SlT (Value.int .i64) w p.1 p.2 ∧ ∀ b, p.1.ownBlock = some b → (B ≤ b ∧ b < w.heap.size) ∧ u.ownBlock ≠ some b
theorem offL.bs {B : Nat} {w w' : World} {u : Value} {ps : List (Value × List Int)} (h : offL B w u ps) (g : Below w.heap.size w w') : offL B w' u ps := fun p hp => ⟨(h p hp).1.bs g, fun b e => ⟨⟨((h p hp).2 b e).1.1, Nat.lt_of_lt_of_le ((h p hp).2 b e).1.2 g.size⟩, ((h p hp).2 b e).2⟩⟩
theorem offL.by {B A : Nat} {w w' : World} {u : Value} {ps : List (Value × List Int)} (h : offL B w u ps) (g : w.grownBy w' (some A)) (hA : A < B) : offL B w' u ps := fun p hp =>
  ⟨(h p hp).1.keep (fun b hb e => g.block b hb (fun e2 => by have := ((h p hp).2 b e).1.1; cases e2; omega)), fun b e => ⟨⟨((h p hp).2 b e).1.1, Nat.lt_of_lt_of_le ((h p hp).2 b e).1.2 g.size⟩, ((h p hp).2 b e).2⟩⟩
theorem offL.grow {B : Nat} {w w' : World} {u u' : Value} {ps : List (Value × List Int)} (h : offL B w u ps) (g : w.grownBy w' u.ownBlock) (hc : u'.ownBlock = u.ownBlock ∨ u'.ownBlock = some w.heap.size) : offL B w' u' ps := fun p hp =>
  ⟨(h p hp).1.keep (fun b hb e => g.block b hb (fun e2 => ((h p hp).2 b e).2 e2.symm)), fun b e => ⟨⟨((h p hp).2 b e).1.1, Nat.lt_of_lt_of_le ((h p hp).2 b e).1.2 g.size⟩, fun e2 => by
    rcases hc with hc | hc
    · exact ((h p hp).2 b e).2 (hc ▸ e2)
    · rw [hc] at e2; have := ((h p hp).2 b e).1.2; cases e2; omega⟩⟩
theorem gshR_all : ∀ (ls : List N5) (acc ss : List (List Int)), gshR acc ls = some ss → ∀ x ∈ ls, kindF x.k x.i x.s x.n x.p = true
  | [], _, _, _, x, hx => by cases hx
  | y :: ls, acc, ss, h, x, hx => by
    unfold gshR at h
    cases e : stp acc y with
    | none => rw [e] at h; cases h
    | some s =>
      rw [e] at h
      rcases List.mem_cons.1 hx with rfl | hx
      · unfold stp at e
        split at e
        · rename_i hc
          simp only [Bool.and_eq_true] at hc
          exact hc.1.1
        · cases e
      · exact gshR_all ls _ _ h x hx
theorem kindF_row {k : BitVec 8} {i s : List Int} {n p : Int} (h : kindF k i s n p = true) : ∃ a b c d e f, kdOf k = some [a, b, c, d, e, f] := by
  unfold kindF at h
  split at h
  · rename_i a b c d e f he; exact ⟨a, b, c, d, e, f, he⟩
  · cases h
set_option maxHeartbeats 1000000 in
theorem gshapes_c (v : Value) (ls : List N5) (W : World) (h : GN W v ls) :
    Fnc Tryz.prog 12 [.agg [v].toArray] W (fun r w' => Below W.heap.size W w' ∧ match gsh ls with
      | none => r = .tuple #[.slice none 0 0, .int .i64 1]
      | some ss => ∃ u ps, r = .tuple #[u, .int .i64 0] ∧ LI w' u ps ∧ ints2 ps = ss) := by
  obtain ⟨R, hR⟩ : ∃ R, R = gsh ls := ⟨_, rfl⟩
  rw [← hR]
  have hB := Below.refl W.heap.size W
  have h_v := h.sl
  have hle := h.sl.le
  refine Fnc.enter (n := 92) Tryz.func12 (by kernel_rfl) rfl rfl rfl ?_
  refine Cw.seq ?_
  refine Cw.region ?_
  refine Lw.boxV (cs := [v]) rfl rfl rfl ?_
  rintro A_g w eA_g b_g hn -
  replace hB := hB.bs hn
  replace h_v := h_v.bs hn
  clear hn
  refine Lw.val (Ex.assign rfl) rfl ?_
  refine Lw.val (Ex.assign rfl) rfl ?_
  refine Lw.nil ?_
  refine Pw.thenN (Cw.out ?_)
  refine Cw.seq ?_
  refine Cw.region ?_
  refine Lw.val (Ex.fieldAddr (q := 0) Tryz.underlying24 rfl (sz_22 _) rfl) rfl ?_
  refine Lw.val (Ex.ldB (ag_22 _) rfl (by assumption) rfl) rfl ?_
  refine Lw.val (Ex.lenS st_22 rfl (by assumption)) rfl ?_
  refine Lw.val (Ex.assign rfl) rfl ?_
  refine Lw.nil ?_
  refine Pw.thenN (Cw.out ?_)
  refine Cw.seq ?_
  refine Cw.seq ?_
  refine Cw.region ?_
  refine Lw.val (Ex.move rfl) rfl ?_
  refine Lw.val (Ex.lss rfl rfl) rfl ?_
  refine Lw.val (Ex.move rfl) rfl ?_
  refine Lw.part 19 rfl ?_ ?_
  · intro g
    have g := of_decide_eq_true g
    refine Lw.pass (dj := 19) rfl rfl rfl rfl ?_
    refine Lw.pass (dj := 19) rfl rfl rfl rfl ?_
    refine Lw.val (Ex.pickT rfl rfl) rfl ?_
    refine Lw.nil ?_
    refine Pw.thenN (Cw.out ?_)
    refine Cw.condT rfl ?_
    refine Cw.seq ?_
    refine Cw.region ?_
    refine Lw.val (Ex.assign rfl) rfl ?_
    refine Lw.val (Ex.assign rfl) rfl ?_
    refine Lw.nil ?_
    refine Pw.thenN (Cw.out ?_)
    refine Cw.ret ?_
    refine Pw.thenR ?_
    refine Pw.ret2 rfl rfl rfl ?_
    have hN : R = none := by rw [hR, gsh, if_pos (by omega)]
    rw [hN]
    exact ⟨hB, rfl⟩
  intro g1
  have g1 := of_decide_eq_false g1
  refine Lw.take (dj := 19) rfl rfl ?_
  refine Lw.val (Ex.move rfl) rfl ?_
  refine Lw.take (dj := 19) rfl rfl ?_
  refine Lw.val (Ex.gtr rfl rfl) rfl ?_
  refine Lw.val (Ex.pickF rfl rfl) rfl ?_
  refine Lw.nil ?_
  refine Pw.thenN (Cw.out ?_)
  refine Cw.cond rfl ?_ ?_
  · intro g
    have g := of_decide_eq_true g
    refine Cw.seq ?_
    refine Cw.region ?_
    refine Lw.val (Ex.assign rfl) rfl ?_
    refine Lw.val (Ex.assign rfl) rfl ?_
    refine Lw.nil ?_
    refine Pw.thenN (Cw.out ?_)
    refine Cw.ret ?_
    refine Pw.thenR ?_
    refine Pw.ret2 rfl rfl rfl ?_
    have hN : R = none := by rw [hR, gsh, if_pos (by omega)]
    rw [hN]
    exact ⟨hB, rfl⟩
  intro g2
  have g2 := of_decide_eq_false g2
  have hgs : gsh ls = match gshR [] ls with | some ss => if inputs ls = 1 ∧ lastF (ls.getD (ls.length - 1) default).k = true then some ss else none | none => none := by rw [gsh, if_neg (by omega)]
  have hRn : gshR [] ls = none → R = none := fun e => by rw [hR, hgs, e]
  have z1 := below_size hB
  have y_g := blk_lt b_g
  refine Cw.skip ?_
  refine Pw.thenN (Cw.out ?_)
  refine Cw.seq ?_
  refine Cw.region ?_
  refine Lw.callF rfl rfl (kinds_c w) ?_
  rintro _ w1 ⟨hn1, M, rfl, hMl, hM⟩
  have yM := hM.lt
  have b_g := b_g.bs hn1
  have hB := hB.trans (hn1.mono z1)
  have z2 := hn1.size
  refine Lw.val (Ex.build (vs := []) (cs := [.slice none 0 0]) rfl (by kernel_rfl)) rfl ?_
  refine Lw.valW (Xw.new it_74) rfl ?_
  rintro _ w2 ⟨rfl, b_t, hn2, hz2⟩
  have b_g := b_g.bs hn2
  have hM := hM.bs hn2
  have hB := hB.trans (hn2.mono (by omega))
  obtain ⟨A_t, hAt⟩ : ∃ A_t, A_t = w1.heap.size := ⟨_, rfl⟩
  rw [← hAt] at b_t
  rw [← hAt]
  refine Lw.val (Ex.assign rfl) rfl ?_
  refine Lw.unit (Xu.stA (cs := [.slice none 0 0]) (k := 1) (by kernel_rfl) rfl rfl rfl rfl b_t rfl) ?_
  rintro w3 ⟨b_t, hg3, hz3⟩
  have b_g := b_g.by hg3 (by rintro ⟨⟩; omega)
  have hM := mapIn_by hM hg3 (by rintro ⟨⟩; omega)
  have hB := hB.grown hg3 (by omega) (by rintro _ ⟨⟩; omega)
  obtain ⟨B, hBd⟩ : ∃ B, B = w3.heap.size := ⟨_, rfl⟩
  have yB : A_g < B ∧ M < B ∧ A_t < B ∧ W.heap.size ≤ B := by omega
  clear h_v
  have h_v := h.sl.bs hB
  refine Lw.val (Ex.assign rfl) rfl ?_
  refine Lw.nil ?_
  refine Pw.thenN (Cw.out ?_)
  refine Cw.seq ?_
  refine Cw.seq ?_
  refine Cw.region ?_
  refine Lw.val (Ex.fieldAddr (q := 0) Tryz.underlying24 rfl (sz_22 _) rfl) rfl ?_
  refine Lw.val (Ex.ldB (ag_22 _) rfl (by assumption) rfl) rfl ?_
  refine Lw.val (Ex.lenS st_22 rfl (by assumption)) rfl ?_
  refine Lw.val (Ex.move rfl) rfl ?_
  refine Lw.nil ?_
  refine Pw.thenN (Cw.out ?_)
  refine Cw.block ?_
  refine Cw.loop (S := (Nat × Nat × Value × List (Value × List Int))) (fun z => [(1, .pointer (some ⟨A_g, 0, none⟩)), (4, .int .i64 (ls.length : Int)), (5, .map (some M)), (6, .pointer (some ⟨A_t, 0, none⟩)), (7, .int .i64 (z.2.1 : Int)), (26, v), (27, .int .i64 (ls.length : Int)), (28, .int .i64 (z.1 : Int))]) (fun z w' => z.1 ≤ ls.length ∧ Below W.heap.size W w' ∧ B ≤ w'.heap.size ∧ MapIn w' M (.int .u8) KD ∧ Blk w' A_g 24 [v] ∧ Blk w' A_t 74 [z.2.2.1] ∧ w'.ownsRow B 26 1 z.2.2.1 z.1 (z.2.2.2.map (·.1)) ∧ offL B w' z.2.2.1 z.2.2.2 ∧ (∀ p ∈ z.2.2.2, Shapes.ok p.2 = true) ∧ gshR (ints2 z.2.2.2) (ls.drop z.1) = gshR [] ls ∧ z.2.1 = inputs (ls.take z.1) ∧ z.2.2.2.length = z.1 ∧ z.2.1 ≤ z.1) (fun z => ls.length - z.1) ((0, 0, .slice none 0 0, [])) ⟨rfl, rfl, rfl, rfl, rfl, rfl, rfl, rfl, trivial⟩ ?_ ?_
  · exact ⟨Nat.zero_le _, hB, by omega, hM, b_g, b_t, ⟨rfl, .inl ⟨rfl, rfl⟩⟩, (fun p hp => by cases hp), (fun p hp => by cases hp), rfl, rfl, rfl, Nat.le_refl _⟩
  clear b_g b_t hM h_v
  rintro ⟨i, c, u, ps⟩ w4 ⟨hi, hB, zB, hM, b_g, b_t, o_u, hoff, hok, hrec, hc, lps, hci⟩
  dsimp only at hi hB zB hM b_g b_t o_u hoff hok hrec hc lps hci ⊢
  have h_v := h.sl.bs hB
  have z4 := below_size hB
  have ub := own_block o_u
  have lps2 : (ints2 ps).length = ps.length := List.length_map _
  refine Cw.seq ?_
  refine Cw.region ?_
  refine Lw.val (Ex.lss rfl rfl) rfl ?_
  refine Lw.nil ?_
  refine Pw.thenN (Cw.out ?_)
  refine Cw.seq ?_
  refine Cw.cond rfl ?_ ?_
  · intro g
    have hi' : i < ls.length := by have := of_decide_eq_true g; omega
    obtain ⟨x, hxd⟩ : ∃ x, x = ls[i] := ⟨_, rfl⟩
    have hx := (h.each x (hxd ▸ List.getElem_mem hi')).bs hB
    have hcl := h.cells hi'
    rw [← hxd] at hcl
    have ed : ls.drop i = x :: ls.drop (i + 1) := by rw [List.drop_eq_getElem_cons hi', ← hxd]
    have hstep : gshR [] ls = match stp (ints2 ps) x with | some s => gshR (ints2 ps ++ [s]) (ls.drop (i + 1)) | none => none := by rw [← hrec, ed]; rfl
    have hno : stp (ints2 ps) x = none → R = none := fun e => hRn (by rw [hstep, e])
    refine Cw.skip ?_
    refine Pw.thenN (Cw.out ?_)
    refine Cw.seq ?_
    refine Cw.block ?_
    refine Cw.seq ?_
    refine Cw.region ?_
    refine Lw.val (Ex.move rfl) rfl ?_
    refine Lw.val (Ex.idx st_22 rfl rfl h_v i rfl hi') rfl ?_
    refine Lw.val (Ex.ldE (cs := x.cells) (ag_45 _) (sz_45 _) rfl h_v rfl (by decide) hcl) rfl ?_
    refine Lw.valW (Xw.new it_3) rfl ?_
    rintro _ w5 ⟨rfl, b_i, hn5, hz5⟩
    refine Lw.valW (Xw.new it_45) rfl ?_
    rintro _ w6 ⟨rfl, b_x, hn6, hz6⟩
    have b_i := b_i.bs hn6
    obtain ⟨A_i, eAi⟩ : ∃ A_i, A_i = w4.heap.size := ⟨_, rfl⟩
    obtain ⟨A_x, eAx⟩ : ∃ A_x, A_x = w5.heap.size := ⟨_, rfl⟩
    rw [← eAi] at b_i
    rw [← eAx] at b_x
    rw [← eAi, ← eAx]
    refine Lw.unit (Xu.stB (u := .int .i64 (i : Int)) (sz_3 _) rfl rfl rfl b_i Nat.zero_lt_one) ?_
    rintro w7 ⟨b_i, hg7, hz7⟩
    have b_x := b_x.by hg7 (by rintro ⟨⟩; omega)
    refine Lw.unit (Xu.stA (cs := x.cells) (k := 5) (by kernel_rfl) rfl rfl rfl hx.ones b_x rfl) ?_
    rintro w8 ⟨b_x, hg8, hz8⟩
    have b_i := b_i.by hg8 (by rintro ⟨⟩; omega)
    have b_i : Blk w8 A_i 3 [.int .i64 (i : Int)] := b_i
    have hn48 : Below w4.heap.size w4 w8 := ((hn5.trans (hn6.mono (by omega))).grown hg7 (by omega) (by rintro _ ⟨⟩; omega)).grown hg8 (by omega) (by rintro _ ⟨⟩; omega)
    clear h_v
    have hB := hB.trans (hn48.mono z4)
    have hM := hM.bs hn48
    have b_g := b_g.bs hn48
    have b_t := b_t.bs hn48
    have o_u := own_bs o_u hn48
    have hoff := hoff.bs hn48
    have hx := hx.bs hn48
    have h_i := hx.i
    have z8 := hn48.size
    cases hkd : kdOf x.k with
    | none =>
      refine Lw.nil ?_
      refine Pw.thenN (Cw.out ?_)
      refine Cw.seq ?_
      refine Cw.region ?_
      refine Lw.val (Ex.move rfl) rfl ?_
      refine Lw.val (Ex.fieldAddr (q := 0) Tryz.underlying45 rfl (sz_43 _) rfl) rfl ?_
      refine Lw.val (Ex.ldB (ag_43 _) rfl (by assumption) rfl) rfl ?_
      refine Lw.val (Ex.look2n Tryz.underlying71 un_43 rfl rfl rfl hM (show Tryz.prog.info? kindT = some Tryz.t76 by kernel_rfl) rfl (kd_look_no hkd)) rfl ?_
      refine Lw.val (Ex.move rfl) rfl ?_
      refine Lw.val (Ex.extract (i := 0) rfl rfl) rfl ?_
      refine Lw.val (Ex.extract (i := 1) rfl rfl) rfl ?_
      refine Lw.valW (Xw.new it_76) rfl ?_
      rintro _ w9 ⟨rfl, b_k, hn9, hz9⟩
      refine Lw.unit (Xu.stA (cs := [0, 0, 0, 0, 0, 0].map (Value.int .i64)) (k := 6) (by kernel_rfl) rfl rfl rfl rfl b_k rfl) ?_
      rintro w10 ⟨b_k, hg10, hz10⟩
      have hB := (hB.trans (hn9.mono (by omega))).grown hg10 (by omega) (by rintro _ ⟨⟩; omega)
      refine Lw.val (Ex.assign rfl) rfl ?_
      refine Lw.nil ?_
      refine Pw.thenN (Cw.out ?_)
      refine Cw.seq ?_
      refine Cw.seq ?_
      refine Cw.region ?_
      refine Lw.val (Ex.move rfl) rfl ?_
      refine Lw.val (Ex.not rfl) rfl ?_
      refine Lw.val (Ex.move rfl) rfl ?_
      refine Lw.know 42 (v' := .bool true) rfl (congrArg Value.bool (rfl)) ?_
      refine Lw.pass (dj := 42) rfl rfl rfl rfl ?_
      refine Lw.pass (dj := 42) rfl rfl rfl rfl ?_
      refine Lw.pass (dj := 42) rfl rfl rfl rfl ?_
      refine Lw.pass (dj := 42) rfl rfl rfl rfl ?_
      refine Lw.val (Ex.pickT rfl rfl) rfl ?_
      refine Lw.val (Ex.move rfl) rfl ?_
      refine Lw.pass (dj := 48) rfl rfl rfl rfl ?_
      refine Lw.pass (dj := 48) rfl rfl rfl rfl ?_
      refine Lw.pass (dj := 48) rfl rfl rfl rfl ?_
      refine Lw.pass (dj := 48) rfl rfl rfl rfl ?_
      refine Lw.val (Ex.pickT rfl rfl) rfl ?_
      refine Lw.nil ?_
      refine Pw.thenN (Cw.out ?_)
      refine Cw.condT rfl ?_
      refine Cw.seq ?_
      refine Cw.region ?_
      refine Lw.val (Ex.assign rfl) rfl ?_
      refine Lw.val (Ex.assign rfl) rfl ?_
      refine Lw.nil ?_
      refine Pw.thenN (Cw.out ?_)
      refine Cw.ret ?_
      refine Pw.thenR ?_
      refine Pw.blkR ?_
      refine Pw.thenR ?_
      refine Pw.thenR ?_
      refine Pw.blkR ?_
      refine Pw.thenR ?_
      refine Pw.ret2 rfl rfl rfl ?_
      have hN : R = none := hno (by unfold stp; rw [if_neg]; unfold kindF; rw [hkd]; simp)
      rw [hN]
      exact ⟨hB, rfl⟩
    | some row =>
      obtain ⟨k1, k2, k6⟩ := kd_look hkd
      obtain ⟨ra, rb, rc, rd, re, rf, rfl⟩ := six_of k6
      refine Lw.nil ?_
      refine Pw.thenN (Cw.out ?_)
      refine Cw.seq ?_
      refine Cw.region ?_
      refine Lw.val (Ex.move rfl) rfl ?_
      refine Lw.val (Ex.fieldAddr (q := 0) Tryz.underlying45 rfl (sz_43 _) rfl) rfl ?_
      refine Lw.val (Ex.ldB (ag_43 _) rfl (by assumption) rfl) rfl ?_
      refine Lw.val (Ex.look2 Tryz.underlying71 un_43 rfl rfl rfl hM ⟨_, _, (show Tryz.prog.info? kindT = some Tryz.t76 by kernel_rfl), rfl⟩ k1 k2) rfl ?_
      refine Lw.val (Ex.move rfl) rfl ?_
      refine Lw.val (Ex.extract (i := 0) rfl rfl) rfl ?_
      refine Lw.val (Ex.extract (i := 1) rfl rfl) rfl ?_
      refine Lw.valW (Xw.new it_76) rfl ?_
      rintro _ w9 ⟨rfl, b_k, hn9, hz9⟩
      refine Lw.unit (Xu.stA (cs := [ra, rb, rc, rd, re, rf].map (Value.int .i64)) (k := 6) (by kernel_rfl) rfl rfl rfl rfl b_k rfl) ?_
      rintro w10 ⟨b_k, hg10, hz10⟩
      have hn810 : Below w8.heap.size w8 w10 := hn9.grown hg10 hn9.size (by rintro _ ⟨⟩; omega)
      have hB := hB.trans (hn810.mono (by omega))
      have hM := hM.bs hn810
      have b_g := b_g.bs hn810
      have b_t := b_t.bs hn810
      have b_x := b_x.bs hn810
      have b_i := b_i.bs hn810
      have o_u := own_bs o_u hn810
      have hoff := hoff.bs hn810
      have hx := hx.bs hn810
      have h_i := hx.i
      have z10 := hn810.size
      refine Lw.val (Ex.assign rfl) rfl ?_
      refine Lw.nil ?_
      refine Pw.thenN (Cw.out ?_)
      refine Cw.seq ?_
      refine Cw.seq ?_
      refine Cw.region ?_
      refine Lw.val (Ex.move rfl) rfl ?_
      refine Lw.val (Ex.not rfl) rfl ?_
      refine Lw.val (Ex.move rfl) rfl ?_
      refine Lw.know 42 (v' := .bool false) rfl (congrArg Value.bool (rfl)) ?_
      refine Lw.take (dj := 42) rfl rfl ?_
      refine Lw.val (Ex.ldA (k := 6) (ag_76 _) (sz_76 _) rfl rfl b_k) rfl ?_
      refine Lw.take (dj := 42) rfl rfl ?_
      refine Lw.val (Ex.ldA (k := 5) (ag_45 _) (sz_45 _) rfl rfl b_x) rfl ?_
      refine Lw.take (dj := 42) rfl rfl ?_
      refine Lw.callF rfl rfl (kindOf_c ra rb rc rd re rf x w10 hx) ?_
      rintro _ w11 ⟨rfl, hn11⟩
      have ekF : kindF x.k x.i x.s x.n x.p = kindB ra rb rc rd re rf x.i x.s x.n x.p := by unfold kindF; rw [hkd]
      have hB := hB.trans (hn11.mono (by omega))
      have hM := hM.bs hn11
      have b_g := b_g.bs hn11
      have b_t := b_t.bs hn11
      have b_x := b_x.bs hn11
      have b_i := b_i.bs hn11
      have o_u := own_bs o_u hn11
      have hoff := hoff.bs hn11
      have hx := hx.bs hn11
      have h_i := hx.i
      have z11 := hn11.size
      rw [← ekF]
      refine Lw.take (dj := 42) rfl rfl ?_
      refine Lw.val (Ex.not rfl) rfl ?_
      refine Lw.val (Ex.pickF rfl rfl) rfl ?_
      refine Lw.val (Ex.move rfl) rfl ?_
      refine Lw.part 48 rfl ?_ ?_
      · intro gk
        have gk : kindF x.k x.i x.s x.n x.p = false := by simpa using gk
        refine Lw.pass (dj := 48) rfl rfl rfl rfl ?_
        refine Lw.pass (dj := 48) rfl rfl rfl rfl ?_
        refine Lw.pass (dj := 48) rfl rfl rfl rfl ?_
        refine Lw.pass (dj := 48) rfl rfl rfl rfl ?_
        refine Lw.val (Ex.pickT rfl rfl) rfl ?_
        refine Lw.nil ?_
        refine Pw.thenN (Cw.out ?_)
        refine Cw.condT rfl ?_
        refine Cw.seq ?_
        refine Cw.region ?_
        refine Lw.val (Ex.assign rfl) rfl ?_
        refine Lw.val (Ex.assign rfl) rfl ?_
        refine Lw.nil ?_
        refine Pw.thenN (Cw.out ?_)
        refine Cw.ret ?_
        refine Pw.thenR ?_
        refine Pw.blkR ?_
        refine Pw.thenR ?_
        refine Pw.thenR ?_
        refine Pw.blkR ?_
        refine Pw.thenR ?_
        refine Pw.ret2 rfl rfl rfl ?_
        have hN : R = none := hno (by unfold stp; rw [gk]; rfl)
        rw [hN]
        exact ⟨hB, rfl⟩
      intro gk
      have gk : kindF x.k x.i x.s x.n x.p = true := by simpa using gk
      refine Lw.take (dj := 48) rfl rfl ?_
      refine Lw.val (Ex.fieldAddr (q := 0) Tryz.underlying45 rfl (sz_26 _) rfl) rfl ?_
      refine Lw.take (dj := 48) rfl rfl ?_
      refine Lw.val (Ex.ldB (ag_26 _) rfl (by assumption) rfl) rfl ?_
      refine Lw.take (dj := 48) rfl rfl ?_
      refine Lw.val (Ex.mkFn (vs := []) (us := [.pointer (some ⟨A_i, 0, none⟩)]) rfl rfl) rfl ?_
      refine Lw.take (dj := 48) rfl rfl ?_
      refine Lw.callF rfl rfl (ghas_c x.x x.i A_i i w11 h_i b_i) ?_
      rintro _ w12 ⟨rfl, hn12⟩
      have hB := hB.trans (hn12.mono (by omega))
      have hM := hM.bs hn12
      have b_g := b_g.bs hn12
      have b_t := b_t.bs hn12
      have b_x := b_x.bs hn12
      have o_u := own_bs o_u hn12
      have hoff := hoff.bs hn12
      have hx := hx.bs hn12
      have z12 := hn12.size
      refine Lw.val (Ex.pickF rfl rfl) rfl ?_
      refine Lw.nil ?_
      refine Pw.thenN (Cw.out ?_)
      refine Cw.cond rfl ?_ ?_
      · intro gb
        refine Cw.seq ?_
        refine Cw.region ?_
        refine Lw.val (Ex.assign rfl) rfl ?_
        refine Lw.val (Ex.assign rfl) rfl ?_
        refine Lw.nil ?_
        refine Pw.thenN (Cw.out ?_)
        refine Cw.ret ?_
        refine Pw.thenR ?_
        refine Pw.blkR ?_
        refine Pw.thenR ?_
        refine Pw.thenR ?_
        refine Pw.blkR ?_
        refine Pw.thenR ?_
        refine Pw.ret2 rfl rfl rfl ?_
        have hN : R = none := hno (by unfold stp; rw [lps2, lps, gb, Bool.not_true, Bool.and_false]; rfl)
        rw [hN]
        exact ⟨hB, rfl⟩
      intro gb
      have hji : ∀ j ∈ x.i, 0 ≤ j ∧ j < (ps.length : Int) := fun j hj => by
        unfold inB at gb
        have := List.any_eq_false.1 gb j hj
        simp at this
        omega
      have hps : LI w12 u ps := ⟨by have := own_slT o_u; exact this, fun p hp => (hoff p hp).1⟩
      refine Cw.skip ?_
      refine Pw.thenN (Cw.out ?_)
      refine Cw.seq ?_
      refine Cw.seq ?_
      refine Cw.region ?_
      refine Lw.val (Ex.fieldAddr (q := 0) Tryz.underlying45 rfl (sz_43 _) rfl) rfl ?_
      refine Lw.val (Ex.ldB (ag_43 _) rfl (by assumption) rfl) rfl ?_
      refine Lw.val (Ex.eql8 rfl (show _ = some (b8 (1#8)) from rfl)) rfl ?_
      refine Lw.nil ?_
      refine Pw.thenN (Cw.out ?_)
      refine Cw.midS (St := Nat) (fun c' => [(1, .pointer (some ⟨A_g, 0, none⟩)), (4, .int .i64 (ls.length : Int)), (5, .map (some M)), (6, .pointer (some ⟨A_t, 0, none⟩)), (7, .int .i64 (c' : Int)), (9, .pointer (some ⟨A_x, 0, none⟩)), (26, v), (27, .int .i64 (ls.length : Int)), (28, .int .i64 (i : Int))]) (fun c' w' => w' = w12 ∧ c' = c + (if x.k = 1#8 then 1 else 0)) ?_ ?_
      · refine Cw.cond rfl ?_ ?_
        · intro g1
          have g1 : x.k = 1#8 := of_decide_eq_true g1
          refine Cw.region ?_
          refine Lw.val (Ex.move rfl) rfl ?_
          refine Lw.val (Ex.addI rfl rfl (by omega)) rfl ?_
          refine Lw.val (Ex.assign rfl) rfl ?_
          refine Lw.nil ?_
          exact Pw.midS ((c + 1)) ⟨rfl, rfl, rfl, rfl, (congrArg (fun z => some (Value.int .i64 z)) (by omega)), rfl, rfl, rfl, rfl, trivial⟩ (⟨rfl, by rw [if_pos g1]⟩)
        intro g1
        have g1 : ¬ x.k = 1#8 := of_decide_eq_false g1
        refine Cw.skip ?_
        exact Pw.midS (c) ⟨rfl, rfl, rfl, rfl, rfl, rfl, rfl, rfl, rfl, trivial⟩ (⟨rfl, by rw [if_neg g1, Nat.add_zero]⟩)
      rintro c' w12 ⟨rfl, hc'⟩
      refine Cw.seq ?_
      refine Cw.region ?_
      refine Lw.val (Ex.ldA (ag_45 _) (sz_45 _) rfl rfl (by assumption)) rfl ?_
      refine Lw.val (Ex.ldA (ag_74 _) (sz_74 _) rfl rfl (by assumption)) rfl ?_
      refine Lw.val (Ex.mkFn (vs := [.agg [u].toArray]) (us := []) rfl rfl) rfl ?_
      have ub12 := own_block o_u
      refine Lw.callF rfl rfl (gshape_c x u ps w12 hx hps gk hji hok) ?_
      rintro y w13 ⟨s_y, hn13, y_own⟩
      obtain ⟨G, hGd⟩ : ∃ G, G = gshN x.k x.s x.n x.p (x.i.map fun j => (ints2 ps).getD j.toNat []) := ⟨_, rfl⟩
      have eG : gshN x.k x.s x.n x.p (x.i.map fun j => (ps.getD j.toNat default).2) = G := by
        rw [hGd]
        congr 1
        refine List.map_congr_left fun j hj => ?_
        have := hji j hj
        rw [List.getD_eq_getElem?_getD, List.getD_eq_getElem?_getD, List.getElem?_map, List.getElem?_eq_getElem (by omega)]; rfl
      rw [eG] at s_y
      have hB := hB.trans (hn13.mono (by omega))
      have hM := hM.bs hn13
      have b_g := b_g.bs hn13
      have b_t := b_t.bs hn13
      have o_u := own_bs o_u hn13
      have hoff := hoff.bs hn13
      have z13 := hn13.size
      refine Lw.val (Ex.assign rfl) rfl ?_
      refine Lw.nil ?_
      refine Pw.thenN (Cw.out ?_)
      refine Cw.seq ?_
      refine Cw.seq ?_
      refine Cw.region ?_
      refine Lw.val (Ex.move rfl) rfl ?_
      refine Lw.callF rfl rfl (check_c y G w13 s_y) ?_
      rintro _ w14 ⟨rfl, hn14⟩
      have hB := hB.trans (hn14.mono (by omega))
      have hM := hM.bs hn14
      have b_g := b_g.bs hn14
      have b_t := b_t.bs hn14
      have o_u := own_bs o_u hn14
      have hoff := hoff.bs hn14
      have s_y := s_y.bs hn14
      have z14 := hn14.size
      refine Lw.val (Ex.not rfl) rfl ?_
      refine Lw.nil ?_
      refine Pw.thenN (Cw.out ?_)
      refine Cw.cond rfl ?_ ?_
      · intro go
        have go : Shapes.ok G = false := by simpa using go
        refine Cw.seq ?_
        refine Cw.region ?_
        refine Lw.val (Ex.assign rfl) rfl ?_
        refine Lw.val (Ex.assign rfl) rfl ?_
        refine Lw.nil ?_
        refine Pw.thenN (Cw.out ?_)
        refine Cw.ret ?_
        refine Pw.thenR ?_
        refine Pw.blkR ?_
        refine Pw.thenR ?_
        refine Pw.thenR ?_
        refine Pw.blkR ?_
        refine Pw.thenR ?_
        refine Pw.ret2 rfl rfl rfl ?_
        have hN : R = none := hno (by unfold stp; rw [← hGd, go, Bool.and_false]; rfl)
        rw [hN]
        exact ⟨hB, rfl⟩
      intro go
      have go : Shapes.ok G = true := by simpa using go
      have e_st : stp (ints2 ps) x = some G := by
        unfold stp; rw [← hGd, go, gk, lps2, lps]
        have : inB i x.i = false := by simpa using gb
        rw [this]; rfl
      refine Cw.skip ?_
      refine Pw.thenN (Cw.out ?_)
      refine Cw.region ?_
      refine Lw.val (Ex.fieldAddr (q := 0) Tryz.underlying74 rfl (sz_39 _) rfl) rfl ?_
      refine Lw.val (Ex.ldB (ag_39 _) rfl (by assumption) rfl) rfl ?_
      refine Lw.val (Ex.move rfl) rfl ?_
      refine Lw.valW (Xw.lit (vs := [y]) st_39 it_26 rfl rfl rfl (by rw [List.all_cons, s_y.one']; rfl) rfl) rfl ?_
      rintro q w15 ⟨o_q, -, hn15, -⟩
      have hB := hB.trans (hn15.mono (by omega))
      have hM := hM.bs hn15
      have b_g := b_g.bs hn15
      have b_t := b_t.bs hn15
      have o_u := own_bs o_u hn15
      have hoff := hoff.bs hn15
      have s_y := s_y.bs hn15
      have z15 := hn15.size
      have ub := own_block o_u
      refine Lw.valW (Xw.append2 (base := B) st_39 it_26 rfl (by decide) rfl rfl o_u (own_sl o_q) (by rw [List.all_cons, s_y.one']; rfl) (by omega) (by omega) (by omega)) rfl ?_
      rintro u' w16 ⟨o_u', hn16, hg16, hcs⟩
      have hM := mapIn_by hM hg16 (fun e => by have := ub _ e.symm; omega)
      have b_g := b_g.by hg16 (fun e => by have := ub _ e.symm; omega)
      have b_t := b_t.by hg16 (fun e => by have := ub _ e.symm; omega)
      have hoff2 : offL B w15 u (ps ++ [(y, G)]) := fun p hp => (List.mem_append.1 hp).elim (hoff p) (fun e => by
        rw [List.mem_singleton.1 e]
        refine ⟨s_y, fun b e => ?_⟩
        have h1 := y_own b e
        exact ⟨⟨by omega, by omega⟩, fun e2 => by have := ub12 b e2; omega⟩)
      have hoff := hoff2.grow hg16 hcs
      have z16 := hg16.size
      have ub' := own_block o_u'
      have e1 : ps.map (·.1) ++ [y] = (ps ++ [(y, G)]).map (·.1) := by rw [List.map_append]; rfl
      rw [e1] at o_u'
      refine Lw.val (Ex.fieldAddr (q := 0) Tryz.underlying74 rfl (sz_39 _) rfl) rfl ?_
      refine Lw.unit (Xu.stB (u := u') (sz_39 _) rfl rfl (own_sl o_u').one' b_t Nat.zero_lt_one) ?_
      rintro w17 ⟨b_t, hg17, hz17⟩
      have hM := mapIn_by hM hg17 (fun e => by have := Option.some.inj e; omega)
      have b_g := b_g.by hg17 (fun e => by have := Option.some.inj e; omega)
      have hoff := hoff.by hg17 (by omega)
      have o_u' := own_heap o_u' (fun k e => hg17.block k (ub' k e).2 (fun e2 => by have := ub' k e; have := Option.some.inj e2; omega))
      have hBF := (hB.trans (hn16.mono (by omega))).grown hg17 (by have := hn16.size; omega) (by rintro _ e; have := Option.some.inj e; omega)
      have hok' : ∀ p ∈ ps ++ [(y, G)], Shapes.ok p.2 = true := fun p hp => (List.mem_append.1 hp).elim (hok p) (fun e => by rw [List.mem_singleton.1 e]; exact go)
      have hrec' : gshR (ints2 (ps ++ [(y, G)])) (ls.drop (i + 1)) = gshR [] ls := by
        rw [hstep, e_st]
        have : ints2 (ps ++ [(y, G)]) = ints2 ps ++ [G] := by unfold ints2; rw [List.map_append]; rfl
        rw [this]
      have hcc : c' = inputs (ls.take (i + 1)) := by
        rw [hc', hc, List.take_succ_eq_append_getElem hi', ← hxd]
        unfold inputs
        rw [List.filter_append, List.length_append]
        by_cases e : x.k = 1#8
        · rw [if_pos e, List.filter_cons, decide_eq_true e]; rfl
        · rw [if_neg e, List.filter_cons, decide_eq_false e]; rfl
      have hci' : c' ≤ i + 1 := by rw [hc']; split <;> omega
      refine Lw.nil ?_
      refine Pw.blkN ?_
      refine Pw.thenN (Cw.out ?_)
      refine Cw.region ?_
      refine Lw.val (Ex.addI rfl rfl (by omega)) rfl ?_
      refine Lw.val (Ex.move rfl) rfl ?_
      refine Lw.nil ?_
      exact Pw.thenN (Pw.next ((i + 1, c', u', ps ++ [(y, G)])) ⟨rfl, rfl, rfl, rfl, rfl, rfl, rfl, rfl, trivial⟩ (⟨hi', hBF, by have := hn16.size; omega, hM, b_g, b_t, o_u', hoff, hok', hrec', hcc, by rw [List.length_append, lps]; rfl, hci'⟩) (by simp only; omega))
  intro g
  have hi' : i = ls.length := by have := of_decide_eq_false g; omega
  subst hi'
  rw [List.drop_length] at hrec
  rw [List.take_length] at hc
  have hgr : gshR [] ls = some (ints2 ps) := by rw [← hrec]; rfl
  have hgf : R = if inputs ls = 1 ∧ lastF (ls.getD (ls.length - 1) default).k = true then some (ints2 ps) else none := by rw [hR, hgs, hgr]
  obtain ⟨x, hxd⟩ : ∃ x, x = ls.getD (ls.length - 1) default := ⟨_, rfl⟩
  rw [← hxd] at hgf
  have hl1 : ls.length - 1 < ls.length := by omega
  have hxm : x = ls[ls.length - 1] := by rw [hxd, List.getD_eq_getElem?_getD, List.getElem?_eq_getElem hl1]; rfl
  have hkx := gshR_all ls [] _ hgr x (hxm ▸ List.getElem_mem hl1)
  obtain ⟨ra, rb, rc, rd, re, rf, hkd⟩ := kindF_row hkx
  obtain ⟨k1, k2, -⟩ := kd_look hkd
  have hlast : lastF x.k = decide (rb ≠ 0) := by unfold lastF; rw [hkd]; rfl
  have ad : ∃ ad c k, v = .slice (some ad) c k := by
    obtain ⟨_, ao, cap, e, d1, d2, d3, _⟩ := h.sl
    cases ao with
    | none => have := d3 rfl; omega
    | some ad => exact ⟨ad, _, _, e⟩
  have ck : (flw N5.cells ls)[(ls.length - 1) * 5 + 0]? = some (b8 x.k) := by
    rw [flw_get (fun a _ => N5.cells_len a) hl1 (by decide), ← hxm]; rfl
  refine Cw.exit ?_
  refine Pw.thenE ?_
  refine Pw.thenE ?_
  refine Pw.blkHit ?_
  refine Pw.thenN (Cw.out ?_)
  refine Cw.seq ?_
  refine Cw.seq ?_
  refine Cw.region ?_
  refine Lw.val (Ex.move rfl) rfl ?_
  refine Lw.val (Ex.fieldAddr (q := 0) Tryz.underlying24 rfl (sz_22 _) rfl) rfl ?_
  refine Lw.val (Ex.ldB (ag_22 _) rfl (by assumption) rfl) rfl ?_
  refine Lw.val (Ex.move rfl) rfl ?_
  refine Lw.val (Ex.as (Ex.subI rfl rfl (by omega)) (congrArg (Value.int .i64) (show (ls.length : Int) - 1 = ((ls.length - 1 : Nat) : Int) by omega))) rfl ?_
  refine Lw.val (Ex.idx st_22 rfl rfl h_v (ls.length - 1) rfl hl1) rfl ?_
  refine Lw.val (Ex.fieldAddrE (q := 0) Tryz.underlying45 rfl (sz_43 _) rfl ad) rfl ?_
  refine Lw.val (Ex.ld (ag_43 _) rfl h_v ck) rfl ?_
  refine Lw.val (Ex.look1 Tryz.underlying71 un_43 rfl rfl rfl hM ⟨_, _, (show Tryz.prog.info? kindT = some Tryz.t76 by kernel_rfl), rfl⟩ k1 k2) rfl ?_
  refine Lw.valW (Xw.new it_76) rfl ?_
  rintro _ w5 ⟨rfl, b_k, hn5, hz5⟩
  have b_t := b_t.bs hn5
  refine Lw.unit (Xu.stA (cs := [ra, rb, rc, rd, re, rf].map (Value.int .i64)) (k := 6) (by kernel_rfl) rfl rfl rfl rfl b_k rfl) ?_
  rintro w6 ⟨b_k, hg6, hz6⟩
  have hn46 : Below w4.heap.size w4 w6 := hn5.grown hg6 hn5.size (by rintro _ ⟨⟩; omega)
  have b_t := b_t.by hg6 (by rintro ⟨⟩; omega)
  have hB := hB.trans (hn46.mono z4)
  have o_u := own_bs o_u hn46
  have hoff := hoff.bs hn46
  refine Lw.nil ?_
  refine Pw.thenN (Cw.out ?_)
  refine Cw.seq ?_
  refine Cw.region ?_
  refine Lw.val (Ex.move rfl) rfl ?_
  refine Lw.val (Ex.neq rfl rfl) rfl ?_
  refine Lw.val (Ex.move rfl) rfl ?_
  refine Lw.part 84 rfl ?_ ?_
  · intro gc
    have gc : ¬ inputs ls = 1 := fun e => by rw [← hc] at e; subst e; simp at gc
    refine Lw.pass (dj := 84) rfl rfl rfl rfl ?_
    refine Lw.pass (dj := 84) rfl rfl rfl rfl ?_
    refine Lw.pass (dj := 84) rfl rfl rfl rfl ?_
    refine Lw.val (Ex.pickT rfl rfl) rfl ?_
    refine Lw.nil ?_
    refine Pw.thenN (Cw.out ?_)
    refine Cw.condT rfl ?_
    refine Cw.seq ?_
    refine Cw.region ?_
    refine Lw.val (Ex.assign rfl) rfl ?_
    refine Lw.val (Ex.assign rfl) rfl ?_
    refine Lw.nil ?_
    refine Pw.thenN (Cw.out ?_)
    refine Cw.ret ?_
    refine Pw.thenR ?_
    refine Pw.ret2 rfl rfl rfl ?_
    rw [hgf, if_neg (fun h => gc h.1)]
    exact ⟨hB, rfl⟩
  intro gc
  have gc : inputs ls = 1 := by rw [← hc]; simp at gc; omega
  refine Lw.take (dj := 84) rfl rfl ?_
  refine Lw.val (Ex.fieldAddr (q := 0) Tryz.underlying76 rfl (sz_3 _) rfl) rfl ?_
  refine Lw.take (dj := 84) rfl rfl ?_
  refine Lw.val (Ex.ldB (ag_3 _) rfl b_k rfl) rfl ?_
  refine Lw.take (dj := 84) rfl rfl ?_
  refine Lw.val (Ex.eql rfl rfl) rfl ?_
  refine Lw.val (Ex.pickF rfl rfl) rfl ?_
  refine Lw.nil ?_
  refine Pw.thenN (Cw.out ?_)
  refine Cw.cond rfl ?_ ?_
  · intro gm
    have gm : rb = 0 := of_decide_eq_true gm
    refine Cw.seq ?_
    refine Cw.region ?_
    refine Lw.val (Ex.assign rfl) rfl ?_
    refine Lw.val (Ex.assign rfl) rfl ?_
    refine Lw.nil ?_
    refine Pw.thenN (Cw.out ?_)
    refine Cw.ret ?_
    refine Pw.thenR ?_
    refine Pw.ret2 rfl rfl rfl ?_
    rw [hgf, if_neg (fun h => by rw [hlast, gm] at h; simp at h)]
    exact ⟨hB, rfl⟩
  intro gm
  have gm : rb ≠ 0 := of_decide_eq_false gm
  refine Cw.skip ?_
  refine Pw.thenN (Cw.out ?_)
  refine Cw.seq ?_
  refine Cw.region ?_
  refine Lw.val (Ex.fieldAddr (q := 0) Tryz.underlying74 rfl (sz_39 _) rfl) rfl ?_
  refine Lw.val (Ex.ldB (ag_39 _) rfl (by assumption) rfl) rfl ?_
  refine Lw.callF rfl rfl (clipL_c u ps w6 (own_slT o_u)) ?_
  rintro _ w7 ⟨rfl, hn7⟩
  refine Lw.val (Ex.assign rfl) rfl ?_
  refine Lw.val (Ex.assign rfl) rfl ?_
  refine Lw.nil ?_
  refine Pw.thenN (Cw.out ?_)
  refine Cw.ret ?_
  refine Pw.ret2 rfl rfl rfl ?_
  rw [hgf, if_pos ⟨gc, by rw [hlast]; exact decide_eq_true gm⟩]
  exact ⟨hB.trans (hn7.mono (below_size hB)), _, ps, rfl, ⟨(Sl.clip (own_slT o_u)).bs hn7, fun p hp => (hoff p hp).1.bs hn7⟩, rfl⟩
theorem gcheck_c (v : Value) (ls : List N5) (W : World) (h : GN W v ls) :
    Fnc Tryz.prog 31 [.agg [v].toArray] W (fun r w' => Below W.heap.size W w' ∧ r = .bool (gsh ls).isSome) := by
  have hB := Below.refl W.heap.size W
  refine Fnc.enter (n := 12) Tryz.func31 (by kernel_rfl) rfl rfl rfl ?_
  refine Cw.seq ?_
  refine Cw.region ?_
  refine Lw.boxV (cs := [v]) rfl rfl rfl ?_
  rintro A_g w eA_g b_g hn -
  replace hB := hB.bs hn
  clear hn
  refine Lw.val (Ex.assign rfl) rfl ?_
  refine Lw.nil ?_
  refine Pw.thenN (Cw.out ?_)
  refine Cw.seq ?_
  refine Cw.region ?_
  refine Lw.val (Ex.ldA (ag_24 _) (sz_24 _) rfl rfl (by assumption)) rfl ?_
  refine Lw.callF rfl rfl (gshapes_c v ls w (h.bs hB)) ?_
  rintro r w1 ⟨hn1, hr⟩
  have hB := hB.trans (hn1.mono (below_size hB))
  cases e : gsh ls with
  | none =>
    rw [e] at hr
    obtain rfl := hr
    refine Lw.val (Ex.move rfl) rfl ?_
    refine Lw.val (Ex.extract (i := 0) rfl rfl) rfl ?_
    refine Lw.val (Ex.extract (i := 1) rfl rfl) rfl ?_
    refine Lw.val (Ex.assign rfl) rfl ?_
    refine Lw.val (Ex.assign rfl) rfl ?_
    refine Lw.nil ?_
    refine Pw.thenN (Cw.out ?_)
    refine Cw.seq ?_
    refine Cw.region ?_
    refine Lw.val (Ex.move rfl) rfl ?_
    refine Lw.val (Ex.eql rfl rfl) rfl ?_
    refine Lw.val (Ex.assign rfl) rfl ?_
    refine Lw.nil ?_
    refine Pw.thenN (Cw.out ?_)
    refine Cw.ret ?_
    refine Pw.ret1 rfl rfl ?_
    exact ⟨hB, rfl⟩
  | some ss =>
    rw [e] at hr
    obtain ⟨u, ps, rfl, -, -⟩ := hr
    refine Lw.val (Ex.move rfl) rfl ?_
    refine Lw.val (Ex.extract (i := 0) rfl rfl) rfl ?_
    refine Lw.val (Ex.extract (i := 1) rfl rfl) rfl ?_
    refine Lw.val (Ex.assign rfl) rfl ?_
    refine Lw.val (Ex.assign rfl) rfl ?_
    refine Lw.nil ?_
    refine Pw.thenN (Cw.out ?_)
    refine Cw.seq ?_
    refine Cw.region ?_
    refine Lw.val (Ex.move rfl) rfl ?_
    refine Lw.val (Ex.eql rfl rfl) rfl ?_
    refine Lw.val (Ex.assign rfl) rfl ?_
    refine Lw.nil ?_
    refine Pw.thenN (Cw.out ?_)
    refine Cw.ret ?_
    refine Pw.ret1 rfl rfl ?_
    exact ⟨hB, rfl⟩
/-- The weights' places. -/
def wtsG (ls : List N5) : List Int := ((List.range ls.length).filter fun i => decide ((ls.getD i default).k = 2#8)).map fun i : Nat => (i : Int)
theorem wtsG_succ (ls : List N5) (i : Nat) (hi : i < ls.length) : wtsG (ls.take (i + 1)) = wtsG (ls.take i) ++ (if (ls.getD i default).k = 2#8 then [(i : Int)] else []) := by
  have h1 : ∀ m, m ≤ ls.length → wtsG (ls.take m) = ((List.range m).filter fun i => decide ((ls.getD i default).k = 2#8)).map fun i : Nat => (i : Int) := fun m hm => by
    unfold wtsG
    rw [List.length_take, Nat.min_eq_left hm]
    congr 1
    refine List.filter_congr fun j hj => ?_
    have := List.mem_range.1 hj
    have : (ls.take m).getD j default = ls.getD j default := by rw [List.getD_eq_getElem?_getD, List.getElem?_take, if_pos this, ← List.getD_eq_getElem?_getD]
    rw [this]
  rw [h1 _ hi, h1 _ (Nat.le_of_lt hi), List.range_succ, List.filter_append, List.map_append]
  congr 1
  by_cases e : (ls.getD i default).k = 2#8
  · rw [if_pos e, List.filter_cons, decide_eq_true e]; rfl
  · rw [if_neg e, List.filter_cons, decide_eq_false e]; rfl
theorem gweights_c (v : Value) (ls : List N5) (W : World) (h : GN W v ls) (hm : ls.length ≤ 1000000) :
    Fnc Tryz.prog 19 [.agg [v].toArray] W (fun r w' => Below W.heap.size W w' ∧ SlT (Value.int .i64) w' r (wtsG ls)) := by
  have hB := Below.refl W.heap.size W
  have h_v := h.sl
  refine Fnc.enter (n := 23) Tryz.func19 (by kernel_rfl) rfl rfl rfl ?_
  refine Cw.seq ?_
  refine Cw.region ?_
  refine Lw.boxV (cs := [v]) rfl rfl rfl ?_
  rintro A_g w eA_g b_g hn -
  replace hB := hB.bs hn
  replace h_v := h_v.bs hn
  clear hn
  refine Lw.val (Ex.assign rfl) rfl ?_
  refine Lw.nil ?_
  refine Pw.thenN (Cw.out ?_)
  refine Cw.seq ?_
  refine Cw.seq ?_
  refine Cw.region ?_
  refine Lw.val (Ex.fieldAddr (q := 0) Tryz.underlying24 rfl (sz_22 _) rfl) rfl ?_
  refine Lw.val (Ex.ldB (ag_22 _) rfl (by assumption) rfl) rfl ?_
  refine Lw.val (Ex.lenS st_22 rfl (by assumption)) rfl ?_
  refine Lw.val (Ex.move rfl) rfl ?_
  refine Lw.nil ?_
  refine Pw.thenN (Cw.out ?_)
  refine Cw.block ?_
  have z0 := below_size hB
  refine Cw.loop (S := (Nat × Value)) (fun z => [(2, z.2), (6, v), (7, .int .i64 (ls.length : Int)), (8, .int .i64 (z.1 : Int))]) (fun z w' => z.1 ≤ ls.length ∧ Below W.heap.size W w' ∧ w'.ownsRow W.heap.size 3 1 z.2 (wtsG (ls.take z.1)).length ((wtsG (ls.take z.1)).map (Value.int .i64))) (fun z => ls.length - z.1) ((0, .slice none 0 0)) ⟨rfl, rfl, rfl, rfl, trivial⟩ ?_ ?_
  · exact ⟨Nat.zero_le _, hB, ⟨rfl, .inl ⟨rfl, rfl⟩⟩⟩
  clear b_g
  rintro ⟨i, u⟩ w1 ⟨hi, hB, o_u⟩
  dsimp only at hi hB o_u ⊢
  have h_v := h.sl.bs hB
  have z1 := below_size hB
  refine Cw.seq ?_
  refine Cw.region ?_
  refine Lw.val (Ex.lss rfl rfl) rfl ?_
  refine Lw.nil ?_
  refine Pw.thenN (Cw.out ?_)
  refine Cw.seq ?_
  refine Cw.cond rfl ?_ ?_
  · intro g
    have hi' : i < ls.length := by have := of_decide_eq_true g; omega
    obtain ⟨x, hxd⟩ : ∃ x, x = ls[i] := ⟨_, rfl⟩
    have hxg : ls.getD i default = x := by rw [List.getD_eq_getElem?_getD, List.getElem?_eq_getElem hi', hxd]; rfl
    have hx := (h.each x (hxd ▸ List.getElem_mem hi')).bs hB
    have hcl := h.cells hi'
    rw [← hxd] at hcl
    have hws := wtsG_succ ls i hi'
    rw [hxg] at hws
    have lw : (wtsG (ls.take i)).length ≤ i := by
      unfold wtsG
      rw [List.length_map]
      refine Nat.le_trans (List.length_filter_le _ _) ?_
      rw [List.length_range, List.length_take]; omega
    refine Cw.skip ?_
    refine Pw.thenN (Cw.out ?_)
    refine Cw.seq ?_
    refine Cw.block ?_
    refine Cw.seq ?_
    refine Cw.region ?_
    refine Lw.val (Ex.move rfl) rfl ?_
    refine Lw.val (Ex.idx st_22 rfl rfl h_v i rfl hi') rfl ?_
    refine Lw.val (Ex.ldE (cs := x.cells) (ag_45 _) (sz_45 _) rfl h_v rfl (by decide) hcl) rfl ?_
    refine Lw.valW (Xw.new it_45) rfl ?_
    rintro _ w2 ⟨rfl, b_x, hn2, hz2⟩
    refine Lw.val (Ex.assign rfl) rfl ?_
    refine Lw.unit (Xu.stA (cs := x.cells) (k := 5) (by kernel_rfl) rfl rfl rfl hx.ones b_x rfl) ?_
    rintro w3 ⟨b_x, hg3, hz3⟩
    have hn13 : Below w1.heap.size w1 w3 := hn2.grown hg3 hn2.size (by rintro _ ⟨⟩; omega)
    have hB := hB.trans (hn13.mono z1)
    have o_u := own_bs o_u hn13
    have z3 := hn13.size
    refine Lw.nil ?_
    refine Pw.thenN (Cw.out ?_)
    refine Cw.seq ?_
    refine Cw.region ?_
    refine Lw.val (Ex.fieldAddr (q := 0) Tryz.underlying45 rfl (sz_43 _) rfl) rfl ?_
    refine Lw.val (Ex.ldB (ag_43 _) rfl (by assumption) rfl) rfl ?_
    refine Lw.val (Ex.eql8 rfl (show _ = some (b8 (2#8)) from rfl)) rfl ?_
    refine Lw.nil ?_
    refine Pw.thenN (Cw.out ?_)
    refine Cw.cond rfl ?_ ?_
    · intro g2
      have g2 : x.k = 2#8 := of_decide_eq_true g2
      rw [if_pos g2] at hws
      refine Cw.region ?_
      refine Lw.val (Ex.move rfl) rfl ?_
      refine Lw.val (Ex.move rfl) rfl ?_
      refine Lw.valW (Xw.lit (vs := [(i : Int)].map (Value.int .i64)) st_26 it_3 rfl rfl rfl rfl rfl) rfl ?_
      rintro q w4 ⟨o_q, -, hn4, -⟩
      have o_u := own_bs o_u hn4
      have z4 := hn4.size
      refine Lw.valW (Xw.append (base := W.heap.size) st_26 it_3 rfl (by decide) rfl rfl o_u (own_sl o_q) (one_map (fun _ => rfl) _) (by omega) (by omega) (by omega)) rfl ?_
      rintro u' w5 ⟨o_u', hn5, -⟩
      have el : (wtsG (ls.take i)).length + 1 = (wtsG (ls.take (i + 1))).length := by rw [hws, List.length_append]; rfl
      rw [← List.map_append, ← hws, el] at o_u'
      refine Lw.val (Ex.assign rfl) rfl ?_
      refine Lw.nil ?_
      refine Pw.blkN ?_
      refine Pw.thenN (Cw.out ?_)
      refine Cw.region ?_
      refine Lw.val (Ex.addI rfl rfl (by omega)) rfl ?_
      refine Lw.val (Ex.move rfl) rfl ?_
      refine Lw.nil ?_
      exact Pw.thenN (Pw.next ((i + 1, u')) ⟨rfl, rfl, rfl, rfl, trivial⟩ (⟨hi', (hB.trans (hn4.mono (by omega))).trans hn5, o_u'⟩) (by simp only; omega))
    intro g2
    have g2 : ¬ x.k = 2#8 := of_decide_eq_false g2
    rw [if_neg g2, List.append_nil] at hws
    refine Cw.skip ?_
    refine Pw.blkN ?_
    refine Pw.thenN (Cw.out ?_)
    refine Cw.region ?_
    refine Lw.val (Ex.addI rfl rfl (by omega)) rfl ?_
    refine Lw.val (Ex.move rfl) rfl ?_
    refine Lw.nil ?_
    exact Pw.thenN (Pw.next ((i + 1, u)) ⟨rfl, rfl, rfl, rfl, trivial⟩ (⟨hi', hB, by rw [hws]; exact o_u⟩) (by simp only; omega))
  intro g
  have hi' : i = ls.length := by have := of_decide_eq_false g; omega
  subst hi'
  rw [List.take_length] at o_u
  refine Cw.exit ?_
  refine Pw.thenE ?_
  refine Pw.thenE ?_
  refine Pw.blkHit ?_
  refine Pw.thenN (Cw.out ?_)
  refine Cw.seq ?_
  refine Cw.region ?_
  refine Lw.val (Ex.move rfl) rfl ?_
  refine Lw.callF rfl rfl (clip_c u (wtsG ls) w1 (own_slT o_u)) ?_
  rintro _ w2 ⟨rfl, hn2⟩
  refine Lw.val (Ex.assign rfl) rfl ?_
  refine Lw.nil ?_
  refine Pw.thenN (Cw.out ?_)
  refine Cw.ret ?_
  refine Pw.ret1 rfl rfl ?_
  exact ⟨hB.trans (hn2.mono z1), (Sl.clip (own_slT o_u)).bs hn2⟩
end Go.Proofs.YtmipoeanpnnjoaaGreat
