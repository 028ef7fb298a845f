/- Contract: the document's shape of some that are joined. -/
import Derived.Test.YtkhndfaampkbnaaGreatDoorRefCode
import Derived.Test.YtkhndfaampkbnaaGreatDoorIntLists
namespace Go.Proofs.YtkhndfaampkbnaaGreatDoor
open Go Go.Dd Go.RowKit
set_option maxRecDepth 100000

def jdA (l : List (List Int)) (al : Int) : Bool := decide (l.length < 1) || decide (4 < l.length) || l.any (fun s => !Shapes.ok s) || decide (al < 0) || decide (((l.headD []).length : Int) ≤ al)
def jdS (l : List (List Int)) (al : Int) : Option (List Int) := jnR al.toNat (l.headD []) l.tail
def jdR : Option (List Int) → Int
  | some s => if Shapes.ok s then 0 else 10
  | none => 10
def jdE (l : List (List Int)) (al : Int) : Int := if jdA l al then 1 else jdR (jdS l al)
theorem rjoined_c (v : Value) (ps : List (Value × List Int)) (al : Int) (W : World) (h : LI W v ps) :
    Fnc Tryz.prog 37 [v, .int .i64 al] W (fun r w' => Below W.heap.size W w' ∧ ∃ x s, r = .tuple #[x, .int .i64 (jdE (ints2 ps) al)] ∧ SlT (Value.int .i64) w' x s ∧ (jdE (ints2 ps) al = 0 → jdS (ints2 ps) al = some s)) := by
  have hB := Below.refl W.heap.size W
  have s_v := h.sl
  have lv : ps.length ≤ 9223372036854775807 := s_v.le
  obtain ⟨E, hE⟩ : ∃ E, E = jdE (ints2 ps) al := ⟨_, rfl⟩
  rw [← hE]
  have li : (ints2 ps).length = ps.length := List.length_map ..
  refine Fnc.enter (n := 100) Tryz.func37 (by kernel_rfl) rfl rfl rfl ?_
  refine Cw.seq ?_
  refine Cw.region ?_
  refine Lw.val (Ex.assign rfl) rfl ?_
  refine Lw.val (Ex.assign rfl) rfl ?_
  refine Lw.nil ?_
  refine Pw.thenN (Cw.out ?_)
  refine Cw.seq ?_
  refine Cw.seq ?_
  refine Cw.region ?_
  refine Lw.val (Ex.move rfl) rfl ?_
  refine Lw.val (Ex.lenS st_72 rfl (by assumption)) rfl ?_
  refine Lw.val (Ex.lss rfl rfl) rfl ?_
  refine Lw.val (Ex.move rfl) rfl ?_
  refine Lw.part 13 rfl ?_ ?_
  · intro g
    have g : ps.length < 1 := by have := of_decide_eq_true g; omega
    refine Lw.pass (dj := 13) rfl rfl rfl rfl ?_
    refine Lw.pass (dj := 13) rfl rfl rfl rfl ?_
    refine Lw.pass (dj := 13) rfl rfl rfl rfl ?_
    refine Lw.val (Ex.pickT rfl rfl) rfl ?_
    refine Lw.nil ?_
    refine Pw.thenN (Cw.out ?_)
    refine Cw.condT rfl ?_
    refine Cw.seq ?_
    refine Cw.region ?_
    refine Lw.val (Ex.assign rfl) rfl ?_
    refine Lw.val (Ex.assign rfl) rfl ?_
    refine Lw.nil ?_
    refine Pw.thenN (Cw.out ?_)
    refine Cw.ret ?_
    refine Pw.thenR ?_
    refine Pw.ret2 rfl rfl rfl ?_
    have e1 : E = 1 := by
      rw [hE]
      unfold jdE
      rw [if_pos (by unfold jdA; rw [li, decide_eq_true g]; rfl)]
    rw [e1]
    exact ⟨hB, .slice none 0 0, [], rfl, Sl.nil _ _, fun h => by cases h⟩
  intro g1
  have g1 : ¬ ps.length < 1 := by have := of_decide_eq_false g1; omega
  refine Lw.take (dj := 13) rfl rfl ?_
  refine Lw.val (Ex.move rfl) rfl ?_
  refine Lw.take (dj := 13) rfl rfl ?_
  refine Lw.val (Ex.lenS st_72 rfl (by assumption)) rfl ?_
  refine Lw.take (dj := 13) rfl rfl ?_
  refine Lw.val (Ex.gtr rfl rfl) rfl ?_
  refine Lw.val (Ex.pickF rfl rfl) rfl ?_
  refine Lw.nil ?_
  refine Pw.thenN (Cw.out ?_)
  refine Cw.cond rfl ?_ ?_
  · intro g
    have g : 4 < ps.length := by have := of_decide_eq_true g; omega
    refine Cw.seq ?_
    refine Cw.region ?_
    refine Lw.val (Ex.assign rfl) rfl ?_
    refine Lw.val (Ex.assign rfl) rfl ?_
    refine Lw.nil ?_
    refine Pw.thenN (Cw.out ?_)
    refine Cw.ret ?_
    refine Pw.thenR ?_
    refine Pw.ret2 rfl rfl rfl ?_
    have e1 : E = 1 := by
      rw [hE]
      unfold jdE
      rw [if_pos (by unfold jdA; rw [li, decide_eq_true g]; simp)]
    rw [e1]
    exact ⟨hB, .slice none 0 0, [], rfl, Sl.nil _ _, fun h => by cases h⟩
  intro g2
  have g2 : ¬ 4 < ps.length := by have := of_decide_eq_false g2; omega
  refine Cw.skip ?_
  refine Pw.thenN (Cw.out ?_)
  refine Cw.seq ?_
  refine Cw.seq ?_
  refine Cw.region ?_
  refine Lw.val (Ex.assign rfl) rfl ?_
  refine Lw.nil ?_
  refine Pw.thenN (Cw.out ?_)
  refine Cw.block ?_
  refine Cw.loop (S := Nat) (fun i => [(0, v), (1, .int .i64 al), (6, .int .i64 (i : Int))]) (fun i w' => i ≤ ps.length ∧ (∀ p ∈ ps.take i, Shapes.ok p.2 = true) ∧ Below W.heap.size W w') (fun i => ps.length - i) (0) ⟨rfl, rfl, rfl, trivial⟩ ?_ ?_
  · exact ⟨Nat.zero_le _, fun p hp => by simp at hp, Below.refl _ _⟩
  rintro i w1 ⟨hi, hok, hB⟩
  have s_v1 := s_v.bs hB
  refine Cw.seq ?_
  refine Cw.seq ?_
  refine Cw.region ?_
  refine Lw.val (Ex.move rfl) rfl ?_
  refine Lw.val (Ex.move rfl) rfl ?_
  refine Lw.val (Ex.lenS st_72 rfl (by assumption)) rfl ?_
  refine Lw.val (Ex.lss rfl rfl) rfl ?_
  refine Lw.nil ?_
  refine Pw.thenN (Cw.out ?_)
  refine Cw.cond rfl ?_ ?_
  · intro g
    have hi' : i < ps.length := by have := of_decide_eq_true g; omega
    obtain ⟨p, hp⟩ : ∃ p, p = ps[i] := ⟨_, rfl⟩
    have pm : p ∈ ps := hp ▸ List.getElem_mem hi'
    have s_p := (h.each p pm).bs hB
    have ep : (ps.getD i default).1 = p.1 := by rw [List.getD_eq_getElem?_getD, List.getElem?_eq_getElem hi', ← hp]; rfl
    refine Cw.skip ?_
    refine Pw.thenN (Cw.out ?_)
    refine Cw.seq ?_
    refine Cw.block ?_
    refine Cw.seq ?_
    refine Cw.region ?_
    refine Lw.val (Ex.move rfl) rfl ?_
    refine Lw.val (Ex.move rfl) rfl ?_
    refine Lw.val (Ex.idxT st_72 rfl rfl s_v1 i rfl hi') rfl ?_
    refine Lw.val (Ex.as (Ex.ldT (ag_26 _) rfl s_v1 hi') ep) rfl ?_
    refine Lw.callF rfl rfl (rcheck_c p.1 p.2 w1 s_p) ?_
    rintro _ w2 ⟨rfl, hn⟩
    have hB2 := bt hB hn
    refine Lw.val (Ex.not rfl) rfl ?_
    refine Lw.nil ?_
    refine Pw.thenN (Cw.out ?_)
    refine Cw.cond rfl ?_ ?_
    · intro g3
      have g3 : Shapes.ok p.2 = false := by simpa using g3
      refine Cw.seq ?_
      refine Cw.region ?_
      refine Lw.val (Ex.assign rfl) rfl ?_
      refine Lw.val (Ex.assign rfl) rfl ?_
      refine Lw.nil ?_
      refine Pw.thenN (Cw.out ?_)
      refine Cw.ret ?_
      refine Pw.blkR ?_
      refine Pw.thenR ?_
      refine Pw.thenR ?_
      refine Pw.blkR ?_
      refine Pw.thenR ?_
      refine Pw.ret2 rfl rfl rfl ?_
      have e1 : E = 1 := by
        rw [hE]
        unfold jdE
        rw [if_pos (by unfold jdA; rw [show (ints2 ps).any (fun s => !Shapes.ok s) = true from List.any_eq_true.2 ⟨p.2, List.mem_map_of_mem pm, by rw [g3]; rfl⟩]; simp)]
      rw [e1]
      exact ⟨hB2, .slice none 0 0, [], rfl, Sl.nil _ _, fun h => by cases h⟩
    intro g3
    have g3 : Shapes.ok p.2 = true := by simpa using g3
    refine Cw.skip ?_
    refine Pw.blkN ?_
    refine Pw.thenN (Cw.out ?_)
    refine Cw.region ?_
    refine Lw.val (Ex.move rfl) rfl ?_
    refine Lw.val (Ex.addI rfl rfl (by omega)) rfl ?_
    refine Lw.val (Ex.assign rfl) rfl ?_
    refine Lw.nil ?_
    have hok' : ∀ q ∈ ps.take (i + 1), Shapes.ok q.2 = true := fun q hq => by
      rw [List.take_succ_eq_append_getElem hi'] at hq
      rcases List.mem_append.1 hq with hq | hq
      · exact hok q hq
      · rw [List.mem_singleton.1 hq, ← hp]; exact g3
    exact Pw.thenN (Pw.next (i + 1) ⟨rfl, rfl, rfl, trivial⟩ (⟨hi', hok', hB2⟩) (by omega))
  intro g
  have hi' : i = ps.length := by have := of_decide_eq_false g; omega
  rw [hi', List.take_length] at hok
  clear g hi hi'
  have l0 : 0 < ps.length := by omega
  obtain ⟨p0, hp0⟩ : ∃ p, p = ps[0] := ⟨_, rfl⟩
  have pm0 : p0 ∈ ps := hp0 ▸ List.getElem_mem l0
  have s_p0 := (h.each p0 pm0).bs hB
  have ep0 : (ps.getD 0 default).1 = p0.1 := by rw [List.getD_eq_getElem?_getD, List.getElem?_eq_getElem l0, ← hp0]; rfl
  have eh : (ints2 ps).headD [] = p0.2 := by
    rw [hp0]
    match ps, l0 with
    | a :: l, _ => rfl
  have ok0 := hok p0 pm0
  have len0 := ((Shapes.ok_iff p0.2).1 ok0).1
  refine Cw.exit ?_
  refine Pw.thenE ?_
  refine Pw.thenE ?_
  refine Pw.blkHit ?_
  refine Pw.thenN (Cw.out ?_)
  refine Cw.seq ?_
  refine Cw.seq ?_
  refine Cw.region ?_
  refine Lw.val (Ex.move rfl) rfl ?_
  refine Lw.val (Ex.lss rfl rfl) rfl ?_
  refine Lw.val (Ex.move rfl) rfl ?_
  refine Lw.part 32 rfl ?_ ?_
  · intro g
    have g := of_decide_eq_true g
    refine Lw.pass (dj := 32) rfl rfl rfl rfl ?_
    refine Lw.pass (dj := 32) rfl rfl rfl rfl ?_
    refine Lw.pass (dj := 32) rfl rfl rfl rfl ?_
    refine Lw.pass (dj := 32) rfl rfl rfl rfl ?_
    refine Lw.pass (dj := 32) rfl rfl rfl rfl ?_
    refine Lw.pass (dj := 32) rfl rfl rfl rfl ?_
    refine Lw.val (Ex.pickT rfl rfl) rfl ?_
    refine Lw.nil ?_
    refine Pw.thenN (Cw.out ?_)
    refine Cw.condT rfl ?_
    refine Cw.seq ?_
    refine Cw.region ?_
    refine Lw.val (Ex.assign rfl) rfl ?_
    refine Lw.val (Ex.assign rfl) rfl ?_
    refine Lw.nil ?_
    refine Pw.thenN (Cw.out ?_)
    refine Cw.ret ?_
    refine Pw.thenR ?_
    refine Pw.ret2 rfl rfl rfl ?_
    have e1 : E = 1 := by
      rw [hE]
      unfold jdE
      rw [if_pos (by unfold jdA; rw [decide_eq_true g]; simp)]
    rw [e1]
    exact ⟨hB, .slice none 0 0, [], rfl, Sl.nil _ _, fun h => by cases h⟩
  intro g3
  have g3 : ¬ al < 0 := of_decide_eq_false g3
  refine Lw.take (dj := 32) rfl rfl ?_
  refine Lw.val (Ex.move rfl) rfl ?_
  refine Lw.take (dj := 32) rfl rfl ?_
  refine Lw.val (Ex.move rfl) rfl ?_
  refine Lw.take (dj := 32) rfl rfl ?_
  refine Lw.val (Ex.idxT st_72 rfl rfl s_v1 0 rfl l0) rfl ?_
  refine Lw.take (dj := 32) rfl rfl ?_
  refine Lw.val (Ex.as (Ex.ldT (ag_26 _) rfl s_v1 l0) ep0) rfl ?_
  refine Lw.take (dj := 32) rfl rfl ?_
  refine Lw.val (Ex.lenS st_26 rfl (by assumption)) rfl ?_
  refine Lw.take (dj := 32) rfl rfl ?_
  refine Lw.val (Ex.geq rfl rfl) rfl ?_
  refine Lw.val (Ex.pickF rfl rfl) rfl ?_
  refine Lw.nil ?_
  refine Pw.thenN (Cw.out ?_)
  refine Cw.cond rfl ?_ ?_
  · intro g
    have g := of_decide_eq_true g
    refine Cw.seq ?_
    refine Cw.region ?_
    refine Lw.val (Ex.assign rfl) rfl ?_
    refine Lw.val (Ex.assign rfl) rfl ?_
    refine Lw.nil ?_
    refine Pw.thenN (Cw.out ?_)
    refine Cw.ret ?_
    refine Pw.thenR ?_
    refine Pw.ret2 rfl rfl rfl ?_
    have e1 : E = 1 := by
      rw [hE]
      unfold jdE
      rw [if_pos (by unfold jdA; rw [eh, decide_eq_true (show (p0.2.length : Int) ≤ al by omega)]; simp)]
    rw [e1]
    exact ⟨hB, .slice none 0 0, [], rfl, Sl.nil _ _, fun h => by cases h⟩
  intro g4
  have g4 : al < (p0.2.length : Int) := by have := of_decide_eq_false g4; omega
  obtain ⟨k, rfl⟩ : ∃ k : Nat, al = (k : Int) := ⟨al.toNat, by omega⟩
  have hk : k < p0.2.length := by omega
  have hA : jdA (ints2 ps) (k : Int) = false := by
    unfold jdA
    rw [li, eh, decide_eq_false g1, decide_eq_false g2, decide_eq_false g3, decide_eq_false (show ¬ (p0.2.length : Int) ≤ (k : Int) by omega)]
    rw [List.any_eq_false.2 fun s hs => by
      obtain ⟨p, hp, rfl⟩ := List.mem_map.1 hs
      rw [hok p hp]; decide]
    rfl
  obtain ⟨R, hR⟩ : ∃ R, R = jdS (ints2 ps) (k : Int) := ⟨_, rfl⟩
  have hR2 : jnR k p0.2 ((ints2 ps).drop 1) = R := by
    rw [hR]
    unfold jdS
    rw [eh, Int.toNat_natCast, List.drop_one]
  have hER : E = jdR R := by
    rw [hE, hR]
    unfold jdE
    rw [hA]; rfl
  rw [← hR]
  clear hR hE hA eh
  refine Cw.skip ?_
  refine Pw.thenN (Cw.out ?_)
  refine Cw.seq ?_
  refine Cw.region ?_
  refine Lw.val (Ex.move rfl) rfl ?_
  refine Lw.val (Ex.idxT st_72 rfl rfl s_v1 0 rfl l0) rfl ?_
  refine Lw.val (Ex.as (Ex.ldT (ag_26 _) rfl s_v1 l0) ep0) rfl ?_
  refine Lw.valW (Xw.append (base := W.heap.size) st_26 it_3 rfl (by decide) rfl rfl (World.ownsRow_nil _ _ _ _) s_p0 (one_map (fun _ => rfl) _) (by omega) (by omega) hB.size) rfl ?_
  rintro x0 w2 ⟨o_x, hn, -⟩
  rw [List.nil_append, Nat.zero_add] at o_x
  have hB := hB.trans hn
  refine Lw.val (Ex.assign rfl) rfl ?_
  refine Lw.nil ?_
  refine Pw.thenN (Cw.out ?_)
  refine Cw.seq ?_
  refine Cw.seq ?_
  refine Cw.region ?_
  refine Lw.val (Ex.assign rfl) rfl ?_
  refine Lw.nil ?_
  refine Pw.thenN (Cw.out ?_)
  refine Cw.block ?_
  refine Cw.loop (S := (Nat × Value × List Int)) (fun z => [(0, v), (1, .int .i64 (k : Int)), (7, z.2.1), (8, .int .i64 (z.1 : Int))]) (fun z w' => 1 ≤ z.1 ∧ z.1 ≤ ps.length ∧ w'.ownsRow W.heap.size 3 1 z.2.1 z.2.2.length (z.2.2.map (Value.int .i64)) ∧ z.2.2.length = p0.2.length ∧ (0 ≤ z.2.2.getD k default ∧ z.2.2.getD k default ≤ 64 * (z.1 : Int)) ∧ jnR k z.2.2 ((ints2 ps).drop z.1) = R ∧ Below W.heap.size W w') (fun z => ps.length - z.1) ((1, x0, p0.2)) ⟨rfl, rfl, rfl, rfl, trivial⟩ ?_ ?_
  · have := okd ok0 hk
    exact ⟨Nat.le_refl _, l0, o_x, rfl, by simp only; omega, hR2, hB⟩
  rintro ⟨i, x, s⟩ w3 ⟨h1, hi, o_x, ls, hs, hJ, hB⟩
  replace h1 : 1 ≤ i := h1
  replace hi : i ≤ ps.length := hi
  replace o_x : w3.ownsRow W.heap.size 3 1 x s.length (s.map (Value.int .i64)) := o_x
  replace ls : s.length = p0.2.length := ls
  replace hs : 0 ≤ s.getD k default ∧ s.getD k default ≤ 64 * (i : Int) := hs
  replace hJ : jnR k s ((ints2 ps).drop i) = R := hJ
  have s_v3 := s_v.bs hB
  have s_x := own_slT o_x
  refine Cw.seq ?_
  refine Cw.seq ?_
  refine Cw.region ?_
  refine Lw.val (Ex.move rfl) rfl ?_
  refine Lw.val (Ex.move rfl) rfl ?_
  refine Lw.val (Ex.lenS st_72 rfl (by assumption)) rfl ?_
  refine Lw.val (Ex.lss rfl rfl) rfl ?_
  refine Lw.nil ?_
  refine Pw.thenN (Cw.out ?_)
  refine Cw.cond rfl ?_ ?_
  · intro g
    have hi' : i < ps.length := by have := of_decide_eq_true g; omega
    obtain ⟨p, hp⟩ : ∃ p, p = ps[i] := ⟨_, rfl⟩
    have pm : p ∈ ps := hp ▸ List.getElem_mem hi'
    have s_p := (h.each p pm).bs hB
    have okp := hok p pm
    have ep : (ps.getD i default).1 = p.1 := by rw [List.getD_eq_getElem?_getD, List.getElem?_eq_getElem hi', ← hp]; rfl
    have ed : (ints2 ps).drop i = p.2 :: (ints2 ps).drop (i + 1) := by
      rw [List.drop_eq_getElem_cons (by rw [li]; exact hi')]
      congr 1
      rw [hp]; exact List.getElem_map ..
    rw [ed] at hJ
    have hno : jn1 k s p.2 = none → E = 10 := fun hn => by
      unfold jnR at hJ
      rw [hn] at hJ
      rw [hER, ← hJ]
      rfl
    refine Cw.skip ?_
    refine Pw.thenN (Cw.out ?_)
    refine Cw.seq ?_
    refine Cw.block ?_
    refine Cw.seq ?_
    refine Cw.seq ?_
    refine Cw.region ?_
    refine Lw.val (Ex.move rfl) rfl ?_
    refine Lw.val (Ex.move rfl) rfl ?_
    refine Lw.val (Ex.idxT st_72 rfl rfl s_v3 i rfl hi') rfl ?_
    refine Lw.val (Ex.as (Ex.ldT (ag_26 _) rfl s_v3 hi') ep) rfl ?_
    refine Lw.val (Ex.lenS st_26 rfl (by assumption)) rfl ?_
    refine Lw.val (Ex.move rfl) rfl ?_
    refine Lw.val (Ex.lenS st_26 rfl (by assumption)) rfl ?_
    refine Lw.val (Ex.neq rfl rfl) rfl ?_
    refine Lw.nil ?_
    refine Pw.thenN (Cw.out ?_)
    refine Cw.cond rfl ?_ ?_
    · intro g5
      have g5 : ¬ p.2.length = s.length := fun e => by rw [e] at g5; simp at g5
      have e10 := hno (by unfold jn1; rw [if_neg fun h => g5 h.1])
      refine Cw.seq ?_
      refine Cw.region ?_
      refine Lw.val (Ex.assign rfl) rfl ?_
      refine Lw.val (Ex.assign rfl) rfl ?_
      refine Lw.nil ?_
      refine Pw.thenN (Cw.out ?_)
      refine Cw.ret ?_
      refine Pw.thenR ?_
      refine Pw.blkR ?_
      refine Pw.thenR ?_
      refine Pw.thenR ?_
      refine Pw.blkR ?_
      refine Pw.thenR ?_
      refine Pw.ret2 rfl rfl rfl ?_
      rw [e10]
      exact ⟨hB, .slice none 0 0, [], rfl, Sl.nil _ _, fun h => by cases h⟩
    intro g5
    have g5 : p.2.length = s.length := by simp at g5; omega
    refine Cw.skip ?_
    refine Pw.thenN (Cw.out ?_)
    refine Cw.seq ?_
    refine Cw.seq ?_
    refine Cw.region ?_
    refine Lw.val (Ex.assign rfl) rfl ?_
    refine Lw.nil ?_
    refine Pw.thenN (Cw.out ?_)
    refine Cw.block ?_
    refine Cw.loop (S := Nat) (fun m => [(0, v), (1, .int .i64 (k : Int)), (7, x), (8, .int .i64 (i : Int)), (9, .int .i64 (m : Int))]) (fun m w' => m ≤ s.length ∧ (∀ j, j < m → j ≠ k → s.getD j default = p.2.getD j default) ∧ w'.ownsRow W.heap.size 3 1 x s.length (s.map (Value.int .i64)) ∧ Below w3.heap.size w3 w') (fun m => s.length - m) (0) ⟨rfl, rfl, rfl, rfl, rfl, trivial⟩ ?_ ?_
    · exact ⟨Nat.zero_le _, fun j hj => by omega, o_x, Below.refl _ _⟩
    rintro m w4 ⟨hm, hall, o_x, hB4⟩
    have hBW := bt hB hB4
    have s_v4 := s_v3.bs hB4
    have s_p4 := s_p.bs hB4
    have s_x := own_slT o_x
    refine Cw.seq ?_
    refine Cw.seq ?_
    refine Cw.region ?_
    refine Lw.val (Ex.move rfl) rfl ?_
    refine Lw.val (Ex.move rfl) rfl ?_
    refine Lw.val (Ex.lenS st_26 rfl (by assumption)) rfl ?_
    refine Lw.val (Ex.lss rfl rfl) rfl ?_
    refine Lw.nil ?_
    refine Pw.thenN (Cw.out ?_)
    refine Cw.cond rfl ?_ ?_
    · intro g6
      have hm' : m < s.length := by have := of_decide_eq_true g6; omega
      have hmp : m < p.2.length := by omega
      refine Cw.skip ?_
      refine Pw.thenN (Cw.out ?_)
      refine Cw.seq ?_
      refine Cw.block ?_
      refine Cw.seq ?_
      refine Cw.quiet mixed (by kernel_rfl) ?_
      refine Qw.val (fun w1 hq => Ex.move rfl) rfl ?_
      refine Qw.val (fun w1 hq => Ex.move rfl) rfl ?_
      refine Qw.val (fun w1 hq => Ex.neq rfl rfl) rfl ?_
      refine Qw.val (fun w1 hq => Ex.move rfl) rfl ?_
      refine Qw.part 67 rfl ?_ ?_
      · intro g7
        have g7 : ¬ m = k := fun e => by rw [e] at g7; simp at g7
        refine Qw.take (dj := 67) rfl rfl ?_
        refine Qw.val (fun w1 hq => Ex.move rfl) rfl ?_
        refine Qw.take (dj := 67) rfl rfl ?_
        refine Qw.val (fun w1 hq => Ex.move rfl) rfl ?_
        refine Qw.take (dj := 67) rfl rfl ?_
        refine Qw.val (fun w1 hq => Ex.idxT st_72 rfl rfl (s_v4.bs hq) i rfl hi') rfl ?_
        refine Qw.take (dj := 67) rfl rfl ?_
        refine Qw.val (fun w1 hq => Ex.as (Ex.ldT (ag_26 _) rfl (s_v4.bs hq) hi') ep) rfl ?_
        refine Qw.take (dj := 67) rfl rfl ?_
        refine Qw.val (fun w1 hq => Ex.move rfl) rfl ?_
        refine Qw.take (dj := 67) rfl rfl ?_
        refine Qw.val (fun w1 hq => Ex.idxT st_26 rfl rfl (Sl.bs (by assumption) hq) _ rfl (by omega)) rfl ?_
        refine Qw.take (dj := 67) rfl rfl ?_
        refine Qw.val (fun w1 hq => Ex.ldT (ag_3 _) rfl (Sl.bs (by assumption) hq) (by omega)) rfl ?_
        refine Qw.take (dj := 67) rfl rfl ?_
        refine Qw.val (fun w1 hq => Ex.move rfl) rfl ?_
        refine Qw.take (dj := 67) rfl rfl ?_
        refine Qw.val (fun w1 hq => Ex.move rfl) rfl ?_
        refine Qw.take (dj := 67) rfl rfl ?_
        refine Qw.val (fun w1 hq => Ex.idxT st_26 rfl rfl (Sl.bs (by assumption) hq) _ rfl (by omega)) rfl ?_
        refine Qw.take (dj := 67) rfl rfl ?_
        refine Qw.val (fun w1 hq => Ex.ldT (ag_3 _) rfl (Sl.bs (by assumption) hq) (by omega)) rfl ?_
        refine Qw.take (dj := 67) rfl rfl ?_
        refine Qw.val (fun w1 hq => Ex.neq rfl rfl) rfl ?_
        refine Qw.val (fun w1 hq => Ex.pickT rfl rfl) rfl ?_
        refine Qw.nil (fun w5 hq => ?_)
        refine Pw.thenN (Cw.out ?_)
        have hB5 := bt hB4 hq
        have o_x5 := own_bs o_x hq
        refine Cw.cond rfl ?_ ?_
        · intro g8
          have g8 : ¬ s.getD m default = p.2.getD m default := fun e => by rw [e] at g8; simp at g8
          have e10 := hno (by unfold jn1; rw [if_neg fun h => g8 (h.2.2 m hm' g7)])
          refine Cw.seq ?_
          refine Cw.region ?_
          refine Lw.val (Ex.assign rfl) rfl ?_
          refine Lw.val (Ex.assign rfl) rfl ?_
          refine Lw.nil ?_
          refine Pw.thenN (Cw.out ?_)
          refine Cw.ret ?_
          refine Pw.blkR ?_
          refine Pw.thenR ?_
          refine Pw.thenR ?_
          refine Pw.blkR ?_
          refine Pw.thenR ?_
          refine Pw.blkR ?_
          refine Pw.thenR ?_
          refine Pw.thenR ?_
          refine Pw.blkR ?_
          refine Pw.thenR ?_
          refine Pw.ret2 rfl rfl rfl ?_
          rw [e10]
          exact ⟨bt hB hB5, .slice none 0 0, [], rfl, Sl.nil _ _, fun h => by cases h⟩
        intro g8
        have g8 : s.getD m default = p.2.getD m default := by simp at g8; simpa using g8.symm
        refine Cw.skip ?_
        refine Pw.blkN ?_
        refine Pw.thenN (Cw.out ?_)
        refine Cw.region ?_
        refine Lw.val (Ex.move rfl) rfl ?_
        refine Lw.val (Ex.addI rfl rfl (by omega)) rfl ?_
        refine Lw.val (Ex.assign rfl) rfl ?_
        refine Lw.nil ?_
        have hall' : ∀ j, j < m + 1 → j ≠ k → s.getD j default = p.2.getD j default := fun j hj hne =>
          (Nat.lt_succ_iff_lt_or_eq.1 hj).elim (fun h => hall j h hne) (fun h => by rw [h]; exact g8)
        exact Pw.thenN (Pw.next (m + 1) ⟨rfl, rfl, rfl, rfl, rfl, trivial⟩ (⟨hm', hall', o_x5, hB5⟩) (by omega))
      intro g7
      have g7 : m = k := by simp at g7; omega
      refine Qw.pass (dj := 67) rfl rfl rfl rfl ?_
      refine Qw.pass (dj := 67) rfl rfl rfl rfl ?_
      refine Qw.pass (dj := 67) rfl rfl rfl rfl ?_
      refine Qw.pass (dj := 67) rfl rfl rfl rfl ?_
      refine Qw.pass (dj := 67) rfl rfl rfl rfl ?_
      refine Qw.pass (dj := 67) rfl rfl rfl rfl ?_
      refine Qw.pass (dj := 67) rfl rfl rfl rfl ?_
      refine Qw.pass (dj := 67) rfl rfl rfl rfl ?_
      refine Qw.pass (dj := 67) rfl rfl rfl rfl ?_
      refine Qw.pass (dj := 67) rfl rfl rfl rfl ?_
      refine Qw.pass (dj := 67) rfl rfl rfl rfl ?_
      refine Qw.pass (dj := 67) rfl rfl rfl rfl ?_
      refine Qw.val (fun w1 hq => Ex.pickF rfl rfl) rfl ?_
      refine Qw.nil (fun w5 hq => ?_)
      refine Pw.thenN (Cw.out ?_)
      refine Cw.condF rfl ?_
      refine Cw.skip ?_
      refine Pw.blkN ?_
      refine Pw.thenN (Cw.out ?_)
      refine Cw.region ?_
      refine Lw.val (Ex.move rfl) rfl ?_
      refine Lw.val (Ex.addI rfl rfl (by omega)) rfl ?_
      refine Lw.val (Ex.assign rfl) rfl ?_
      refine Lw.nil ?_
      have hB5 := bt hB4 hq
      have o_x5 := own_bs o_x hq
      have hall' : ∀ j, j < m + 1 → j ≠ k → s.getD j default = p.2.getD j default := fun j hj hne =>
        (Nat.lt_succ_iff_lt_or_eq.1 hj).elim (fun h => hall j h hne) (fun h => absurd (h.trans g7) hne)
      exact Pw.thenN (Pw.next (m + 1) ⟨rfl, rfl, rfl, rfl, rfl, trivial⟩ (⟨hm', hall', o_x5, hB5⟩) (by omega))
    intro g6
    have hm' : m = s.length := by have := of_decide_eq_false g6; omega
    rw [hm'] at hall
    clear g6 hm hm'
    have hks : k < s.length := by omega
    have hkp : k < p.2.length := by omega
    have e1 : jn1 k s p.2 = some (s.set k (s.getD k default + p.2.getD k default)) := by unfold jn1; rw [if_pos ⟨g5, hks, hall⟩]
    have hJ2 : jnR k (s.set k (s.getD k default + p.2.getD k default)) ((ints2 ps).drop (i + 1)) = R := by
      unfold jnR at hJ
      rw [e1] at hJ
      exact hJ
    have dk := okd okp hkp
    refine Cw.exit ?_
    refine Pw.thenE ?_
    refine Pw.thenE ?_
    refine Pw.blkHit ?_
    refine Pw.thenN (Cw.out ?_)
    refine Cw.tail 15 mixed (by kernel_rfl) ?_
    refine Qw.val (fun w1 hq => Ex.move rfl) rfl ?_
    refine Qw.val (fun w1 hq => Ex.move rfl) rfl ?_
    refine Qw.val (fun w1 hq => Ex.move rfl) rfl ?_
    refine Qw.val (fun w1 hq => Ex.move rfl) rfl ?_
    refine Qw.val (fun w1 hq => Ex.idxT st_26 rfl rfl (s_x.bs hq) k rfl hks) rfl ?_
    refine Qw.val (fun w1 hq => Ex.ldT (ag_3 _) rfl (s_x.bs hq) hks) rfl ?_
    refine Qw.val (fun w1 hq => Ex.move rfl) rfl ?_
    refine Qw.val (fun w1 hq => Ex.move rfl) rfl ?_
    refine Qw.val (fun w1 hq => Ex.idxT st_72 rfl rfl (s_v4.bs hq) i rfl hi') rfl ?_
    refine Qw.val (fun w1 hq => Ex.as (Ex.ldT (ag_26 _) rfl (s_v4.bs hq) hi') ep) rfl ?_
    refine Qw.val (fun w1 hq => Ex.move rfl) rfl ?_
    refine Qw.val (fun w1 hq => Ex.idxT st_26 rfl rfl (s_p4.bs hq) k rfl hkp) rfl ?_
    refine Qw.val (fun w1 hq => Ex.ldT (ag_3 _) rfl (s_p4.bs hq) hkp) rfl ?_
    refine Qw.val (fun w1 hq => Ex.addI rfl rfl (by omega)) rfl ?_
    refine Qw.val (fun w1 hq => Ex.idxT st_26 rfl rfl (s_x.bs hq) k rfl hks) rfl ?_
    refine Qw.done (fun w5 hq => ?_)
    have hB5 := bt hB4 hq
    have o_x5 := own_bs o_x hq
    refine Lw.unit (Xu.stO (u := .int .i64 (s.getD k default + p.2.getD k default)) (sz_3 _) rfl rfl rfl o_x5 (by rw [List.length_map]; exact hks)) ?_
    rintro w6 ⟨o_x6, hg, hz⟩
    rw [← List.map_set] at o_x6
    have hBW5 := bt hB hB5
    have hB6 := hBW5.grown hg hBW5.size (fun b e => (own_block o_x5 b e).1)
    refine Lw.nil ?_
    refine Pw.blkN ?_
    refine Pw.thenN (Cw.out ?_)
    refine Cw.region ?_
    refine Lw.val (Ex.move rfl) rfl ?_
    refine Lw.val (Ex.addI rfl rfl (by omega)) rfl ?_
    refine Lw.val (Ex.assign rfl) rfl ?_
    refine Lw.nil ?_
    exact Pw.thenN (Pw.next ((i + 1, x, s.set k (s.getD k default + p.2.getD k default))) ⟨rfl, rfl, rfl, rfl, trivial⟩ (⟨by simp only; omega, hi', by simp only [List.length_set]; exact o_x6, by simp only [List.length_set]; exact ls, by simp only; rw [show (s.set k (s.getD k default + p.2.getD k default)).getD k default = s.getD k default + p.2.getD k default by simp [hks]]; omega, hJ2, hB6⟩) (by simp only; omega))
  intro g
  have hi' : i = ps.length := by have := of_decide_eq_false g; omega
  rw [hi', List.drop_of_length_le (by rw [li]; exact Nat.le_refl _)] at hJ
  have hRs : R = some s := by rw [← hJ]; rfl
  rw [hRs] at hER ⊢
  refine Cw.exit ?_
  refine Pw.thenE ?_
  refine Pw.thenE ?_
  refine Pw.blkHit ?_
  refine Pw.thenN (Cw.out ?_)
  refine Cw.seq ?_
  refine Cw.seq ?_
  refine Cw.region ?_
  refine Lw.val (Ex.move rfl) rfl ?_
  refine Lw.callF rfl rfl (rcheck_c x s w3 s_x) ?_
  rintro _ w4 ⟨rfl, hn⟩
  have hB4 := bt hB hn
  refine Lw.val (Ex.not rfl) rfl ?_
  refine Lw.nil ?_
  refine Pw.thenN (Cw.out ?_)
  refine Cw.cond rfl ?_ ?_
  · intro g5
    have g5 : Shapes.ok s = false := by simpa using g5
    have e10 : E = 10 := by rw [hER]; show (if Shapes.ok s = true then (0 : Int) else 10) = 10; rw [g5]; rfl
    refine Cw.seq ?_
    refine Cw.region ?_
    refine Lw.val (Ex.assign rfl) rfl ?_
    refine Lw.val (Ex.assign rfl) rfl ?_
    refine Lw.nil ?_
    refine Pw.thenN (Cw.out ?_)
    refine Cw.ret ?_
    refine Pw.thenR ?_
    refine Pw.ret2 rfl rfl rfl ?_
    rw [e10]
    exact ⟨hB4, .slice none 0 0, [], rfl, Sl.nil _ _, fun h => by cases h⟩
  intro g5
  have g5 : Shapes.ok s = true := by simpa using g5
  have e0 : E = 0 := by rw [hER]; show (if Shapes.ok s = true then (0 : Int) else 10) = 0; rw [g5]; rfl
  refine Cw.skip ?_
  refine Pw.thenN (Cw.out ?_)
  refine Cw.seq ?_
  refine Cw.region ?_
  refine Lw.val (Ex.move rfl) rfl ?_
  refine Lw.val (Ex.assign rfl) rfl ?_
  refine Lw.val (Ex.assign rfl) rfl ?_
  refine Lw.nil ?_
  refine Pw.thenN (Cw.out ?_)
  refine Cw.ret ?_
  refine Pw.ret2 rfl rfl rfl ?_
  rw [e0]
  exact ⟨hB4, x, s, rfl, s_x.bs hn, fun _ => rfl⟩
end Go.Proofs.YtkhndfaampkbnaaGreatDoor
