/- The walk of package sums, and of its document's answer: each function once. -/
import Derived.Test.YtiaojbbgjlpikaaFacts
import Derived.Test.YtiaojbbgjlpikaaCrc
namespace Go.Proofs.Ytiaojbbgjlpikaa
open Go Go.Dd Go.RowKit
set_option maxRecDepth 100000

def tabs (k : Nat) : List Value := (List.range k).map fun n => u32 (Crc.tab (BitVec.ofNat 8 n))

theorem zero_tab : ∃ zv, (∀ w, (zeroValue 115).run Try.prog w = .ok zv w) ∧ zv.cells = (List.replicate 256 (Value.int .u32 0)).toArray :=
  ⟨.agg (List.replicate 256 (Value.int .u32 0)).toArray, fun w => by kernel_rfl, rfl⟩

theorem tabs_set (k : Nat) (hk : k < 256) : (tabs k ++ List.replicate (256 - k) (Value.int .u32 0)).set k (u32 (Crc.tab (BitVec.ofNat 8 k))) = tabs (k + 1) ++ List.replicate (256 - (k + 1)) (Value.int .u32 0) := by
  have h1 : (tabs k).length = k := by simp [tabs]
  have h2 : 256 - k = (256 - (k + 1)) + 1 := by omega
  rw [List.set_append_right _ _ (by omega), h1, Nat.sub_self, h2, List.replicate_succ, List.set_cons_zero]
  simp [tabs, List.range_succ]

theorem table_c (w : World) : Fnc Try.prog 55 [] w (fun r w' => r = .agg (tabs 256).toArray ∧ Below w.heap.size w w') := by
  obtain ⟨zv, hz, hzc⟩ := zero_tab
  refine Fnc.enter (n := 22) Try.func55 (by kernel_rfl) rfl rfl rfl ?_
  refine Cw.seq ?_
  refine Cw.region ?_
  refine Lw.valW (Xw.alloc (hz _) hzc) rfl ?_
  rintro _ w1 ⟨rfl, hb, hB, hs⟩
  refine Lw.nil ?_
  refine Pw.thenN (Cw.out ?_)
  refine Cw.seq ?_
  refine Cw.seq ?_
  refine Cw.region ?_
  refine Lw.val (Ex.move (show _ = some (u32 (0#32)) from rfl)) rfl ?_
  refine Lw.nil ?_
  refine Pw.thenN (Cw.out ?_)
  refine Cw.block ?_
  refine Cw.loop (S := Nat) (fun k => [(0, .pointer (some ⟨w.heap.size, 0, none⟩)), (3, u32 (BitVec.ofNat 32 k))]) (fun k w' => k ≤ 256 ∧ Blk w' w.heap.size 115 (tabs k ++ List.replicate (256 - k) (.int .u32 0)) ∧ Below w.heap.size w w') (fun k => 256 - k) (0) ⟨rfl, rfl, trivial⟩ ?_ ?_
  · exact ⟨by omega, hb, hB⟩
  clear hb hB hs w1
  rintro k w1 ⟨hk, hb, hB⟩
  have hkk : (BitVec.ofNat 32 k).toNat = k := by simp; omega
  refine Cw.seq ?_
  refine Cw.region ?_
  refine Lw.val (Ex.lss rfl rfl) rfl ?_
  refine Lw.nil ?_
  refine Pw.thenN (Cw.out ?_)
  refine Cw.seq ?_
  refine Cw.cond rfl ?_ ?_
  · intro h
    refine Cw.skip ?_
    refine Pw.thenN (Cw.out ?_)
    refine Cw.seq ?_
    refine Cw.block ?_
    refine Cw.seq ?_
    refine Cw.region ?_
    refine Lw.val (Ex.move rfl) rfl ?_
    refine Lw.val (Ex.assign rfl) rfl ?_
    refine Lw.nil ?_
    refine Pw.thenN (Cw.out ?_)
    refine Cw.seq ?_
    refine Cw.region ?_
    refine Lw.val (Ex.move rfl) rfl ?_
    refine Lw.val (Ex.assign rfl) rfl ?_
    refine Lw.nil ?_
    refine Pw.thenN (Cw.out ?_)
    refine Cw.seq ?_
    refine Cw.seq ?_
    refine Cw.region ?_
    refine Lw.val (Ex.move rfl) rfl ?_
    refine Lw.nil ?_
    refine Pw.thenN (Cw.out ?_)
    refine Cw.block ?_
    refine Cw.loop (S := Nat) (fun j => [(0, .pointer (some ⟨w.heap.size, 0, none⟩)), (1, u32 (BitVec.ofNat 32 k)), (2, u32 (Crc.iter j (BitVec.ofNat 32 k))), (3, u32 (BitVec.ofNat 32 k)), (7, .int .i64 (j : Int))]) (fun j w' => j ≤ 8 ∧ w' = w1) (fun j => 8 - j) (0) ⟨rfl, rfl, rfl, rfl, rfl, trivial⟩ ?_ ?_
    · exact ⟨by omega, rfl⟩
    rintro j _ ⟨hj, rfl⟩
    refine Cw.seq ?_
    refine Cw.region ?_
    refine Lw.val (Ex.lss rfl rfl) rfl ?_
    refine Lw.nil ?_
    refine Pw.thenN (Cw.out ?_)
    refine Cw.seq ?_
    refine Cw.cond rfl ?_ ?_
    · intro hj8
      have hj8' : j < 8 := by simp at hj8; omega
      refine Cw.skip ?_
      refine Pw.thenN (Cw.out ?_)
      refine Cw.seq ?_
      refine Cw.block ?_
      refine Cw.region ?_
      refine Lw.val (Ex.move rfl) rfl ?_
      refine Lw.val (Ex.shr32 (j := 1) rfl rfl (by decide)) rfl ?_
      refine Lw.val (Ex.move rfl) rfl ?_
      refine Lw.val (Ex.and32 rfl (show _ = some (u32 (1#32)) from rfl)) rfl ?_
      refine Lw.val (Ex.neg32 rfl) rfl ?_
      refine Lw.val (Ex.and32 (show _ = some (u32 (3988292384#32)) from rfl) rfl) rfl ?_
      refine Lw.val (Ex.xor32 rfl rfl) rfl ?_
      refine Lw.val (Ex.assign rfl) rfl ?_
      refine Lw.nil ?_
      refine Pw.blkN ?_
      refine Pw.thenN (Cw.out ?_)
      refine Cw.region ?_
      refine Lw.val (Ex.addI rfl rfl (by omega)) rfl ?_
      refine Lw.val (Ex.move rfl) rfl ?_
      refine Lw.nil ?_
      exact Pw.thenN (Pw.next (j + 1) ⟨rfl, rfl, (by rw [Crc.iter_succ', ← Crc.bit_prog]; rfl), rfl, rfl, trivial⟩ (⟨by omega, rfl⟩) (by omega))
    · intro hj8
      have hj8' : j = 8 := by simp at hj8; omega
      have hk8 : k < 256 := by simp [hkk] at h; omega
      refine Cw.exit ?_
      refine Pw.thenE ?_
      refine Pw.thenE ?_
      refine Pw.blkHit ?_
      refine Pw.thenN (Cw.out ?_)
      refine Cw.region ?_
      refine Lw.val (Ex.move rfl) rfl ?_
      refine Lw.val (Ex.move rfl) rfl ?_
      refine Lw.val (Ex.idxB un_115 sz_32 rfl rfl k (by rw [hkk]) hk8) rfl ?_
      refine Lw.unit (Xu.stB (sz_32 _) rfl rfl rfl hb (by simp [tabs]; omega)) ?_
      rintro w2 ⟨hb2, hg, hs2⟩
      refine Lw.nil ?_
      refine Pw.blkN ?_
      refine Pw.thenN (Cw.out ?_)
      refine Cw.region ?_
      refine Lw.val (Ex.add32 rfl (show _ = some (u32 (1#32)) from rfl)) rfl ?_
      refine Lw.val (Ex.move rfl) rfl ?_
      refine Lw.nil ?_
      have e1 : (BitVec.ofNat 32 k) + 1#32 = BitVec.ofNat 32 (k + 1) := by apply BitVec.eq_of_toNat_eq; simp
      have e2 : u32 (Crc.iter 8 (BitVec.ofNat 32 k)) = u32 (Crc.tab (BitVec.ofNat 8 k)) := by
        have : BitVec.ofNat 32 k = (BitVec.ofNat 8 k).setWidth 32 := by apply BitVec.eq_of_toNat_eq; simp; omega
        rw [this]; rfl
      rw [hj8', e2, Nat.zero_add, Nat.mul_one, tabs_set k hk8] at hb2
      exact Pw.thenN (Pw.next (k + 1) ⟨rfl, (by rw [e1]; rfl), trivial⟩ (⟨by omega, hb2, hB.grown hg (below_size hB) (by rintro _ ⟨⟩; exact Nat.le_refl _)⟩) (by omega))
  · intro h
    have hk8 : k = 256 := by simp [hkk] at h; omega
    subst hk8
    have hb' : Blk w1 w.heap.size 115 (tabs 256) := by simpa using hb
    have hl : (tabs 256).length = 256 := by simp [tabs]
    refine Cw.exit ?_
    refine Pw.thenE ?_
    refine Pw.thenE ?_
    refine Pw.blkHit ?_
    refine Pw.thenN (Cw.out ?_)
    refine Cw.seq ?_
    refine Cw.region ?_
    refine Lw.val (Ex.ldA (ag_115 _) (sz_115 _) hl rfl hb') rfl ?_
    refine Lw.unit (Xu.stA rfl hl rfl rfl (by simp [tabs, Value.oneCell']) hb' hl) ?_
    rintro w2 ⟨hb2, hg, hs2⟩
    refine Lw.nil ?_
    refine Pw.thenN (Cw.out ?_)
    refine Cw.ret ?_
    refine Pw.retC rfl rfl (by assumption) (Try.underlying115) rfl rfl hl ?_
    exact ⟨rfl, hB.grown hg (below_size hB) (by rintro _ ⟨⟩; exact Nat.le_refl _)⟩

theorem tabs_at (c : BitVec 8) : (tabs 256)[0 + c.toNat * 1]? = some (u32 (Crc.tab c)) := by
  have h : c.toNat < 256 := c.isLt
  have e : BitVec.ofNat 8 c.toNat = c := by apply BitVec.eq_of_toNat_eq; simp
  simp [tabs, h]

theorem run_step (r : BitVec 32) (l : List (BitVec 8)) (k : Nat) (hk : k < l.length) : Crc.run r (l.take (k + 1)) = Crc.tab ((Crc.run r (l.take k)).setWidth 8 ^^^ l.getD k default) ^^^ Crc.run r (l.take k) >>> 8 := by
  rw [List.take_succ_eq_append_getElem hk, Crc.run_append]
  simp [Crc.run, Crc.feed_tab, hk]
theorem run_step' (r : BitVec 32) (l : List (BitVec 8)) (k : Nat) (hk : k < l.length) : Crc.run r (l.take (k + 1)) = Crc.iter 8 (Crc.run r (l.take k) ^^^ (l.getD k default).setWidth 32) := by
  rw [List.take_succ_eq_append_getElem hk, Crc.run_append]
  simp [Crc.run, Crc.feed, hk]

theorem on_c (s : BitVec 32) (v : Value) (l : List (BitVec 8)) (w : World) (hv : SlT b8 w v l) : Fnc Try.prog 34 [u32 s, v] w (fun r w' => r = u32 (Crc.on s l) ∧ Below w.heap.size w w') := by
  obtain ⟨zv, hz, hzc⟩ := zero_tab
  have hl : (tabs 256).length = 256 := by simp [tabs]
  have hle := hv.le
  refine Fnc.enter (n := 30) Try.func34 (by kernel_rfl) rfl rfl rfl ?_
  refine Cw.seq ?_
  refine Cw.region ?_
  refine Lw.val (Ex.assign (show _ = some (u32 (0#32)) from rfl)) rfl ?_
  refine Lw.nil ?_
  refine Pw.thenN (Cw.out ?_)
  refine Cw.seq ?_
  refine Cw.region ?_
  refine Lw.callF rfl rfl (table_c w) ?_
  rintro _ w1 ⟨rfl, hB⟩
  refine Lw.val (Ex.move rfl) rfl ?_
  refine Lw.val (Ex.not32 rfl) rfl ?_
  refine Lw.valW (Xw.alloc (hz _) hzc) rfl ?_
  rintro _ w2 ⟨rfl, hb, hB2, hs2⟩
  refine Lw.unit (Xu.stA rfl hl rfl rfl (by simp [tabs, Value.oneCell']) hb List.length_replicate) ?_
  rintro w3 ⟨hb3, hg, hs3⟩
  have hB3 : Below w.heap.size w w3 := (below_tr hB hB2 (Nat.le_refl _)).grown hg (by have := hB.size; omega) (by rintro _ ⟨⟩; exact hB.size)
  have hv3 := hv.bs hB3
  refine Lw.val (Ex.assign rfl) rfl ?_
  refine Lw.nil ?_
  refine Pw.thenN (Cw.out ?_)
  refine Cw.seq ?_
  refine Cw.seq ?_
  refine Cw.region ?_
  refine Lw.val (Ex.move rfl) rfl ?_
  refine Lw.val (Ex.lenS st_53 rfl (by assumption)) rfl ?_
  refine Lw.val (Ex.move rfl) rfl ?_
  refine Lw.nil ?_
  refine Pw.thenN (Cw.out ?_)
  refine Cw.block ?_
  refine Cw.loop (S := Nat) (fun k => [(5, .pointer (some ⟨w1.heap.size, 0, none⟩)), (6, u32 (Crc.run (~~~ s) (l.take k))), (12, v), (13, .int .i64 (l.length : Int)), (14, .int .i64 (k : Int))]) (fun k w' => k ≤ l.length ∧ w' = w3) (fun k => l.length - k) (0) ⟨rfl, rfl, rfl, rfl, rfl, trivial⟩ ?_ ?_
  · exact ⟨by omega, rfl⟩
  rintro k _ ⟨hk, rfl⟩
  refine Cw.seq ?_
  refine Cw.region ?_
  refine Lw.val (Ex.lss rfl rfl) rfl ?_
  refine Lw.nil ?_
  refine Pw.thenN (Cw.out ?_)
  refine Cw.seq ?_
  refine Cw.cond rfl ?_ ?_
  · intro h
    have hk' : k < l.length := by simp at h; omega
    refine Cw.skip ?_
    refine Pw.thenN (Cw.out ?_)
    refine Cw.seq ?_
    refine Cw.block ?_
    refine Cw.seq ?_
    refine Cw.region ?_
    refine Lw.val (Ex.idxT st_53 rfl rfl (by assumption) _ rfl (by omega)) rfl ?_
    refine Lw.val (Ex.ldT (ag_5 _) rfl (by assumption) (by omega)) rfl ?_
    refine Lw.val (Ex.assign rfl) rfl ?_
    refine Lw.nil ?_
    refine Pw.thenN (Cw.out ?_)
    refine Cw.region ?_
    refine Lw.val (Ex.move rfl) rfl ?_
    refine Lw.val (Ex.conv32_8 us_32 un_5 rfl) rfl ?_
    refine Lw.val (Ex.move rfl) rfl ?_
    refine Lw.val (Ex.xor8 rfl rfl) rfl ?_
    refine Lw.val (Ex.idxB un_115 sz_32 rfl rfl ((Crc.run (~~~ s) (l.take k)).setWidth 8 ^^^ l.getD k default).toNat rfl (BitVec.isLt _)) rfl ?_
    refine Lw.val (Ex.ldB (ag_32 _) rfl hb3 (tabs_at _)) rfl ?_
    refine Lw.val (Ex.move rfl) rfl ?_
    refine Lw.val (Ex.shr32 (j := 8) rfl rfl (by decide)) rfl ?_
    refine Lw.val (Ex.xor32 rfl rfl) rfl ?_
    refine Lw.val (Ex.assign rfl) rfl ?_
    refine Lw.nil ?_
    refine Pw.blkN ?_
    refine Pw.thenN (Cw.out ?_)
    refine Cw.region ?_
    refine Lw.val (Ex.addI rfl rfl (by omega)) rfl ?_
    refine Lw.val (Ex.move rfl) rfl ?_
    refine Lw.nil ?_
    exact Pw.thenN (Pw.next (k + 1) ⟨rfl, (by rw [run_step _ _ _ hk']; rfl), rfl, rfl, rfl, trivial⟩ (⟨by omega, rfl⟩) (by omega))
  · intro h
    have hk' : k = l.length := by simp at h; omega
    subst hk'
    refine Cw.exit ?_
    refine Pw.thenE ?_
    refine Pw.thenE ?_
    refine Pw.blkHit ?_
    refine Pw.thenN (Cw.out ?_)
    refine Cw.seq ?_
    refine Cw.region ?_
    refine Lw.val (Ex.move rfl) rfl ?_
    refine Lw.val (Ex.not32 rfl) rfl ?_
    refine Lw.val (Ex.assign rfl) rfl ?_
    refine Lw.nil ?_
    refine Pw.thenN (Cw.out ?_)
    refine Cw.ret ?_
    refine Pw.ret1 rfl rfl ?_
    exact ⟨by rw [List.take_length]; rfl, hB3⟩

theorem of_c (v : Value) (l : List (BitVec 8)) (w : World) (hv : SlT b8 w v l) : Fnc Try.prog 35 [v] w (fun r w' => r = u32 (Crc.of l) ∧ Below w.heap.size w w') := by
  refine Fnc.enter (n := 5) Try.func35 (by kernel_rfl) rfl rfl rfl ?_
  refine Cw.seq ?_
  refine Cw.region ?_
  refine Lw.val (Ex.assign (show _ = some (u32 (0#32)) from rfl)) rfl ?_
  refine Lw.nil ?_
  refine Pw.thenN (Cw.out ?_)
  refine Cw.seq ?_
  refine Cw.region ?_
  refine Lw.val (Ex.move rfl) rfl ?_
  refine Lw.callF rfl rfl (on_c 0#32 v l w hv) ?_
  rintro _ w1 ⟨rfl, hB⟩
  refine Lw.val (Ex.assign rfl) rfl ?_
  refine Lw.nil ?_
  refine Pw.thenN (Cw.out ?_)
  refine Cw.ret ?_
  refine Pw.ret1 rfl rfl ?_
  exact ⟨rfl, hB⟩

end Go.Proofs.Ytiaojbbgjlpikaa
