/- Texts of this proof, one behind the other: BookMany, BookKeep, BookFive, BookApart, BookMore, BookList, BookLaw, BookTen, TwinLists, BookIn, NodeCard, BookArg. -/
import Derived.Test.YtmipoeanpnnjoaaGreatDoorPk6
import Derived.Test.YtmipoeanpnnjoaaGreatDoorPk2
import Derived.Test.YtmipoeanpnnjoaaGreatDoorPk1
import Derived.Test.YtmipoeanpnnjoaaGreatDoorPk3
import Derived.Test.YtmipoeanpnnjoaaGreatDoorPk5
import Derived.Test.YtmipoeanpnnjoaaGreatDoorCards
import Derived.Test.YtmipoeanpnnjoaaGreatDoorTie
import Derived.SevenTiedAt
import Derived.LaidLaws
import Derived.LaidHandle
import Derived.JoinedOf

/-! Contracts: a book of lists of tensors and of nodes: how it fills them, grows them, and looks at them. Printed by a program of ours. -/
namespace Go.Proofs.YtmipoeanpnnjoaaGreatDoor
open Go Go.Dd Go.RowKit
set_option maxRecDepth 100000

theorem sl_formB {w:World} {sz n:Nat} {v:Value} {xs:List Value} (h:Sl w sz v n xs):∃ao n c,v= .slice ao n c:=by
 obtain ⟨_,ao,cap,rfl,_⟩:=h;exact ⟨_,_,_,rfl⟩
theorem bt_tenB (x:Value) (hx:∃ao n c,x= .slice ao n c):Tryz.prog.built 33 [(0,x)]=some [x, .slice none 0 0].toArray:=by
 obtain ⟨ao,n,c,rfl⟩:=hx
 have h1:Tryz.prog.info? 33=some Tryz.t33:=by kernel_rfl
 have h2:Tryz.prog.info? 23=some Tryz.t23:=by kernel_rfl
 have h3:Tryz.prog.info? 31=some Tryz.t31:=by kernel_rfl
 simp [Program.built,h1,Tryz.underlying33,h2,h3,Instr.fill,Value.cells]
 rfl
theorem markTensor_m (B:Nat) (n:Int) (w:World) (hn:0≤n∧n≤4000000) (hBw:B≤w.heap.size):Fnc Tryz.prog 160 [.int .i64 n] w (fun r w' =>(∃c:List Value,r= .agg c.toArray∧phT B 3 n w' c)∧Below w.heap.size w w'):=by
 have hB:=Below.refl w.heap.size w
 refine Ap (n:=7) Tryz.func160 (by kernel_rfl) O O O<|Ae<|Ab<|B8 it_33 O ?_
 rintro A_r w eA_r b_r hn -
 replace hB:=hB.bs hn
 clear hn
 refine Af<|Aa<|Cw.out<|Ae<|Ab<|Lw.val (Ad O) O<|Lw.val (Ex.negI O (by omega)) O ?_
 have y_r:=blk_lt b_r
 have z_r:=below_size hB
 refine Bl (Cp (vs:=[-n].map (Value.int .i64)) st_23 it_3 O O O O O) O ?_
 rintro x w ⟨o_x, -,hn2, -⟩
 replace hB:=hB.bs hn2
 replace b_r:=b_r.bs hn2
 clear hn2
 refine Lw.val (Bn (vs:=[(0,x)]) (cs:=[x, .slice none 0 0]) O (bt_tenB x (sl_formB (own_sl o_x)))) O<|Ay (Bp (cs:=[x, .slice none 0 0]) O O O O (by rw [List.all_cons,(own_sl o_x).one'];rfl) b_r O) ?_
 rintro w3 ⟨b3,hg3, -⟩
 have o3:=own_heap o_x (fun b e=>hg3.block b (own_block o_x b e).2 (fun e2=>by cases e2;have:=(own_block o_x _ e).1;omega))
 have hB3:=hB.grown hg3 (below_size hB) (by rintro _ ⟨⟩;omega)
 refine Af<|Aa<|Cw.out<|An<|Pw.retC O O (by assumption) (Tryz.underlying33) O O O ?_
 exact ⟨⟨_,rfl,x,rfl,own_slT o3,fun b e=>by
  obtain ⟨cap,cur, -,q, -⟩:=own_cells o3 e
  exact ⟨by have:=(own_block o_x b e).1;omega,_,q⟩⟩,hB3⟩
theorem bt_nodeB (m:Int):Tryz.prog.built 25 [(3, .int .i64 m)]=some [b8 0#8, .slice none 0 0, .slice none 0 0, .int .i64 m, .int .i64 0].toArray:=by
 have h1:Tryz.prog.info? 25=some Tryz.t25:=by kernel_rfl
 have h2:Tryz.prog.info? 23=some Tryz.t23:=by kernel_rfl
 have h3:Tryz.prog.info? 3=some Tryz.t3:=by kernel_rfl
 have h4:Tryz.prog.info? 22=some Tryz.t22:=by kernel_rfl
 simp [Program.built,h1,Tryz.underlying25,h2,h3,h4,Instr.fill,Value.cells]
 rfl
theorem markNode_m (B:Nat) (n:Int) (w:World) (hn:0≤n∧n≤4000000) (_hBw:B≤w.heap.size):Fnc Tryz.prog 161 [.int .i64 n] w (fun r w' =>(∃c:List Value,r= .agg c.toArray∧phN n w' c)∧Below w.heap.size w w'):=by
 have hB:=Below.refl w.heap.size w
 refine Ap (n:=6) Tryz.func161 (by kernel_rfl) O O O<|Ae<|Ab<|B8 it_25 O ?_
 rintro A_r w eA_r b_r hn -
 replace hB:=hB.bs hn
 clear hn
 refine Af<|Aa<|Cw.out<|Ae<|Ab<|Lw.val (Ad O) O<|Lw.val (Ex.negI O (by omega)) O<|Lw.val (Bn (vs:=[(3, .int .i64 (-n))]) (cs:=[b8 0#8, .slice none 0 0, .slice none 0 0, .int .i64 (-n), .int .i64 0]) O (bt_nodeB (-n))) O<|Ay (Bp (cs:=[b8 0#8, .slice none 0 0, .slice none 0 0, .int .i64 (-n), .int .i64 0]) O O O O O b_r O) ?_
 rintro w3 ⟨b3,hg3, -⟩
 have hB3:=hB.grown hg3 (below_size hB) (by rintro _ ⟨⟩;omega)
 refine Af<|Aa<|Cw.out<|An<|Pw.retC O O (by assumption) (Tryz.underlying25) O O O ?_
 exact ⟨⟨_,rfl,rfl⟩,hB3⟩
theorem isTensor_m (B:Nat) (n:Int) (w:World) (c:List Value) (hn:0≤n∧n≤4000000) (hc:phT B 3 n w c):Fnc Tryz.prog 175 [.agg c.toArray, .int .i64 n] w (fun r w' =>r= .bool true∧Below w.heap.size w w'):=by
 obtain ⟨x,rfl,s_x, -⟩:=hc
 have hB:=Below.refl w.heap.size w
 refine Ap (n:=18) Tryz.func175 (by kernel_rfl) O O O<|Ae<|Ab<|Bv (cs:=[x, .slice none 0 0]) O O O ?_
 rintro A_x w eA_x b_x hn -
 replace hB:=hB.bs hn
 replace s_x:=s_x.bs hn
 clear hn
 refine Lw.val (Ac O) O<|Af<|Aa<|Cw.out<|Ae<|Ab<|Lw.val (Ag (q:=0) Tryz.underlying33 O (sz_23 _) O) O<|Lw.val (Aj (ag_23 _) O (by assumption) O) O ?_
 refine Lw.val (Av st_23 O (by assumption)) O ?_
 refine Lw.val (Cn O O) O<|Lw.val (Ad O) O<|Cd 9 (v' := .bool true) O (congrArg Value.bool (rfl))<|Lw.take (dj:=9) O O<|Lw.val (Ag (q:=0) Tryz.underlying33 O (sz_23 _) O) O<|Lw.take (dj:=9) O O<|Lw.val (Aj (ag_23 _) O (by assumption) O) O ?_
 refine Lw.take (dj:=9) O O<|Lw.val (Ba st_23 O O s_x 0 O (by simp)) O<|Lw.take (dj:=9) O O<|Lw.val (Bg (ag_3 _) O s_x (by simp)) O<|Lw.take (dj:=9) O O<|Lw.val (Ad O) O<|Lw.take (dj:=9) O O<|Lw.val (Ex.negI O (by omega)) O<|Lw.take (dj:=9) O O<|Lw.val (Cn O O) O<|Lw.val (As O O) O<|Lw.val (Ac O) O<|Af<|Aa<|Cw.out<|An<|Bb O O ?_
 exact ⟨congrArg Value.bool (by simp),hB⟩
theorem isNode_m (B:Nat) (n:Int) (w:World) (c:List Value) (hn:0≤n∧n≤4000000) (hc:phN n w c):Fnc Tryz.prog 176 [.agg c.toArray, .int .i64 n] w (fun r w' =>r= .bool true∧Below w.heap.size w w'):=by
 have _:=B
 obtain rfl:=hc
 have hB:=Below.refl w.heap.size w
 refine Ap (n:=10) Tryz.func176 (by kernel_rfl) O O O<|Ae<|Ab<|Bv (cs:=[b8 0#8, .slice none 0 0, .slice none 0 0, .int .i64 (-n), .int .i64 0]) O O O ?_
 rintro A_x w eA_x b_x hn -
 replace hB:=hB.bs hn
 clear hn
 refine Lw.val (Ac O) O<|Af<|Aa<|Cw.out<|Ae<|Ab<|Lw.val (Ag (q:=0) Tryz.underlying25 O (sz_3 _) O) O<|Lw.val (Aj (ag_3 _) O (by assumption) O) O ?_
 refine Lw.val (Ad O) O<|Lw.val (Ex.negI O (by omega)) O<|Lw.val (Cn O O) O<|Lw.val (Ac O) O<|Af<|Aa<|Cw.out<|An<|Bb O O ?_
 exact ⟨congrArg Value.bool (by simp),hB⟩


/-! ### Tensor -/
theorem fillTensor_m (A:Nat) (book:List Value) (u:Value) (hs:List Hd) (lo base B:Nat) (w:World) (hA:Blk w A bookT book) (hu:book[6]? =some u) (ho:w.ownsRow lo 129 3 u hs.length (hcells hs)) (hk:Kept w base 33 2 hs)
  (hb1:¬blks hs A) (hb2:∀b,u.ownBlock=some b→¬blks hs b) (hB:B≤w.heap.size) (hSB:∀b,blks hs b→b<B):
  Fnc Tryz.prog 57 [.pointer (some ⟨A,0,none⟩)] w (fun r w' =>r= .tuple #[]∧Chg (blks hs) w w' ∧FullN w' base 33 2 (phT B 3) hs):=by
 have hle:=(own_sl ho).le
 have st:=(phT_stays B 3)
 refine Ap (n:=35) Tryz.func57 (by kernel_rfl) O O O<|Ae<|Ab<|Lw.val (Ac O) O<|Af<|Aa<|Cw.out<|Cw.block ?_
 refine Bj (S:=Nat) (fun i=>[(0, .pointer (some ⟨A,0,none⟩)),(2, .int .i64 (i:Int))]) (fun i w' =>i≤hs.length∧Chg (blks hs) w w' ∧(∀j (hj:j<hs.length),j<i→∃cs,Mks (phT B 3) 2 hs[j].n w' hs[j].k cs∧KRow w' base 33 2 hs[j].v hs[j].k cs.flatten)∧(∀j (hj:j<hs.length),i≤j→KRow w' base 33 2 hs[j].v hs[j].k hs[j].xs)) (fun i=>hs.length - i) (0) ⟨rfl,rfl,trivial⟩ ?_ ?_
 ·exact ⟨by omega,Chg.refl _ _,fun j hj h=>by omega,fun j hj _=>hk.own _ (List.getElem_mem hj)⟩
 rintro i w1 ⟨hi,hc,hd,ht⟩
 have b1:=hA.chg hc hb1
 have o1:=own_sl (own_chg ho hc hb2)
 refine Ae<|Ae<|Ab<|Lw.val (Ad O) O<|Lw.val (Ad O) O<|Lw.val (Be O) O<|Lw.val (Ag (q:=0) Tryz.underlying56 O (sz_45 _) O) O<|Lw.val (Aj (ag_45 _) O b1 hu) O<|Lw.val (Av (sz:=3) st_45 O o1) O<|Lw.val (Bh O O) O<|Af<|Aa<|Cw.out<|Au O ?_ ?_
 ·intro h
  have hi' :i<hs.length:=by simp at h;omega
  have hm:=List.getElem_mem hi'
  have hfew:=hk.few _ hm
  have hnum:=hk.num _ hm
  have hone:hs[i].g.oneCell' =true:=by rw [hk.new _ hm];rfl
  have hxl:=(hk.own _ hm).len
  have hvb:∀b,hs[i].v.ownBlock=some b→b<w.heap.size:=fun b e=>(hk.blk ⟨_,hm,e⟩).2
  have hvB:∀b,hs[i].v.ownBlock=some b→b<B:=fun b e=>hSB b ⟨_,hm,e⟩
  refine Aq<|Aa<|Cw.out<|Ae<|Cw.block<|Ae<|Ab<|Lw.val (Ad O) O<|Lw.val (Be O) O<|Lw.val (Ag (q:=0) Tryz.underlying56 O (sz_45 _) O) O<|Lw.val (Aj (ag_45 _) O b1 hu) O<|Lw.val (Ad O) O<|Lw.val (Bz st_45 O O o1 i O hi') O<|Lw.val (Cc (cs:=hs[i].cells) (ag_129 _) (sz_129 _) O o1 O (by decide) (hcells_three hi')) O<|Cb (cs:=hs[i].cells) it_129 O O O O (fun _=>rfl) (by simp [Hd.cells,(hk.own _ hm).sl.one',hone,int_one]) ?_
  rintro A_h w2 eA_h b_h hn2 zhn2
  have hc2:=hc.below hn2
  have z1:=hc.size
  have r0:=(ht i hi' (Nat.le_refl _)).bs hn2
  refine Af<|Aa<|Cw.out<|Ae<|Ab<|Lw.val (Ac O) O<|Af<|Aa<|Cw.out<|Cw.block ?_
  refine Bj (S:=(Nat×List (List Value))) (fun s=>[(0, .pointer (some ⟨A,0,none⟩)),(2, .int .i64 (i:Int)),(3, .pointer (some ⟨A_h,0,none⟩)),(4, .int .i64 (s.1:Int))]) (fun s w' =>s.1≤hs[i].k∧Blk w' A_h 129 hs[i].cells∧Chg (blks hs) w w' ∧Chg (fun b=>hs[i].v.ownBlock=some b) w2 w' ∧Mks (phT B 3) 2 hs[i].n w' s.1 s.2∧KRow w' base 33 2 hs[i].v hs[i].k (s.2.flatten++hs[i].xs.drop (s.1*2))) (fun s=>hs[i].k - s.1) ((0,[])) ⟨rfl,rfl,rfl,rfl,trivial⟩ ?_ ?_
  ·exact ⟨by simp,b_h,hc2,Chg.refl _ _,Mks.nil _ _ _ _,by simpa using r0⟩
  clear b_h r0
  rintro ⟨k,cs⟩ w3 ⟨hk3,b_h,hc3,hd3,m3,r3⟩
  dsimp only at hk3 b_h hc3 hd3 m3 r3 ⊢
  refine Ae<|Ae<|Ab<|Lw.val (Ad O) O<|Lw.val (Ag (q:=0) Tryz.underlying129 O (sz_26 _) O) O<|Lw.val (Aj (ag_26 _) O (by assumption) O) O ?_
  refine Lw.val (Av (sz:=2) st_26 O r3.sl) O<|Lw.val (Bh O O) O<|Af<|Aa<|Cw.out<|Au O ?_ ?_
  ·intro h
   have hk' :k<hs[i].k:=by simp at h;omega
   refine Aq<|Aa<|Cw.out<|Ae<|Cw.block ?_
   refine Cw.any mixed (fun w4 hd4 _=> ?_)
   have r4:=r3.bs hd4
   have m4:=m3.bs st hd4
   have b4:=b_h.bs hd4
   have hc4:=hc3.below hd4
   have hd5:=hd3.below hd4
   have z4:=hc4.size
   refine Aw.seg (St:=List Value) (g:=1) [0,1,2,3,4,5,6] 7 (fun c=>[(0, .pointer (some ⟨A,0,none⟩)),(2, .int .i64 (i:Int)),(3, .pointer (some ⟨A_h,0,none⟩)),(4, .int .i64 (k:Int)),(33, .agg c.toArray),(34,elemPtr hs[i].v (k*2))]) (fun c w' =>Below w4.heap.size w4 w' ∧(phT B 3) hs[i].n w' c) (by kernel_rfl) O ?_ ?_
   ·have hr4:=Below.refl w4.heap.size w4
    refine Cs (fun w' =>Below w4.heap.size w4 w') (fun hC=> ?_) (hr4)
    refine AwC.take (i:=0) (Ah (NoP.blk (Ah (Ah (NoP.blk (NoP.blk (Ah (Ah (NoP.blk Ar))))))))) O (by kernel_rfl) (by kernel_rfl) (by kernel_rfl) (fun w1 hc=>Ag (q:=0) Tryz.underlying129 O (sz_26 _) O) O<|AwC.take (i:=1) (Ah (NoP.blk (Ah (Ah (NoP.blk (NoP.blk (Ah (Ah (NoP.blk Ar))))))))) O (by kernel_rfl) (by kernel_rfl) (by kernel_rfl) (fun w1 hc=>Aj (ag_26 _) O (b4.bs hc) O) O<|AwC.take (i:=2) (Ah (NoP.blk (Ah (Ah (NoP.blk (NoP.blk (Ah (Ah (NoP.blk Ar))))))))) O (by kernel_rfl) (by kernel_rfl) (by kernel_rfl) (fun w1 hc=>Ad O) O<|AwC.take (i:=3) (Ah (NoP.blk (Ah (Ah (NoP.blk (NoP.blk (Ah (Ah (NoP.blk Ar))))))))) O (by kernel_rfl) (by kernel_rfl) (by kernel_rfl) (fun w1 hc=>Ag (q:=0) Tryz.underlying129 O (sz_3 _) O) O<|AwC.take (i:=4) (Ah (NoP.blk (Ah (Ah (NoP.blk (NoP.blk (Ah (Ah (NoP.blk Ar))))))))) O (by kernel_rfl) (by kernel_rfl) (by kernel_rfl) (fun w1 hc=>Aj (ag_3 _) O (b4.bs hc) O) O<|AwC.only (by assumption) (i:=5) (by kernel_rfl) O ?_
    refine Al O O (markTensor_m B hs[i].n w4 hnum (by omega)) ?_
    rintro _ w5 ⟨⟨c,rfl,hf⟩,hn5⟩
    refine AwC.back<|AwC.take (i:=6) (Ah (NoP.blk (Ah (Ah (NoP.blk (NoP.blk (Ah (Ah (NoP.blk Ar))))))))) O (by kernel_rfl) (by kernel_rfl) (by kernel_rfl) (fun w1 hc=>Bz st_26 O O (r4.sl.bs hc) k O hk') O<|Ck (by assumption) (by kernel_rfl) ?_
    exact Aa (Pw.seg (c) ⟨rfl,rfl,rfl,rfl,rfl,rfl,trivial⟩ (⟨hn5,hf⟩))
   rintro c w5 ⟨hn5,hf⟩
   have r5:=r4.bs hn5
   have m5:=m4.bs st hn5
   have b5:=b4.bs hn5
   have lc:=(phT_len hf).1
   have ld:=done_len hxl m5.els hk3
   refine Aw.only (i:=7) (by kernel_rfl) O<|Ay (Xu.stKA (k:=2) (ds:=c) O lc O O (phT_len hf).2 r5 (by omega) (by rw [ld,lc];omega)) ?_
   rintro w6 ⟨r6,hg6, -⟩
   rw [spl_done hxl m5.els lc hk'] at r6
   have hS6:Chg (fun b=>hs[i].v.ownBlock=some b) w5 w6:=(Chg.refl _ _).grown hg6 (fun b e=> .inl e)
   have m6:=(m5.snoc lc hf).chg st hS6 hvB
   have b6:=b5.by hg6 (fun e=>by have:=hvb _ e.symm;omega)
   refine Aw.back<|C1 (by kernel_rfl)<|Bo<|Aa<|Cw.out<|Ab<|Lw.val (Ad O) O<|Lw.val (Bc O O (by omega)) O<|Lw.val (Ac O) O<|Af ?_
   exact Aa (Bq ((k+1,cs++[c])) ⟨rfl,rfl,rfl,rfl,trivial⟩ (⟨hk',b6,(hc4.below hn5).grown hg6 (fun b e=> .inl ⟨_,hm,e⟩),(hd5.below hn5).grown hg6 (fun b e=> .inl e),m6,r6⟩) (by simp only;omega))
  intro h
  have hk' :k=hs[i].k:=by simp at h;omega
  rw [List.drop_of_length_le (by rw [hxl,hk'];exact Nat.le_refl _),List.append_nil] at r3
  rw [hk'] at m3
  have hall:Chg (fun b=>hs[i].v.ownBlock=some b) w1 w3:=(Chg.of_below hn2).trans hd3
  refine Bi<|Am<|Am<|Az<|Bo<|Aa<|Cw.out<|Ab<|Lw.val (Ad O) O<|Lw.val (Bc O O (by omega)) O<|Lw.val (Ac O) O<|Af ?_
  exact Aa (Bq (i+1) ⟨rfl,rfl,trivial⟩ (⟨hi',hc3,fun j hj hji=>(if e:j=i then by subst e;exact ⟨cs,m3,r3⟩ else by obtain ⟨ds,q1,q2⟩:=hd j hj (by omega);exact ⟨ds,q1.chg st hall hvB,q2.chg hall fun b e1 e2=>apart_ne hk.apart hi' hj (Ne.symm e) b e2 e1⟩),fun j hj hji=>(ht j hj (by omega)).chg hall fun b e1 e2=>apart_ne hk.apart hi' hj (by omega) b e2 e1⟩) (by omega))
 intro h
 have hi' :i=hs.length:=by simp at h;omega
 refine Bi<|Am<|Am<|Az<|Cf O ?_
 refine ⟨rfl,hc,fun x hx=> ?_⟩
 obtain ⟨j,hj,rfl⟩:=List.mem_iff_getElem.1 hx
 exact hd j hj (by omega)


theorem growTensor_m (A:Nat) (book:List Value) (u:Value) (hs:List Hd) (lo base B:Nat) (w:World) (hA:Blk w A bookT book) (hu:book[6]? =some u) (ho:w.ownsRow lo 129 3 u hs.length (hcells hs)) (hk:KOk hs) (hf:FullN w base 33 2 (phT B 3) hs)
  (hb1:¬blks hs A) (hb2:∀b,u.ownBlock=some b→¬blks hs b) (hb3:u.ownBlock≠some A) (hbase:base≤w.heap.size) (hB:B≤w.heap.size) (hSB:∀b,blks hs b→b<B) (huB:∀b,u.ownBlock=some b→b<B):
  Fnc Tryz.prog 72 [.pointer (some ⟨A,0,none⟩)] w (fun r w' =>r= .tuple #[]∧Chg (fun b=>blks hs b∨u.ownBlock=some b) w w' ∧∃ts,Grown w hs ts∧w'.ownsRow lo 129 3 u hs.length (hcells ts)∧∀t ∈ ts,TallN w' 2 (phT B 3) t):=by
 have hle:=(own_sl ho).le
 have st:=(phT_stays B 3)
 refine Ap (n:=42) Tryz.func72 (by kernel_rfl) O O O<|Ae<|Ab<|Lw.val (Ac O) O<|Af<|Aa<|Cw.out<|Cw.block ?_
 refine Bj (S:=(Nat×List Hd)) (fun s=>[(0, .pointer (some ⟨A,0,none⟩)),(2, .int .i64 (s.1:Int))]) (fun s w' =>s.1≤hs.length∧Grown w hs s.2∧(∀t ∈ s.2,t.g.oneCell' =true)∧Chg (fun b=>blks hs b∨u.ownBlock=some b) w w' ∧w'.ownsRow lo 129 3 u hs.length (hcells s.2)∧(∀j (hj:j<s.2.length),j<s.1→TallN w' 2 (phT B 3) s.2[j])∧(∀j (hj:j<hs.length),s.1≤j→∃cs,Mks (phT B 3) 2 hs[j].n w' hs[j].k cs∧KRow w' base 33 2 hs[j].v hs[j].k cs.flatten)) (fun s=>hs.length - s.1) ((0,hs)) ⟨rfl,rfl,trivial⟩ ?_ ?_
 ·exact ⟨by simp,Grown.refl w hk.new,fun t ht=>(by rw [hk.new t ht];rfl),Chg.refl _ _,ho,fun j hj h=>by simp at h,fun j hj _=>hf _ (List.getElem_mem hj)⟩
 rintro ⟨i,ts⟩ w1 ⟨hi,hG,h1,hc,o1,hd,ht⟩
 dsimp only at hi hG h1 hc o1 hd ht ⊢
 have b1:=hA.chg hc (fun e=>e.elim hb1 hb3)
 have s1:=own_sl o1
 have hlen:=hG.len
 refine Ae<|Ae<|Ab<|Lw.val (Ad O) O<|Lw.val (Ad O) O<|Lw.val (Be O) O<|Lw.val (Ag (q:=0) Tryz.underlying56 O (sz_45 _) O) O<|Lw.val (Aj (ag_45 _) O b1 hu) O<|Lw.val (Av (sz:=3) st_45 O s1) O<|Lw.val (Bh O O) O<|Af<|Aa<|Cw.out<|Au O ?_ ?_
 ·intro h
  have hi' :i<hs.length:=by simp at h;omega
  have hit:i<ts.length:=by omega
  obtain ⟨ev,ek,en,eg⟩:=hG.all i hi' hit
  have hm:=List.getElem_mem hi'
  have hmt:=List.getElem_mem hit
  have hfew:=hk.few _ hm
  have hnum:=hk.num _ hm
  have hone:=h1 _ hmt
  have hvb:∀b,hs[i].v.ownBlock=some b→b<w.heap.size:=fun b e=>(hf.blk ⟨_,hm,e⟩).2
  have hvB:∀b,hs[i].v.ownBlock=some b→b<B:=fun b e=>hSB b ⟨_,hm,e⟩
  obtain ⟨c0,m0,r0⟩:=ht i hi' (Nat.le_refl _)
  have hvo:=r0.sl.one'
  refine Aq<|Aa<|Cw.out<|Ae<|Cw.block<|Ae<|Ab<|Lw.val (Ad O) O<|Lw.val (Be O) O<|Lw.val (Ag (q:=0) Tryz.underlying56 O (sz_45 _) O) O<|Lw.val (Aj (ag_45 _) O b1 hu) O<|Lw.val (Ad O) O<|Lw.val (Bz st_45 O O s1 i O hi') O<|Lw.val (Cc (cs:=ts[i].cells) (ag_129 _) (sz_129 _) O s1 O (by decide) (hcells_three hit)) O<|Cb (cs:=ts[i].cells) it_129 O O O O (fun _=>rfl) (by simp [Hd.cells,ev,hvo,hone,int_one]) ?_
  rintro A_h w2 eA_h b_h hn2 zhn2
  have hc2:=hc.below hn2
  have z1:=hc.size
  have z2:=hc2.size
  replace r0:=r0.bs hn2
  replace m0:=m0.bs st hn2
  refine Af<|Aa<|Cw.out<|Ae<|Ab<|Lw.val (Ag (q:=0) Tryz.underlying129 O (sz_26 _) O) O<|Lw.val (Aj (ag_26 _) O (by assumption) O) O ?_
  refine Lw.val (Ac O) O<|Af<|Aa<|Cw.out<|Ae<|Ae<|Ab<|Lw.val (Ac O) O<|Af<|Aa<|Cw.out<|Cw.block<|C3 4 (v' :=hs[i].v) O (ev) ?_
  refine Bj (S:=(Nat×Value×List (List Value))) (fun s=>[(0, .pointer (some ⟨A,0,none⟩)),(2, .int .i64 (i:Int)),(3, .pointer (some ⟨A_h,0,none⟩)),(4,s.2.1),(5, .int .i64 (s.1:Int))]) (fun s w' =>s.1≤40∧Blk w' A_h 129 ts[i].cells∧Chg (fun b=>hs[i].v.ownBlock=some b) w2 w' ∧Mks (phT B 3) 2 hs[i].n w' (hs[i].k+s.1) s.2.2∧KRow w' base 33 2 s.2.1 (hs[i].k+s.1) s.2.2.flatten∧(∀b,s.2.1.ownBlock=some b→hs[i].v.ownBlock=some b∨w2.heap.size≤b)∧s.2.2.take hs[i].k=c0∧Sl w' 2 hs[i].v hs[i].k c0.flatten) (fun s=>40 - s.1) ((0,hs[i].v,c0)) ⟨rfl,rfl,rfl,rfl,rfl,trivial⟩ ?_ ?_
  ·exact ⟨by simp,b_h,Chg.refl _ _,m0,r0,fun b e=> .inl e,List.take_of_length_le (by rw [m0.els.1];exact Nat.le_refl _),r0.sl⟩
  clear b_h
  rintro ⟨k,g,cs⟩ w3 ⟨hk3,b_h,hd3,m3,r3,hgb,htk,l3⟩
  dsimp only at hk3 b_h m3 r3 hgb htk l3 ⊢
  have z3:=hd3.size
  refine Ae<|Ae<|Ab<|Lw.val (Ad O) O<|Lw.val (Bh O O) O<|Af<|Aa<|Cw.out<|Au O ?_ ?_
  ·intro h
   have hk' :k<40:=by simp at h;omega
   refine Aq<|Aa<|Cw.out<|Ae<|Cw.block<|Ab<|Lw.val (Ad O) O<|Lw.val (Ag (q:=0) Tryz.underlying129 O (sz_3 _) O) O<|Lw.val (Aj (ag_3 _) O (by assumption) O) O ?_
   refine Cd 30 (v' := .int .i64 hs[i].n) O (congrArg (Value.int .i64) en)<|Al O O (markTensor_m B hs[i].n w3 hnum (by omega)) ?_
   rintro _ w4 ⟨⟨c,rfl,hφ⟩,hn4⟩
   have lc:=phT_len hφ
   refine Bl (Xw.litA1 (cs:=c) st_26 it_33 O lc.1 (by decide) (by decide)) O ?_
   rintro nv w5 ⟨o5, -,hn5, -⟩
   have hn35:=bt hn4 hn5
   have z5:=hn35.size
   have r5:=r3.bs hn35
   have m5:=(m3.bs st hn35).snoc lc.1 (st.bs hφ hn5)
   have hgt:∀b,g.ownBlock=some b→b<B∨∃T cs,Blk w5 b T cs∧T≠3:=fun b e=>by
    rcases hgb b e with h2|h2
    ·exact .inl (hvB b h2)
    ·obtain ⟨cur,hcur⟩:=r5.ty e
     exact .inr ⟨_,cur,hcur,by decide⟩
   refine Bl (Xw.appendK (base:=base) st_26 it_33 O (by decide) O O r5 (own_sl o5) lc.2 (by omega) (by omega) (by omega) (Nat.le_refl _)) O ?_
   rintro g' w6 ⟨r6,hg6,hcase⟩
   have l5:=l3.bs hn35
   have b5:=b_h.bs hn35
   have e6:cs.flatten++c=(cs++[c]).flatten:=by simp
   rw [e6] at r6
   have m6:=m5.by st hg6 hgt
   have hgA:some A_h≠g.ownBlock:=fun e=>by
    rcases hgb _ e.symm with h2|h2
    ·have:=hvb _ h2;omega
    ·omega
   have htk' :(cs++[c]).take hs[i].k=c0:=by rw [List.take_append_of_le_length (by rw [m3.els.1];omega)];exact htk
   have l6:Sl w6 2 hs[i].v hs[i].k c0.flatten:=grow_keepsN r0 (.inl r6) hg6 hcase l5 (by
    rw [Els.flat_take (k:=hs[i].k) (m:=k+1) m5.els,htk'])
   have hgb' :∀b,g'.ownBlock=some b→hs[i].v.ownBlock=some b∨w2.heap.size≤b:=fun b e=>by
    rcases hcase with h2|⟨h2, -⟩
    ·rw [h2] at e;exact hgb b e
    ·exact .inr (by have:=h2 b e;omega)
   refine Lw.val (Ac O) O<|Af<|Bo<|Aa<|Cw.out<|Ab<|Lw.val (Ad O) O<|Lw.val (Bc O O (by omega)) O<|Lw.val (Ac O) O<|Af ?_
   exact Aa (Bq ((k+1,g',cs++[c])) ⟨rfl,rfl,rfl,rfl,rfl,trivial⟩ (⟨hk',b5.by hg6 hgA,(hd3.below hn35).grown hg6 hgb,m6, .inl r6,hgb',htk',l6⟩) (by simp only;omega))
  intro h
  have hk' :k=40:=by simp at h;omega
  subst hk'
  have hall:Chg (fun b=>hs[i].v.ownBlock=some b) w1 w3:=(Chg.of_below hn2).trans hd3
  have hcS:Chg (fun b=>blks hs b∨u.ownBlock=some b) w w3:=hc.trans (hall.mono fun b e=> .inl ⟨_,hm,e⟩)
  have b3:=hA.chg hcS (fun e=>e.elim hb1 hb3)
  have o3:=own_chg o1 hall (fun b e1 e2=>hb2 b e1 ⟨_,hm,e2⟩)
  refine Bi<|Am<|Am<|Az<|Aa<|Cw.out<|Ab<|Lw.val (Ad O) O<|Lw.val (Be O) O<|Lw.val (Ag (q:=0) Tryz.underlying56 O (sz_45 _) O) O<|Lw.val (Aj (ag_45 _) O b3 hu) O<|Lw.val (Ad O) O<|Lw.val (Ad O) O<|Lw.val (Bz st_45 O O (own_sl o3) i O hi') O<|Lw.val (Ch Tryz.underlying129 O (sz_26 _) O (own_some o3 (by omega))) O<|Ay (Cv (j:=i*3+1) (sz_26 _) O O r3.sl.one' o3 (by rw [hcells_len];omega)) ?_
  rintro w4 ⟨o4,hg4, -⟩
  have e4:=hcells_set hit g
  have o4:w4.ownsRow lo 129 3 u hs.length (hcells (ts.set i {ts[i] with g:=g})):=by rw [← e4];exact o4
  have hG4:=hG.set hi' hit (g:=g) (fun b e=>by
   rcases hgb b e with h2|h2
   ·exact .inl h2
   ·exact .inr (by omega))
  have hall4:Chg (fun b=>hs[i].v.ownBlock=some b∨u.ownBlock=some b) w1 w4:=(hall.mono fun b e=> .inl e).grown hg4 (fun b e=> .inl (.inr e))
  have hlow:∀b,(hs[i].v.ownBlock=some b∨u.ownBlock=some b)→b<B:=fun b e=>e.elim (hvB b) (huB b)
  have hS4:Chg (fun b=>blks hs b∨u.ownBlock=some b) w w4:=hcS.grown hg4 (fun b e=> .inl (.inr e))
  have huT:∀b,u.ownBlock=some b→b<B∨∃T cs,Blk w3 b T cs∧T≠3:=fun b e=> .inl (huB b e)
  have m4:=m3.by st hg4 huT
  have t4:TallN w4 2 (phT B 3) {ts[i] with g:=g}:=by
   refine ⟨⟨c0, ?_, ?_⟩,⟨cs, ?_, ?_⟩⟩
   ·simp only;rw [ek,en,← htk];exact m4.take
   ·simp only;rw [ev,ek]
    refine l3.by hg4 ?_
    cases hv:hs[i].v.ownBlock with
    |none=>exact .inl rfl
    |some b=>exact .inr fun e=>hb2 b e.symm ⟨_,hm,hv⟩
   ·simp only;rw [ek,en];exact m4
   ·simp only;rw [ek]
    refine r3.sl.by hg4 ?_
    cases hv:g.ownBlock with
    |none=>exact .inl rfl
    |some b=>
     refine .inr fun e=> ?_
     rcases hgb b hv with h2|h2
     ·exact hb2 b e.symm ⟨_,hm,h2⟩
     ·have:=(own_block ho b e.symm).2;omega
  have h14:∀t ∈ ts.set i {ts[i] with g:=g},t.g.oneCell' =true:=fun t htm=>by
   rcases List.mem_or_eq_of_mem_set htm with h2|h2
   ·exact h1 t h2
   ·rw [h2];exact r3.sl.one'
  have hd4:∀j (hj:j<(ts.set i {ts[i] with g:=g}).length),j<i+1→TallN w4 2 (phT B 3) (ts.set i {ts[i] with g:=g})[j]:=fun j hj hji=>by
    rw [List.getElem_set]
    split
    ·exact t4
    ·rename_i hne
     have hj' :j<ts.length:=by simpa using hj
     obtain ⟨fv,_,_,fg⟩:=hG.all j (by omega) hj'
     refine (hd j hj' (by omega)).chg st hall4 hlow (fun b e1 _ e2=> ?_) (fun b e1 _ e2=> ?_)
     ·rw [fv] at e1
      rcases e2 with e2|e2
      ·exact apart_ne hk.apart hi' (show j<hs.length by omega) hne b e2 e1
      ·exact hb2 b e2 ⟨_,List.getElem_mem _,e1⟩
     ·rcases e2 with e2|e2
      ·rcases fg b e1 with h2|h2
       ·exact apart_ne hk.apart hi' (show j<hs.length by omega) hne b e2 h2
       ·have:=hvb b e2;omega
      ·rcases fg b e1 with h2|h2
       ·exact hb2 b e2 ⟨_,List.getElem_mem _,h2⟩
       ·have:=(own_block ho b e2).2;omega
  have ht4:∀j (hj:j<hs.length),i+1≤j→∃cs,Mks (phT B 3) 2 hs[j].n w4 hs[j].k cs∧KRow w4 base 33 2 hs[j].v hs[j].k cs.flatten:=fun j hj hji=>by
   obtain ⟨ds,q1,q2⟩:=ht j hj (by omega)
   refine ⟨ds,q1.chg st hall4 hlow,q2.chg hall4 fun b e1 e2=> ?_⟩
   rcases e2 with e2|e2
   ·exact apart_ne hk.apart hi' hj (by omega) b e2 e1
   ·exact hb2 b e2 ⟨_,List.getElem_mem _,e1⟩
  refine Af<|Bo<|Aa<|Cw.out<|Ab<|Lw.val (Ad O) O<|Lw.val (Bc O O (by omega)) O<|Lw.val (Ac O) O<|Af ?_
  exact Aa (Bq ((i+1,ts.set i {ts[i] with g:=g})) ⟨rfl,rfl,trivial⟩ (⟨hi',hG4,h14,hS4,o4,hd4,ht4⟩) (by simp only;omega))
 intro h
 have hi' :i=hs.length:=by simp at h;omega
 refine Bi<|Am<|Am<|Az<|Cf O ?_
 refine ⟨rfl,hc,ts,hG,o1,fun t htm=> ?_⟩
 obtain ⟨j,hj,rfl⟩:=List.mem_iff_getElem.1 htm
 exact hd j hj (by omega)


theorem lookTensor_m (A:Nat) (book:List Value) (u:Value) (ts:List Hd) (lo B:Nat) (w:World) (hA:Blk w A bookT book) (hu:book[6]? =some u) (ho:w.ownsRow lo 129 3 u ts.length (hcells ts)) (ht:∀t ∈ ts,TallN w 2 (phT B 3) t) (hn:∀t ∈ ts,(0≤t.n∧t.n≤4000000)∧t.k≤16777216):
  Fnc Tryz.prog 87 [.pointer (some ⟨A,0,none⟩)] w (fun r w' =>r= .bool true∧Below w.heap.size w w'):=by
 have hle:=(own_sl ho).le
 have st:=(phT_stays B 3)
 refine Ap (n:=64) Tryz.func87 (by kernel_rfl) O O O<|Ae<|Ab<|Lw.val (Ac O) O<|Af<|Aa<|Cw.out<|Ae<|Ae<|Ab<|Lw.val (Ac O) O<|Af<|Aa<|Cw.out<|Cw.block ?_
 refine Bj (S:=Nat) (fun i=>[(0, .pointer (some ⟨A,0,none⟩)),(2, .bool false),(3, .int .i64 (i:Int))]) (fun i w' =>i≤ts.length∧Below w.heap.size w w') (fun i=>ts.length - i) (0) ⟨rfl,rfl,rfl,trivial⟩ ?_ ?_
 ·exact ⟨by omega,Below.refl _ _⟩
 rintro i w1 ⟨hi,hw1⟩
 have b1:=hA.bs hw1
 have s1:=(own_sl ho).bs hw1
 refine Ae<|Ae<|Ab<|Lw.val (Ad O) O<|Lw.val (Ad O) O<|Lw.val (Be O) O<|Lw.val (Ag (q:=0) Tryz.underlying56 O (sz_45 _) O) O<|Lw.val (Aj (ag_45 _) O b1 hu) O<|Lw.val (Av (sz:=3) st_45 O s1) O<|Lw.val (Bh O O) O<|Af<|Aa<|Cw.out<|Au O ?_ ?_
 ·intro h
  have hi' :i<ts.length:=by simp at h;omega
  have hm:=List.getElem_mem hi'
  obtain ⟨hnum,hfew⟩:=hn _ hm
  have t1:=(ht _ hm).bs st hw1
  obtain ⟨⟨c1,m1,l1⟩,⟨c2,m2,g1⟩⟩:=t1
  refine Aq<|Aa<|Cw.out<|Ae<|Cw.block<|Ae<|Ab<|Lw.val (Ad O) O<|Lw.val (Be O) O<|Lw.val (Ag (q:=0) Tryz.underlying56 O (sz_45 _) O) O<|Lw.val (Aj (ag_45 _) O b1 hu) O<|Lw.val (Ad O) O<|Lw.val (Bz st_45 O O s1 i O hi') O<|Lw.val (Cc (cs:=ts[i].cells) (ag_129 _) (sz_129 _) O s1 O (by decide) (hcells_three hi')) O<|Cb (cs:=ts[i].cells) it_129 O O O O (fun _=>rfl) (by simp [Hd.cells,l1.one',g1.one',int_one]) ?_
  rintro A_h w2 eA_h b_h hn2 zhn2
  have hw2:=bt hw1 hn2
  replace l1:=l1.bs hn2
  replace g1:=g1.bs hn2
  replace m1:=m1.bs st hn2
  replace m2:=m2.bs st hn2
  refine Af<|Aa<|Cw.out<|Ae<|Ae<|Ab<|Lw.val (Ag (q:=0) Tryz.underlying129 O (sz_26 _) O) O<|Lw.val (Aj (ag_26 _) O (by assumption) O) O ?_
  refine Lw.val (Av (sz:=2) st_26 O g1) O<|Lw.val (Ag (q:=0) Tryz.underlying129 O (sz_26 _) O) O<|Lw.val (Aj (ag_26 _) O (by assumption) O) O ?_
  refine Lw.val (Av (sz:=2) st_26 O l1) O<|Lw.val (Bc O O (by omega)) O<|Lw.val (B7 O O) O<|Af<|Aa<|Cw.out<|Bs O false (by simp)<|Aq<|Aa<|Cw.out<|Ae<|Ab<|Lw.val (Ac O) O<|Af<|Aa<|Cw.out<|Cw.block ?_
  refine Bj (S:=Nat) (fun k=>[(0, .pointer (some ⟨A,0,none⟩)),(2, .bool false),(3, .int .i64 (i:Int)),(4, .pointer (some ⟨A_h,0,none⟩)),(5, .int .i64 (k:Int))]) (fun k w' =>k≤ts[i].k+40∧Below w2.heap.size w2 w') (fun k=>ts[i].k+40 - k) (0) ⟨rfl,rfl,rfl,rfl,rfl,trivial⟩ ?_ ?_
  ·exact ⟨by omega,Below.refl _ _⟩
  rintro k w3 ⟨hk3,hw3⟩
  have l3:=l1.bs hw3
  have g3:=g1.bs hw3
  have b3:=b_h.bs hw3
  have m3:=m1.bs st hw3
  have m4:=m2.bs st hw3
  refine Ae<|Ae<|Ab<|Lw.val (Ad O) O<|Lw.val (Ag (q:=0) Tryz.underlying129 O (sz_26 _) O) O<|Lw.val (Aj (ag_26 _) O (by assumption) O) O ?_
  refine Lw.val (Av (sz:=2) st_26 O g3) O<|Lw.val (Bh O O) O<|Af<|Aa<|Cw.out<|Au O ?_ ?_
  ·intro h
   have hk' :k<ts[i].k+40:=by simp at h;omega
   have hkc:k<c2.length:=by rw [m2.els.1];exact hk'
   refine Aq<|Aa<|Cw.out<|Ae<|Cw.block<|Ae<|B5 mixed (by kernel_rfl)<|Qw.val (fun w1 hq=>Ag (q:=0) Tryz.underlying129 O (sz_26 _) O) O<|Qw.val (fun w1 hq=>Aj (ag_26 _) O (Blk.bs (by assumption) hq) O) O ?_
   refine Qw.val (fun w1 hq=>Ad O) O<|Qw.val (fun w1 hq=>Bz st_26 O O (g3.bs hq) k O hk') O<|Qw.val (fun w1 hq=>Cc (cs:=c2[k]) (ag_33 _) (sz_33 _) O (g3.bs hq) (m2.els.2 _ (List.getElem_mem hkc)) (by decide) (m2.els.cells hkc)) O<|Qw.val (fun w1 hq=>Ag (q:=0) Tryz.underlying129 O (sz_3 _) O) O<|Qw.val (fun w1 hq=>Aj (ag_3 _) O (Blk.bs (by assumption) hq) O) O ?_
   refine B9 O O (fun w1 hq=>(isTensor_m B ts[i].n w1 c2[k] hnum (st.bs (m4.each _ (List.getElem_mem hkc)) hq)).q hq)<|Qw.val (fun w1 hq=>Bx O) O<|Qw.val (fun w1 hq=>Ad O) O<|Qw.know 46 (v' := .bool false) O (congrArg Value.bool (rfl))<|Qw.take (dj:=46) O O<|Qw.val (fun w1 hq=>Ad O) O<|Qw.take (dj:=46) O O<|Qw.val (fun w1 hq=>Ag (q:=0) Tryz.underlying129 O (sz_26 _) O) O<|Qw.take (dj:=46) O O<|Qw.val (fun w1 hq=>Aj (ag_26 _) O (Blk.bs (by assumption) hq) O) O ?_
   refine Qw.take (dj:=46) O O<|Qw.val (fun w1 hq=>Av (sz:=2) st_26 O (l3.bs hq)) O<|Qw.take (dj:=46) O O<|Qw.val (fun w1 hq=>Bh O O) O<|Qw.take (dj:=46) O O<|Qw.val (fun w1 hq=>Ad O) O ?_
   refine Cl 52 O ?_ ?_
   ·intro g
    have hkl:k<ts[i].k:=by simpa using g
    have hkd:k<c1.length:=by rw [m1.els.1];exact hkl
    refine Qw.take (dj:=52) O O<|Qw.val (fun w1 hq=>Ag (q:=0) Tryz.underlying129 O (sz_26 _) O) O<|Qw.take (dj:=52) O O<|Qw.val (fun w1 hq=>Aj (ag_26 _) O (Blk.bs (by assumption) hq) O) O ?_
    refine Qw.take (dj:=52) O O<|Qw.val (fun w1 hq=>Ad O) O<|Qw.take (dj:=52) O O<|Qw.val (fun w1 hq=>Bz st_26 O O (l3.bs hq) k O hkl) O<|Qw.take (dj:=52) O O<|Qw.val (fun w1 hq=>Cc (cs:=c1[k]) (ag_33 _) (sz_33 _) O (l3.bs hq) (m1.els.2 _ (List.getElem_mem hkd)) (by decide) (m1.els.cells hkd)) O<|Qw.take (dj:=52) O O<|Qw.val (fun w1 hq=>Ag (q:=0) Tryz.underlying129 O (sz_3 _) O) O<|Qw.take (dj:=52) O O<|Qw.val (fun w1 hq=>Aj (ag_3 _) O (Blk.bs (by assumption) hq) O) O ?_
    refine Qw.take (dj:=52) O O<|B9 O O (fun w1 hq=>(isTensor_m B ts[i].n w1 c1[k] hnum (st.bs (m3.each _ (List.getElem_mem hkd)) hq)).q hq)<|Qw.take (dj:=52) O O<|Qw.val (fun w1 hq=>Bx O) O<|Qw.take (dj:=46) O O<|Qw.val (fun w1 hq=>As O O) O<|Qw.val (fun w1 hq=>Bd O O) O ?_
    refine B3 (fun w4 hq=> ?_)
    refine Aa<|Cw.out<|Bs O false (rfl)<|Aq<|Bo<|Aa<|Cw.out<|Ab<|Lw.val (Ad O) O<|Lw.val (Bc O O (by omega)) O<|Lw.val (Ac O) O<|Af ?_
    exact Aa (Bq (k+1) ⟨rfl,rfl,rfl,rfl,rfl,trivial⟩ (⟨hk',bt hw3 hq⟩) (by omega))
   ·intro g
    refine Ao (dj:=52) O O O O<|Ao (dj:=52) O O O O<|Ao (dj:=52) O O O O<|Ao (dj:=52) O O O O<|Ao (dj:=52) O O O O<|Ao (dj:=52) O O O O<|Ao (dj:=52) O O O O<|Ao (dj:=52) O O O O<|Ao (dj:=52) O O O O<|Qw.take (dj:=46) O O<|Qw.val (fun w1 hq=>Bd O O) O<|Qw.val (fun w1 hq=>Bd O O) O ?_
    refine B3 (fun w4 hq=> ?_)
    refine Aa<|Cw.out<|C9 O<|Aq<|Bo<|Aa<|Cw.out<|Ab<|Lw.val (Ad O) O<|Lw.val (Bc O O (by omega)) O<|Lw.val (Ac O) O<|Af ?_
    exact Aa (Bq (k+1) ⟨rfl,rfl,rfl,rfl,rfl,trivial⟩ (⟨hk',bt hw3 hq⟩) (by omega))
  intro h
  refine Bi<|Am<|Am<|Az<|Bo<|Aa<|Cw.out<|Ab<|Lw.val (Ad O) O<|Lw.val (Bc O O (by omega)) O<|Lw.val (Ac O) O<|Af ?_
  exact Aa (Bq (i+1) ⟨rfl,rfl,rfl,trivial⟩ (⟨hi',bt hw2 hw3⟩) (by omega))
 intro h
 refine Bi<|Am<|Am<|Az<|Aa<|Cw.out<|Ae<|Ab<|Lw.val (Ac O) O<|Af<|Aa<|Cw.out<|An<|Bb O O ?_
 exact ⟨rfl,hw1⟩


/-! ### Node -/
theorem fillNode_m (A:Nat) (book:List Value) (u:Value) (hs:List Hd) (lo base B:Nat) (w:World) (hA:Blk w A bookT book) (hu:book[7]? =some u) (ho:w.ownsRow lo 151 3 u hs.length (hcells hs)) (hk:Kept w base 25 5 hs)
  (hb1:¬blks hs A) (hb2:∀b,u.ownBlock=some b→¬blks hs b) (hB:B≤w.heap.size) (hSB:∀b,blks hs b→b<B):
  Fnc Tryz.prog 58 [.pointer (some ⟨A,0,none⟩)] w (fun r w' =>r= .tuple #[]∧Chg (blks hs) w w' ∧FullN w' base 25 5 (phN) hs):=by
 have hle:=(own_sl ho).le
 have st:=(phN_stays B 3)
 refine Ap (n:=35) Tryz.func58 (by kernel_rfl) O O O<|Ae<|Ab<|Lw.val (Ac O) O<|Af<|Aa<|Cw.out<|Cw.block ?_
 refine Bj (S:=Nat) (fun i=>[(0, .pointer (some ⟨A,0,none⟩)),(2, .int .i64 (i:Int))]) (fun i w' =>i≤hs.length∧Chg (blks hs) w w' ∧(∀j (hj:j<hs.length),j<i→∃cs,Mks (phN) 5 hs[j].n w' hs[j].k cs∧KRow w' base 25 5 hs[j].v hs[j].k cs.flatten)∧(∀j (hj:j<hs.length),i≤j→KRow w' base 25 5 hs[j].v hs[j].k hs[j].xs)) (fun i=>hs.length - i) (0) ⟨rfl,rfl,trivial⟩ ?_ ?_
 ·exact ⟨by omega,Chg.refl _ _,fun j hj h=>by omega,fun j hj _=>hk.own _ (List.getElem_mem hj)⟩
 rintro i w1 ⟨hi,hc,hd,ht⟩
 have b1:=hA.chg hc hb1
 have o1:=own_sl (own_chg ho hc hb2)
 refine Ae<|Ae<|Ab<|Lw.val (Ad O) O<|Lw.val (Ad O) O<|Lw.val (Be O) O<|Lw.val (Ag (q:=0) Tryz.underlying56 O (sz_46 _) O) O<|Lw.val (Aj (ag_46 _) O b1 hu) O<|Lw.val (Av (sz:=3) st_46 O o1) O<|Lw.val (Bh O O) O<|Af<|Aa<|Cw.out<|Au O ?_ ?_
 ·intro h
  have hi' :i<hs.length:=by simp at h;omega
  have hm:=List.getElem_mem hi'
  have hfew:=hk.few _ hm
  have hnum:=hk.num _ hm
  have hone:hs[i].g.oneCell' =true:=by rw [hk.new _ hm];rfl
  have hxl:=(hk.own _ hm).len
  have hvb:∀b,hs[i].v.ownBlock=some b→b<w.heap.size:=fun b e=>(hk.blk ⟨_,hm,e⟩).2
  have hvB:∀b,hs[i].v.ownBlock=some b→b<B:=fun b e=>hSB b ⟨_,hm,e⟩
  refine Aq<|Aa<|Cw.out<|Ae<|Cw.block<|Ae<|Ab<|Lw.val (Ad O) O<|Lw.val (Be O) O<|Lw.val (Ag (q:=0) Tryz.underlying56 O (sz_46 _) O) O<|Lw.val (Aj (ag_46 _) O b1 hu) O<|Lw.val (Ad O) O<|Lw.val (Bz st_46 O O o1 i O hi') O<|Lw.val (Cc (cs:=hs[i].cells) (ag_151 _) (sz_151 _) O o1 O (by decide) (hcells_three hi')) O<|Cb (cs:=hs[i].cells) it_151 O O O O (fun _=>rfl) (by simp [Hd.cells,(hk.own _ hm).sl.one',hone,int_one]) ?_
  rintro A_h w2 eA_h b_h hn2 zhn2
  have hc2:=hc.below hn2
  have z1:=hc.size
  have r0:=(ht i hi' (Nat.le_refl _)).bs hn2
  refine Af<|Aa<|Cw.out<|Ae<|Ab<|Lw.val (Ac O) O<|Af<|Aa<|Cw.out<|Cw.block ?_
  refine Bj (S:=(Nat×List (List Value))) (fun s=>[(0, .pointer (some ⟨A,0,none⟩)),(2, .int .i64 (i:Int)),(3, .pointer (some ⟨A_h,0,none⟩)),(4, .int .i64 (s.1:Int))]) (fun s w' =>s.1≤hs[i].k∧Blk w' A_h 151 hs[i].cells∧Chg (blks hs) w w' ∧Chg (fun b=>hs[i].v.ownBlock=some b) w2 w' ∧Mks (phN) 5 hs[i].n w' s.1 s.2∧KRow w' base 25 5 hs[i].v hs[i].k (s.2.flatten++hs[i].xs.drop (s.1*5))) (fun s=>hs[i].k - s.1) ((0,[])) ⟨rfl,rfl,rfl,rfl,trivial⟩ ?_ ?_
  ·exact ⟨by simp,b_h,hc2,Chg.refl _ _,Mks.nil _ _ _ _,by simpa using r0⟩
  clear b_h r0
  rintro ⟨k,cs⟩ w3 ⟨hk3,b_h,hc3,hd3,m3,r3⟩
  dsimp only at hk3 b_h hc3 hd3 m3 r3 ⊢
  refine Ae<|Ae<|Ab<|Lw.val (Ad O) O<|Lw.val (Ag (q:=0) Tryz.underlying151 O (sz_62 _) O) O<|Lw.val (Aj (ag_62 _) O (by assumption) O) O ?_
  refine Lw.val (Av (sz:=5) st_62 O r3.sl) O<|Lw.val (Bh O O) O<|Af<|Aa<|Cw.out<|Au O ?_ ?_
  ·intro h
   have hk' :k<hs[i].k:=by simp at h;omega
   refine Aq<|Aa<|Cw.out<|Ae<|Cw.block ?_
   refine Cw.any mixed (fun w4 hd4 _=> ?_)
   have r4:=r3.bs hd4
   have m4:=m3.bs st hd4
   have b4:=b_h.bs hd4
   have hc4:=hc3.below hd4
   have hd5:=hd3.below hd4
   have z4:=hc4.size
   refine Aw.seg (St:=List Value) (g:=1) [0,1,2,3,4,5,6] 7 (fun c=>[(0, .pointer (some ⟨A,0,none⟩)),(2, .int .i64 (i:Int)),(3, .pointer (some ⟨A_h,0,none⟩)),(4, .int .i64 (k:Int)),(33, .agg c.toArray),(34,elemPtr hs[i].v (k*5))]) (fun c w' =>Below w4.heap.size w4 w' ∧(phN) hs[i].n w' c) (by kernel_rfl) O ?_ ?_
   ·have hr4:=Below.refl w4.heap.size w4
    refine Cs (fun w' =>Below w4.heap.size w4 w') (fun hC=> ?_) (hr4)
    refine AwC.take (i:=0) (Ah (NoP.blk (Ah (Ah (NoP.blk (NoP.blk (Ah (Ah (NoP.blk Ar))))))))) O (by kernel_rfl) (by kernel_rfl) (by kernel_rfl) (fun w1 hc=>Ag (q:=0) Tryz.underlying151 O (sz_62 _) O) O<|AwC.take (i:=1) (Ah (NoP.blk (Ah (Ah (NoP.blk (NoP.blk (Ah (Ah (NoP.blk Ar))))))))) O (by kernel_rfl) (by kernel_rfl) (by kernel_rfl) (fun w1 hc=>Aj (ag_62 _) O (b4.bs hc) O) O<|AwC.take (i:=2) (Ah (NoP.blk (Ah (Ah (NoP.blk (NoP.blk (Ah (Ah (NoP.blk Ar))))))))) O (by kernel_rfl) (by kernel_rfl) (by kernel_rfl) (fun w1 hc=>Ad O) O<|AwC.take (i:=3) (Ah (NoP.blk (Ah (Ah (NoP.blk (NoP.blk (Ah (Ah (NoP.blk Ar))))))))) O (by kernel_rfl) (by kernel_rfl) (by kernel_rfl) (fun w1 hc=>Ag (q:=0) Tryz.underlying151 O (sz_3 _) O) O<|AwC.take (i:=4) (Ah (NoP.blk (Ah (Ah (NoP.blk (NoP.blk (Ah (Ah (NoP.blk Ar))))))))) O (by kernel_rfl) (by kernel_rfl) (by kernel_rfl) (fun w1 hc=>Aj (ag_3 _) O (b4.bs hc) O) O<|AwC.only (by assumption) (i:=5) (by kernel_rfl) O ?_
    refine Al O O (markNode_m B hs[i].n w4 hnum (by omega)) ?_
    rintro _ w5 ⟨⟨c,rfl,hf⟩,hn5⟩
    refine AwC.back<|AwC.take (i:=6) (Ah (NoP.blk (Ah (Ah (NoP.blk (NoP.blk (Ah (Ah (NoP.blk Ar))))))))) O (by kernel_rfl) (by kernel_rfl) (by kernel_rfl) (fun w1 hc=>Bz st_62 O O (r4.sl.bs hc) k O hk') O<|Ck (by assumption) (by kernel_rfl) ?_
    exact Aa (Pw.seg (c) ⟨rfl,rfl,rfl,rfl,rfl,rfl,trivial⟩ (⟨hn5,hf⟩))
   rintro c w5 ⟨hn5,hf⟩
   have r5:=r4.bs hn5
   have m5:=m4.bs st hn5
   have b5:=b4.bs hn5
   have lc:=(phN_len hf).1
   have ld:=done_len hxl m5.els hk3
   refine Aw.only (i:=7) (by kernel_rfl) O<|Ay (Xu.stKA (k:=5) (ds:=c) O lc O O (phN_len hf).2 r5 (by omega) (by rw [ld,lc];omega)) ?_
   rintro w6 ⟨r6,hg6, -⟩
   rw [spl_done hxl m5.els lc hk'] at r6
   have hS6:Chg (fun b=>hs[i].v.ownBlock=some b) w5 w6:=(Chg.refl _ _).grown hg6 (fun b e=> .inl e)
   have m6:=(m5.snoc lc hf).chg st hS6 hvB
   have b6:=b5.by hg6 (fun e=>by have:=hvb _ e.symm;omega)
   refine Aw.back<|C1 (by kernel_rfl)<|Bo<|Aa<|Cw.out<|Ab<|Lw.val (Ad O) O<|Lw.val (Bc O O (by omega)) O<|Lw.val (Ac O) O<|Af ?_
   exact Aa (Bq ((k+1,cs++[c])) ⟨rfl,rfl,rfl,rfl,trivial⟩ (⟨hk',b6,(hc4.below hn5).grown hg6 (fun b e=> .inl ⟨_,hm,e⟩),(hd5.below hn5).grown hg6 (fun b e=> .inl e),m6,r6⟩) (by simp only;omega))
  intro h
  have hk' :k=hs[i].k:=by simp at h;omega
  rw [List.drop_of_length_le (by rw [hxl,hk'];exact Nat.le_refl _),List.append_nil] at r3
  rw [hk'] at m3
  have hall:Chg (fun b=>hs[i].v.ownBlock=some b) w1 w3:=(Chg.of_below hn2).trans hd3
  refine Bi<|Am<|Am<|Az<|Bo<|Aa<|Cw.out<|Ab<|Lw.val (Ad O) O<|Lw.val (Bc O O (by omega)) O<|Lw.val (Ac O) O<|Af ?_
  exact Aa (Bq (i+1) ⟨rfl,rfl,trivial⟩ (⟨hi',hc3,fun j hj hji=>(if e:j=i then by subst e;exact ⟨cs,m3,r3⟩ else by obtain ⟨ds,q1,q2⟩:=hd j hj (by omega);exact ⟨ds,q1.chg st hall hvB,q2.chg hall fun b e1 e2=>apart_ne hk.apart hi' hj (Ne.symm e) b e2 e1⟩),fun j hj hji=>(ht j hj (by omega)).chg hall fun b e1 e2=>apart_ne hk.apart hi' hj (by omega) b e2 e1⟩) (by omega))
 intro h
 have hi' :i=hs.length:=by simp at h;omega
 refine Bi<|Am<|Am<|Az<|Cf O ?_
 refine ⟨rfl,hc,fun x hx=> ?_⟩
 obtain ⟨j,hj,rfl⟩:=List.mem_iff_getElem.1 hx
 exact hd j hj (by omega)


theorem growNode_m (A:Nat) (book:List Value) (u:Value) (hs:List Hd) (lo base B:Nat) (w:World) (hA:Blk w A bookT book) (hu:book[7]? =some u) (ho:w.ownsRow lo 151 3 u hs.length (hcells hs)) (hk:KOk hs) (hf:FullN w base 25 5 (phN) hs)
  (hb1:¬blks hs A) (hb2:∀b,u.ownBlock=some b→¬blks hs b) (hb3:u.ownBlock≠some A) (hbase:base≤w.heap.size) (hB:B≤w.heap.size) (hSB:∀b,blks hs b→b<B) (huB:∀b,u.ownBlock=some b→b<B):
  Fnc Tryz.prog 73 [.pointer (some ⟨A,0,none⟩)] w (fun r w' =>r= .tuple #[]∧Chg (fun b=>blks hs b∨u.ownBlock=some b) w w' ∧∃ts,Grown w hs ts∧w'.ownsRow lo 151 3 u hs.length (hcells ts)∧∀t ∈ ts,TallN w' 5 (phN) t):=by
 have hle:=(own_sl ho).le
 have st:=(phN_stays B 3)
 refine Ap (n:=42) Tryz.func73 (by kernel_rfl) O O O<|Ae<|Ab<|Lw.val (Ac O) O<|Af<|Aa<|Cw.out<|Cw.block ?_
 refine Bj (S:=(Nat×List Hd)) (fun s=>[(0, .pointer (some ⟨A,0,none⟩)),(2, .int .i64 (s.1:Int))]) (fun s w' =>s.1≤hs.length∧Grown w hs s.2∧(∀t ∈ s.2,t.g.oneCell' =true)∧Chg (fun b=>blks hs b∨u.ownBlock=some b) w w' ∧w'.ownsRow lo 151 3 u hs.length (hcells s.2)∧(∀j (hj:j<s.2.length),j<s.1→TallN w' 5 (phN) s.2[j])∧(∀j (hj:j<hs.length),s.1≤j→∃cs,Mks (phN) 5 hs[j].n w' hs[j].k cs∧KRow w' base 25 5 hs[j].v hs[j].k cs.flatten)) (fun s=>hs.length - s.1) ((0,hs)) ⟨rfl,rfl,trivial⟩ ?_ ?_
 ·exact ⟨by simp,Grown.refl w hk.new,fun t ht=>(by rw [hk.new t ht];rfl),Chg.refl _ _,ho,fun j hj h=>by simp at h,fun j hj _=>hf _ (List.getElem_mem hj)⟩
 rintro ⟨i,ts⟩ w1 ⟨hi,hG,h1,hc,o1,hd,ht⟩
 dsimp only at hi hG h1 hc o1 hd ht ⊢
 have b1:=hA.chg hc (fun e=>e.elim hb1 hb3)
 have s1:=own_sl o1
 have hlen:=hG.len
 refine Ae<|Ae<|Ab<|Lw.val (Ad O) O<|Lw.val (Ad O) O<|Lw.val (Be O) O<|Lw.val (Ag (q:=0) Tryz.underlying56 O (sz_46 _) O) O<|Lw.val (Aj (ag_46 _) O b1 hu) O<|Lw.val (Av (sz:=3) st_46 O s1) O<|Lw.val (Bh O O) O<|Af<|Aa<|Cw.out<|Au O ?_ ?_
 ·intro h
  have hi' :i<hs.length:=by simp at h;omega
  have hit:i<ts.length:=by omega
  obtain ⟨ev,ek,en,eg⟩:=hG.all i hi' hit
  have hm:=List.getElem_mem hi'
  have hmt:=List.getElem_mem hit
  have hfew:=hk.few _ hm
  have hnum:=hk.num _ hm
  have hone:=h1 _ hmt
  have hvb:∀b,hs[i].v.ownBlock=some b→b<w.heap.size:=fun b e=>(hf.blk ⟨_,hm,e⟩).2
  have hvB:∀b,hs[i].v.ownBlock=some b→b<B:=fun b e=>hSB b ⟨_,hm,e⟩
  obtain ⟨c0,m0,r0⟩:=ht i hi' (Nat.le_refl _)
  have hvo:=r0.sl.one'
  refine Aq<|Aa<|Cw.out<|Ae<|Cw.block<|Ae<|Ab<|Lw.val (Ad O) O<|Lw.val (Be O) O<|Lw.val (Ag (q:=0) Tryz.underlying56 O (sz_46 _) O) O<|Lw.val (Aj (ag_46 _) O b1 hu) O<|Lw.val (Ad O) O<|Lw.val (Bz st_46 O O s1 i O hi') O<|Lw.val (Cc (cs:=ts[i].cells) (ag_151 _) (sz_151 _) O s1 O (by decide) (hcells_three hit)) O<|Cb (cs:=ts[i].cells) it_151 O O O O (fun _=>rfl) (by simp [Hd.cells,ev,hvo,hone,int_one]) ?_
  rintro A_h w2 eA_h b_h hn2 zhn2
  have hc2:=hc.below hn2
  have z1:=hc.size
  have z2:=hc2.size
  replace r0:=r0.bs hn2
  replace m0:=m0.bs st hn2
  refine Af<|Aa<|Cw.out<|Ae<|Ab<|Lw.val (Ag (q:=0) Tryz.underlying151 O (sz_62 _) O) O<|Lw.val (Aj (ag_62 _) O (by assumption) O) O ?_
  refine Lw.val (Ac O) O<|Af<|Aa<|Cw.out<|Ae<|Ae<|Ab<|Lw.val (Ac O) O<|Af<|Aa<|Cw.out<|Cw.block<|C3 4 (v' :=hs[i].v) O (ev) ?_
  refine Bj (S:=(Nat×Value×List (List Value))) (fun s=>[(0, .pointer (some ⟨A,0,none⟩)),(2, .int .i64 (i:Int)),(3, .pointer (some ⟨A_h,0,none⟩)),(4,s.2.1),(5, .int .i64 (s.1:Int))]) (fun s w' =>s.1≤40∧Blk w' A_h 151 ts[i].cells∧Chg (fun b=>hs[i].v.ownBlock=some b) w2 w' ∧Mks (phN) 5 hs[i].n w' (hs[i].k+s.1) s.2.2∧KRow w' base 25 5 s.2.1 (hs[i].k+s.1) s.2.2.flatten∧(∀b,s.2.1.ownBlock=some b→hs[i].v.ownBlock=some b∨w2.heap.size≤b)∧s.2.2.take hs[i].k=c0∧Sl w' 5 hs[i].v hs[i].k c0.flatten) (fun s=>40 - s.1) ((0,hs[i].v,c0)) ⟨rfl,rfl,rfl,rfl,rfl,trivial⟩ ?_ ?_
  ·exact ⟨by simp,b_h,Chg.refl _ _,m0,r0,fun b e=> .inl e,List.take_of_length_le (by rw [m0.els.1];exact Nat.le_refl _),r0.sl⟩
  clear b_h
  rintro ⟨k,g,cs⟩ w3 ⟨hk3,b_h,hd3,m3,r3,hgb,htk,l3⟩
  dsimp only at hk3 b_h m3 r3 hgb htk l3 ⊢
  have z3:=hd3.size
  refine Ae<|Ae<|Ab<|Lw.val (Ad O) O<|Lw.val (Bh O O) O<|Af<|Aa<|Cw.out<|Au O ?_ ?_
  ·intro h
   have hk' :k<40:=by simp at h;omega
   refine Aq<|Aa<|Cw.out<|Ae<|Cw.block<|Ab<|Lw.val (Ad O) O<|Lw.val (Ag (q:=0) Tryz.underlying151 O (sz_3 _) O) O<|Lw.val (Aj (ag_3 _) O (by assumption) O) O ?_
   refine Cd 30 (v' := .int .i64 hs[i].n) O (congrArg (Value.int .i64) en)<|Al O O (markNode_m B hs[i].n w3 hnum (by omega)) ?_
   rintro _ w4 ⟨⟨c,rfl,hφ⟩,hn4⟩
   have lc:=phN_len hφ
   refine Bl (Xw.litA1 (cs:=c) st_62 it_25 O lc.1 (by decide) (by decide)) O ?_
   rintro nv w5 ⟨o5, -,hn5, -⟩
   have hn35:=bt hn4 hn5
   have z5:=hn35.size
   have r5:=r3.bs hn35
   have m5:=(m3.bs st hn35).snoc lc.1 (st.bs hφ hn5)
   have hgt:∀b,g.ownBlock=some b→b<B∨∃T cs,Blk w5 b T cs∧T≠3:=fun b e=>by
    rcases hgb b e with h2|h2
    ·exact .inl (hvB b h2)
    ·obtain ⟨cur,hcur⟩:=r5.ty e
     exact .inr ⟨_,cur,hcur,by decide⟩
   refine Bl (Xw.appendK (base:=base) st_62 it_25 O (by decide) O O r5 (own_sl o5) lc.2 (by omega) (by omega) (by omega) (Nat.le_refl _)) O ?_
   rintro g' w6 ⟨r6,hg6,hcase⟩
   have l5:=l3.bs hn35
   have b5:=b_h.bs hn35
   have e6:cs.flatten++c=(cs++[c]).flatten:=by simp
   rw [e6] at r6
   have m6:=m5.by st hg6 hgt
   have hgA:some A_h≠g.ownBlock:=fun e=>by
    rcases hgb _ e.symm with h2|h2
    ·have:=hvb _ h2;omega
    ·omega
   have htk' :(cs++[c]).take hs[i].k=c0:=by rw [List.take_append_of_le_length (by rw [m3.els.1];omega)];exact htk
   have l6:Sl w6 5 hs[i].v hs[i].k c0.flatten:=grow_keepsN r0 (.inl r6) hg6 hcase l5 (by
    rw [Els.flat_take (k:=hs[i].k) (m:=k+1) m5.els,htk'])
   have hgb' :∀b,g'.ownBlock=some b→hs[i].v.ownBlock=some b∨w2.heap.size≤b:=fun b e=>by
    rcases hcase with h2|⟨h2, -⟩
    ·rw [h2] at e;exact hgb b e
    ·exact .inr (by have:=h2 b e;omega)
   refine Lw.val (Ac O) O<|Af<|Bo<|Aa<|Cw.out<|Ab<|Lw.val (Ad O) O<|Lw.val (Bc O O (by omega)) O<|Lw.val (Ac O) O<|Af ?_
   exact Aa (Bq ((k+1,g',cs++[c])) ⟨rfl,rfl,rfl,rfl,rfl,trivial⟩ (⟨hk',b5.by hg6 hgA,(hd3.below hn35).grown hg6 hgb,m6, .inl r6,hgb',htk',l6⟩) (by simp only;omega))
  intro h
  have hk' :k=40:=by simp at h;omega
  subst hk'
  have hall:Chg (fun b=>hs[i].v.ownBlock=some b) w1 w3:=(Chg.of_below hn2).trans hd3
  have hcS:Chg (fun b=>blks hs b∨u.ownBlock=some b) w w3:=hc.trans (hall.mono fun b e=> .inl ⟨_,hm,e⟩)
  have b3:=hA.chg hcS (fun e=>e.elim hb1 hb3)
  have o3:=own_chg o1 hall (fun b e1 e2=>hb2 b e1 ⟨_,hm,e2⟩)
  refine Bi<|Am<|Am<|Az<|Aa<|Cw.out<|Ab<|Lw.val (Ad O) O<|Lw.val (Be O) O<|Lw.val (Ag (q:=0) Tryz.underlying56 O (sz_46 _) O) O<|Lw.val (Aj (ag_46 _) O b3 hu) O<|Lw.val (Ad O) O<|Lw.val (Ad O) O<|Lw.val (Bz st_46 O O (own_sl o3) i O hi') O<|Lw.val (Ch Tryz.underlying151 O (sz_62 _) O (own_some o3 (by omega))) O<|Ay (Cv (j:=i*3+1) (sz_62 _) O O r3.sl.one' o3 (by rw [hcells_len];omega)) ?_
  rintro w4 ⟨o4,hg4, -⟩
  have e4:=hcells_set hit g
  have o4:w4.ownsRow lo 151 3 u hs.length (hcells (ts.set i {ts[i] with g:=g})):=by rw [← e4];exact o4
  have hG4:=hG.set hi' hit (g:=g) (fun b e=>by
   rcases hgb b e with h2|h2
   ·exact .inl h2
   ·exact .inr (by omega))
  have hall4:Chg (fun b=>hs[i].v.ownBlock=some b∨u.ownBlock=some b) w1 w4:=(hall.mono fun b e=> .inl e).grown hg4 (fun b e=> .inl (.inr e))
  have hlow:∀b,(hs[i].v.ownBlock=some b∨u.ownBlock=some b)→b<B:=fun b e=>e.elim (hvB b) (huB b)
  have hS4:Chg (fun b=>blks hs b∨u.ownBlock=some b) w w4:=hcS.grown hg4 (fun b e=> .inl (.inr e))
  have huT:∀b,u.ownBlock=some b→b<B∨∃T cs,Blk w3 b T cs∧T≠3:=fun b e=> .inl (huB b e)
  have m4:=m3.by st hg4 huT
  have t4:TallN w4 5 (phN) {ts[i] with g:=g}:=by
   refine ⟨⟨c0, ?_, ?_⟩,⟨cs, ?_, ?_⟩⟩
   ·simp only;rw [ek,en,← htk];exact m4.take
   ·simp only;rw [ev,ek]
    refine l3.by hg4 ?_
    cases hv:hs[i].v.ownBlock with
    |none=>exact .inl rfl
    |some b=>exact .inr fun e=>hb2 b e.symm ⟨_,hm,hv⟩
   ·simp only;rw [ek,en];exact m4
   ·simp only;rw [ek]
    refine r3.sl.by hg4 ?_
    cases hv:g.ownBlock with
    |none=>exact .inl rfl
    |some b=>
     refine .inr fun e=> ?_
     rcases hgb b hv with h2|h2
     ·exact hb2 b e.symm ⟨_,hm,h2⟩
     ·have:=(own_block ho b e.symm).2;omega
  have h14:∀t ∈ ts.set i {ts[i] with g:=g},t.g.oneCell' =true:=fun t htm=>by
   rcases List.mem_or_eq_of_mem_set htm with h2|h2
   ·exact h1 t h2
   ·rw [h2];exact r3.sl.one'
  have hd4:∀j (hj:j<(ts.set i {ts[i] with g:=g}).length),j<i+1→TallN w4 5 (phN) (ts.set i {ts[i] with g:=g})[j]:=fun j hj hji=>by
    rw [List.getElem_set]
    split
    ·exact t4
    ·rename_i hne
     have hj' :j<ts.length:=by simpa using hj
     obtain ⟨fv,_,_,fg⟩:=hG.all j (by omega) hj'
     refine (hd j hj' (by omega)).chg st hall4 hlow (fun b e1 _ e2=> ?_) (fun b e1 _ e2=> ?_)
     ·rw [fv] at e1
      rcases e2 with e2|e2
      ·exact apart_ne hk.apart hi' (show j<hs.length by omega) hne b e2 e1
      ·exact hb2 b e2 ⟨_,List.getElem_mem _,e1⟩
     ·rcases e2 with e2|e2
      ·rcases fg b e1 with h2|h2
       ·exact apart_ne hk.apart hi' (show j<hs.length by omega) hne b e2 h2
       ·have:=hvb b e2;omega
      ·rcases fg b e1 with h2|h2
       ·exact hb2 b e2 ⟨_,List.getElem_mem _,h2⟩
       ·have:=(own_block ho b e2).2;omega
  have ht4:∀j (hj:j<hs.length),i+1≤j→∃cs,Mks (phN) 5 hs[j].n w4 hs[j].k cs∧KRow w4 base 25 5 hs[j].v hs[j].k cs.flatten:=fun j hj hji=>by
   obtain ⟨ds,q1,q2⟩:=ht j hj (by omega)
   refine ⟨ds,q1.chg st hall4 hlow,q2.chg hall4 fun b e1 e2=> ?_⟩
   rcases e2 with e2|e2
   ·exact apart_ne hk.apart hi' hj (by omega) b e2 e1
   ·exact hb2 b e2 ⟨_,List.getElem_mem _,e1⟩
  refine Af<|Bo<|Aa<|Cw.out<|Ab<|Lw.val (Ad O) O<|Lw.val (Bc O O (by omega)) O<|Lw.val (Ac O) O<|Af ?_
  exact Aa (Bq ((i+1,ts.set i {ts[i] with g:=g})) ⟨rfl,rfl,trivial⟩ (⟨hi',hG4,h14,hS4,o4,hd4,ht4⟩) (by simp only;omega))
 intro h
 have hi' :i=hs.length:=by simp at h;omega
 refine Bi<|Am<|Am<|Az<|Cf O ?_
 refine ⟨rfl,hc,ts,hG,o1,fun t htm=> ?_⟩
 obtain ⟨j,hj,rfl⟩:=List.mem_iff_getElem.1 htm
 exact hd j hj (by omega)


theorem lookNode_m (A:Nat) (book:List Value) (u:Value) (ts:List Hd) (lo B:Nat) (w:World) (hA:Blk w A bookT book) (hu:book[7]? =some u) (ho:w.ownsRow lo 151 3 u ts.length (hcells ts)) (ht:∀t ∈ ts,TallN w 5 (phN) t) (hn:∀t ∈ ts,(0≤t.n∧t.n≤4000000)∧t.k≤16777216):
  Fnc Tryz.prog 88 [.pointer (some ⟨A,0,none⟩)] w (fun r w' =>r= .bool true∧Below w.heap.size w w'):=by
 have hle:=(own_sl ho).le
 have st:=(phN_stays B 3)
 refine Ap (n:=64) Tryz.func88 (by kernel_rfl) O O O<|Ae<|Ab<|Lw.val (Ac O) O<|Af<|Aa<|Cw.out<|Ae<|Ae<|Ab<|Lw.val (Ac O) O<|Af<|Aa<|Cw.out<|Cw.block ?_
 refine Bj (S:=Nat) (fun i=>[(0, .pointer (some ⟨A,0,none⟩)),(2, .bool false),(3, .int .i64 (i:Int))]) (fun i w' =>i≤ts.length∧Below w.heap.size w w') (fun i=>ts.length - i) (0) ⟨rfl,rfl,rfl,trivial⟩ ?_ ?_
 ·exact ⟨by omega,Below.refl _ _⟩
 rintro i w1 ⟨hi,hw1⟩
 have b1:=hA.bs hw1
 have s1:=(own_sl ho).bs hw1
 refine Ae<|Ae<|Ab<|Lw.val (Ad O) O<|Lw.val (Ad O) O<|Lw.val (Be O) O<|Lw.val (Ag (q:=0) Tryz.underlying56 O (sz_46 _) O) O<|Lw.val (Aj (ag_46 _) O b1 hu) O<|Lw.val (Av (sz:=3) st_46 O s1) O<|Lw.val (Bh O O) O<|Af<|Aa<|Cw.out<|Au O ?_ ?_
 ·intro h
  have hi' :i<ts.length:=by simp at h;omega
  have hm:=List.getElem_mem hi'
  obtain ⟨hnum,hfew⟩:=hn _ hm
  have t1:=(ht _ hm).bs st hw1
  obtain ⟨⟨c1,m1,l1⟩,⟨c2,m2,g1⟩⟩:=t1
  refine Aq<|Aa<|Cw.out<|Ae<|Cw.block<|Ae<|Ab<|Lw.val (Ad O) O<|Lw.val (Be O) O<|Lw.val (Ag (q:=0) Tryz.underlying56 O (sz_46 _) O) O<|Lw.val (Aj (ag_46 _) O b1 hu) O<|Lw.val (Ad O) O<|Lw.val (Bz st_46 O O s1 i O hi') O<|Lw.val (Cc (cs:=ts[i].cells) (ag_151 _) (sz_151 _) O s1 O (by decide) (hcells_three hi')) O<|Cb (cs:=ts[i].cells) it_151 O O O O (fun _=>rfl) (by simp [Hd.cells,l1.one',g1.one',int_one]) ?_
  rintro A_h w2 eA_h b_h hn2 zhn2
  have hw2:=bt hw1 hn2
  replace l1:=l1.bs hn2
  replace g1:=g1.bs hn2
  replace m1:=m1.bs st hn2
  replace m2:=m2.bs st hn2
  refine Af<|Aa<|Cw.out<|Ae<|Ae<|Ab<|Lw.val (Ag (q:=0) Tryz.underlying151 O (sz_62 _) O) O<|Lw.val (Aj (ag_62 _) O (by assumption) O) O ?_
  refine Lw.val (Av (sz:=5) st_62 O g1) O<|Lw.val (Ag (q:=0) Tryz.underlying151 O (sz_62 _) O) O<|Lw.val (Aj (ag_62 _) O (by assumption) O) O ?_
  refine Lw.val (Av (sz:=5) st_62 O l1) O<|Lw.val (Bc O O (by omega)) O<|Lw.val (B7 O O) O<|Af<|Aa<|Cw.out<|Bs O false (by simp)<|Aq<|Aa<|Cw.out<|Ae<|Ab<|Lw.val (Ac O) O<|Af<|Aa<|Cw.out<|Cw.block ?_
  refine Bj (S:=Nat) (fun k=>[(0, .pointer (some ⟨A,0,none⟩)),(2, .bool false),(3, .int .i64 (i:Int)),(4, .pointer (some ⟨A_h,0,none⟩)),(5, .int .i64 (k:Int))]) (fun k w' =>k≤ts[i].k+40∧Below w2.heap.size w2 w') (fun k=>ts[i].k+40 - k) (0) ⟨rfl,rfl,rfl,rfl,rfl,trivial⟩ ?_ ?_
  ·exact ⟨by omega,Below.refl _ _⟩
  rintro k w3 ⟨hk3,hw3⟩
  have l3:=l1.bs hw3
  have g3:=g1.bs hw3
  have b3:=b_h.bs hw3
  have m3:=m1.bs st hw3
  have m4:=m2.bs st hw3
  refine Ae<|Ae<|Ab<|Lw.val (Ad O) O<|Lw.val (Ag (q:=0) Tryz.underlying151 O (sz_62 _) O) O<|Lw.val (Aj (ag_62 _) O (by assumption) O) O ?_
  refine Lw.val (Av (sz:=5) st_62 O g3) O<|Lw.val (Bh O O) O<|Af<|Aa<|Cw.out<|Au O ?_ ?_
  ·intro h
   have hk' :k<ts[i].k+40:=by simp at h;omega
   have hkc:k<c2.length:=by rw [m2.els.1];exact hk'
   refine Aq<|Aa<|Cw.out<|Ae<|Cw.block<|Ae<|B5 mixed (by kernel_rfl)<|Qw.val (fun w1 hq=>Ag (q:=0) Tryz.underlying151 O (sz_62 _) O) O<|Qw.val (fun w1 hq=>Aj (ag_62 _) O (Blk.bs (by assumption) hq) O) O ?_
   refine Qw.val (fun w1 hq=>Ad O) O<|Qw.val (fun w1 hq=>Bz st_62 O O (g3.bs hq) k O hk') O<|Qw.val (fun w1 hq=>Cc (cs:=c2[k]) (ag_25 _) (sz_25 _) O (g3.bs hq) (m2.els.2 _ (List.getElem_mem hkc)) (by decide) (m2.els.cells hkc)) O<|Qw.val (fun w1 hq=>Ag (q:=0) Tryz.underlying151 O (sz_3 _) O) O<|Qw.val (fun w1 hq=>Aj (ag_3 _) O (Blk.bs (by assumption) hq) O) O ?_
   refine B9 O O (fun w1 hq=>(isNode_m B ts[i].n w1 c2[k] hnum (st.bs (m4.each _ (List.getElem_mem hkc)) hq)).q hq)<|Qw.val (fun w1 hq=>Bx O) O<|Qw.val (fun w1 hq=>Ad O) O<|Qw.know 46 (v' := .bool false) O (congrArg Value.bool (rfl))<|Qw.take (dj:=46) O O<|Qw.val (fun w1 hq=>Ad O) O<|Qw.take (dj:=46) O O<|Qw.val (fun w1 hq=>Ag (q:=0) Tryz.underlying151 O (sz_62 _) O) O<|Qw.take (dj:=46) O O<|Qw.val (fun w1 hq=>Aj (ag_62 _) O (Blk.bs (by assumption) hq) O) O ?_
   refine Qw.take (dj:=46) O O<|Qw.val (fun w1 hq=>Av (sz:=5) st_62 O (l3.bs hq)) O<|Qw.take (dj:=46) O O<|Qw.val (fun w1 hq=>Bh O O) O<|Qw.take (dj:=46) O O<|Qw.val (fun w1 hq=>Ad O) O ?_
   refine Cl 52 O ?_ ?_
   ·intro g
    have hkl:k<ts[i].k:=by simpa using g
    have hkd:k<c1.length:=by rw [m1.els.1];exact hkl
    refine Qw.take (dj:=52) O O<|Qw.val (fun w1 hq=>Ag (q:=0) Tryz.underlying151 O (sz_62 _) O) O<|Qw.take (dj:=52) O O<|Qw.val (fun w1 hq=>Aj (ag_62 _) O (Blk.bs (by assumption) hq) O) O ?_
    refine Qw.take (dj:=52) O O<|Qw.val (fun w1 hq=>Ad O) O<|Qw.take (dj:=52) O O<|Qw.val (fun w1 hq=>Bz st_62 O O (l3.bs hq) k O hkl) O<|Qw.take (dj:=52) O O<|Qw.val (fun w1 hq=>Cc (cs:=c1[k]) (ag_25 _) (sz_25 _) O (l3.bs hq) (m1.els.2 _ (List.getElem_mem hkd)) (by decide) (m1.els.cells hkd)) O<|Qw.take (dj:=52) O O<|Qw.val (fun w1 hq=>Ag (q:=0) Tryz.underlying151 O (sz_3 _) O) O<|Qw.take (dj:=52) O O<|Qw.val (fun w1 hq=>Aj (ag_3 _) O (Blk.bs (by assumption) hq) O) O ?_
    refine Qw.take (dj:=52) O O<|B9 O O (fun w1 hq=>(isNode_m B ts[i].n w1 c1[k] hnum (st.bs (m3.each _ (List.getElem_mem hkd)) hq)).q hq)<|Qw.take (dj:=52) O O<|Qw.val (fun w1 hq=>Bx O) O<|Qw.take (dj:=46) O O<|Qw.val (fun w1 hq=>As O O) O<|Qw.val (fun w1 hq=>Bd O O) O ?_
    refine B3 (fun w4 hq=> ?_)
    refine Aa<|Cw.out<|Bs O false (rfl)<|Aq<|Bo<|Aa<|Cw.out<|Ab<|Lw.val (Ad O) O<|Lw.val (Bc O O (by omega)) O<|Lw.val (Ac O) O<|Af ?_
    exact Aa (Bq (k+1) ⟨rfl,rfl,rfl,rfl,rfl,trivial⟩ (⟨hk',bt hw3 hq⟩) (by omega))
   ·intro g
    refine Ao (dj:=52) O O O O<|Ao (dj:=52) O O O O<|Ao (dj:=52) O O O O<|Ao (dj:=52) O O O O<|Ao (dj:=52) O O O O<|Ao (dj:=52) O O O O<|Ao (dj:=52) O O O O<|Ao (dj:=52) O O O O<|Ao (dj:=52) O O O O<|Qw.take (dj:=46) O O<|Qw.val (fun w1 hq=>Bd O O) O<|Qw.val (fun w1 hq=>Bd O O) O ?_
    refine B3 (fun w4 hq=> ?_)
    refine Aa<|Cw.out<|C9 O<|Aq<|Bo<|Aa<|Cw.out<|Ab<|Lw.val (Ad O) O<|Lw.val (Bc O O (by omega)) O<|Lw.val (Ac O) O<|Af ?_
    exact Aa (Bq (k+1) ⟨rfl,rfl,rfl,rfl,rfl,trivial⟩ (⟨hk',bt hw3 hq⟩) (by omega))
  intro h
  refine Bi<|Am<|Am<|Az<|Bo<|Aa<|Cw.out<|Ab<|Lw.val (Ad O) O<|Lw.val (Bc O O (by omega)) O<|Lw.val (Ac O) O<|Af ?_
  exact Aa (Bq (i+1) ⟨rfl,rfl,rfl,trivial⟩ (⟨hi',bt hw2 hw3⟩) (by omega))
 intro h
 refine Bi<|Am<|Am<|Az<|Aa<|Cw.out<|Ae<|Ab<|Lw.val (Ac O) O<|Af<|Aa<|Cw.out<|An<|Bb O O ?_
 exact ⟨rfl,hw1⟩

end Go.Proofs.YtmipoeanpnnjoaaGreatDoor

/-! Contracts: what a book keeps: lists of tensors, of nodes. Printed by a program of ours. -/
namespace Go.Proofs.YtmipoeanpnnjoaaGreatDoor
open Go Go.Dd Go.RowKit
set_option maxRecDepth 100000

theorem head_oneM {v:Value} (h:v.oneCell' =true) (n:Int):[v, .slice none 0 0, .int .i64 n].all (fun x=>x.oneCell')=true:=by
 rw [List.all_cons,h];rfl


theorem bt_heldMInt (v:Value) (n:Int) (hv:v.cells=[v].toArray):Tryz.prog.built 135 [(0,v),(2, .int .i64 n)]=some [v, .slice none 0 0, .int .i64 n].toArray:=by
 have h1:Tryz.prog.info? 135=some Tryz.t135:=by kernel_rfl
 have h2:Tryz.prog.info? 23=some Tryz.t23:=by kernel_rfl
 have h3:Tryz.prog.info? 3=some Tryz.t3:=by kernel_rfl
 simp [Program.built,h1,Tryz.underlying135,h2,h3,Instr.fill,hv]
 rfl
theorem keepInt_m (A:Nat) (book:List Value) (n:Int) (u:Value) (hs:List Hd) (lo:Nat) (w:World) (v:Value) (k:Nat) (xs:List Value) (hA:Blk w A bookT book) (h0:book[0]? =some (.int .i64 n)) (hu:book[2]? =some u) (ho:w.ownsRow lo 135 3 u hs.length (hcells hs))
  (hlo:lo≤w.heap.size) (hAu:u.ownBlock≠some A) (hn:0≤n∧n≤4000000) (hh:hs.length≤4000000) (hv:Sl w 1 v k xs):
  Fnc Tryz.prog 153 [.pointer (some ⟨A,0,none⟩),v] w (fun r w' =>r= .tuple #[]∧∃u',Blk w' A bookT ((book.set 0 (.int .i64 (n+1))).set 2 u')∧w'.ownsRow lo 135 3 u' (hs.length+1) (hcells (hs++[(⟨v,k,xs,n+1, .slice none 0 0⟩:Hd)]))∧Chg (fun b=>b=A∨u.ownBlock=some b) w w' ∧∀b,u'.ownBlock=some b→u.ownBlock=some b∨w.heap.size≤b):=by
 have hl0:0<book.length:=(List.getElem?_eq_some_iff.1 h0).1
 have hlC:2<book.length:=(List.getElem?_eq_some_iff.1 hu).1
 refine Ap (n:=26) Tryz.func153 (by kernel_rfl) O O O<|Ae<|Ab<|Lw.val (Ad O) O<|Lw.val (Be O) O<|Lw.val (Ag (q:=0) Tryz.underlying56 O (sz_3 _) O) O<|Lw.val (Aj (ag_3 _) O hA h0) O<|Lw.val (Bc O O (by omega)) O<|Lw.val (Be O) O<|Lw.val (Ag (q:=0) Tryz.underlying56 O (sz_3 _) O) O<|Ay (Co (u:= .int .i64 (n+1)) (sz_3 _) O O O hA hl0) ?_
 rintro w1 ⟨b1,hg1,hz1⟩
 have o1:=own_heap ho (fun b e=>hg1.block b (own_block ho b e).2 (fun e2=>hAu (by rw [e,e2])))
 have c1:Chg (fun b=>b=A∨u.ownBlock=some b) w w1:=(Chg.refl _ _).grown hg1 (fun b e=> .inl (.inl (Option.some.inj e).symm))
 have q0:(book.set 0 (.int .i64 (n+1)))[0]? =some (.int .i64 (n+1)):=by simp [hl0]
 have qC:(book.set 0 (.int .i64 (n+1)))[2]? =some u:=by rw [List.getElem?_set_ne (by decide)];exact hu
 have hzA:=blk_lt hA
 refine Af<|Aa<|Cw.out ?_
 refine Cw.any mixed (fun w2 hd _=> ?_)
 have o2:=own_bs o1 hd
 have b2:=b1.bs hd
 refine Aw.seg (St:=Value) (g:=1) [0,1,2,3,4,5,6,7,8,9,10,11,12,13,14] 15 (fun s=>[(23,s),(25, .pointer (some ⟨A,2,none⟩))]) (fun s w' =>Chg (fun b=>b=A∨u.ownBlock=some b) w w' ∧w'.ownsRow lo 135 3 s (hs.length+1) (hcells (hs++[(⟨v,k,xs,n+1, .slice none 0 0⟩:Hd)]))∧Blk w' A bookT (book.set 0 (.int .i64 (n+1)))∧∀b,s.ownBlock=some b→u.ownBlock=some b∨w.heap.size≤b) (by kernel_rfl) O ?_ ?_
 ·refine Cs (fun w' =>Blk w' A bookT (book.set 0 (.int .i64 (n+1)))) (fun hC=> ?_) (b2)
  refine AwC.take (i:=0) (Ah Ar) O (by kernel_rfl) (by kernel_rfl) (by kernel_rfl) (fun w1 hc=>Ad O) O<|AwC.take (i:=1) (Ah Ar) O (by kernel_rfl) (by kernel_rfl) (by kernel_rfl) (fun w1 hc=>Ad O) O<|AwC.take (i:=2) (Ah Ar) O (by kernel_rfl) (by kernel_rfl) (by kernel_rfl) (fun w1 hc=>Be O) O<|AwC.take (i:=3) (Ah Ar) O (by kernel_rfl) (by kernel_rfl) (by kernel_rfl) (fun w1 hc=>Ag (q:=0) Tryz.underlying56 O (sz_41 _) O) O<|AwC.take (i:=4) (Ah Ar) O (by kernel_rfl) (by kernel_rfl) (by kernel_rfl) (fun w1 hc=>Aj (ag_41 _) O hc qC) O<|AwC.take (i:=5) (Ah Ar) O (by kernel_rfl) (by kernel_rfl) (by kernel_rfl) (fun w1 hc=>Ad O) O<|AwC.take (i:=6) (Ah Ar) O (by kernel_rfl) (by kernel_rfl) (by kernel_rfl) (fun w1 hc=>Ad O) O<|AwC.take (i:=7) (Ah Ar) O (by kernel_rfl) (by kernel_rfl) (by kernel_rfl) (fun w1 hc=>Be O) O<|AwC.take (i:=8) (Ah Ar) O (by kernel_rfl) (by kernel_rfl) (by kernel_rfl) (fun w1 hc=>Ag (q:=0) Tryz.underlying56 O (sz_3 _) O) O<|AwC.take (i:=9) (Ah Ar) O (by kernel_rfl) (by kernel_rfl) (by kernel_rfl) (fun w1 hc=>Aj (ag_3 _) O hc q0) O ?_
  refine AwC.take (i:=10) (Ah Ar) O (by kernel_rfl) (by kernel_rfl) (by kernel_rfl) (fun w1 hc=>Bn (vs:=[(0,v),(2, .int .i64 (n+1))]) (cs:=[v, .slice none 0 0, .int .i64 (n+1)]) O (bt_heldMInt _ _ hv.one)) O<|AwC.only (by assumption) (i:=11) (by kernel_rfl) O ?_
  refine Bl (Xw.litA (vs:=[(0, .agg #[v, .slice none 0 0, .int .i64 (n+1)])]) (cs:=[v, .slice none 0 0, .int .i64 (n+1)]) st_41 it_135 O (by decide) (by decide) (by decide) (by kernel_rfl) O) O ?_
  rintro nv w3 ⟨o3, -,hn3, -⟩
  have o2:=own_bs o2 hn3
  have b2:=b2.bs hn3
  have z3:=(bt hd hn3).size
  have hlo3:lo≤w3.heap.size:=by omega
  refine AwC.back<|AwC.only (by assumption) (i:=12) (by kernel_rfl) O ?_
  refine Bl (C4 (base:=lo) st_41 it_135 O (by decide) O O o2 (own_sl o3) (head_oneM hv.one' _) (by omega) (by omega) hlo3) O ?_
  rintro u' w4 ⟨o4,hg4,hcase⟩
  have c4:Chg (fun b=>b=A∨u.ownBlock=some b) w w4:=(c1.below (bt hd hn3)).grown hg4 (fun b e=> .inl (.inr e))
  have b4:=b2.by hg4 (fun e=>hAu e.symm)
  have hub:∀b,u'.ownBlock=some b→u.ownBlock=some b∨w.heap.size≤b:=fun b e=>by
   rcases hcase with h|⟨h,_⟩
   ·rw [h] at e;exact .inl e
   ·exact .inr (by have:=h b e;omega)
  refine AwC.back<|AwC.take (i:=13) (Ah Ar) O (by kernel_rfl) (by kernel_rfl) (by kernel_rfl) (fun w1 hc=>Be O) O<|AwC.take (i:=14) (Ah Ar) O (by kernel_rfl) (by kernel_rfl) (by kernel_rfl) (fun w1 hc=>Ag (q:=0) Tryz.underlying56 O (sz_41 _) O) O<|Ck (by assumption) (by kernel_rfl) ?_
  exact Aa (Pw.seg (u') ⟨rfl,rfl,trivial⟩ (⟨c4,by rw [hcells_app];exact o4,b4,hub⟩))
 rintro u' w5 ⟨c5,o5,b5,hub⟩
 have z5:=c5.size
 refine Aw.only (i:=15) (by kernel_rfl) O<|Ay (Co (u:=u') (sz_41 _) O O (own_sl o5).one' b5 (by rw [List.length_set];exact hlC)) ?_
 rintro w6 ⟨b6,hg6, -⟩
 have o6:=own_heap o5 (fun b e=>hg6.block b (own_block o5 b e).2 (fun e2=>by
  cases e2
  rcases hub _ e with h|h
  ·exact hAu h
  ·omega))
 refine Aw.back<|C1 (by kernel_rfl)<|Cf O ?_
 exact ⟨rfl,u',b6,o6,c5.grown hg6 (fun b e=> .inl (.inl (Option.some.inj e).symm)),hub⟩

theorem bt_heldMNumber (v:Value) (n:Int) (hv:v.cells=[v].toArray):Tryz.prog.built 138 [(0,v),(2, .int .i64 n)]=some [v, .slice none 0 0, .int .i64 n].toArray:=by
 have h1:Tryz.prog.info? 138=some Tryz.t138:=by kernel_rfl
 have h2:Tryz.prog.info? 31=some Tryz.t31:=by kernel_rfl
 have h3:Tryz.prog.info? 3=some Tryz.t3:=by kernel_rfl
 simp [Program.built,h1,Tryz.underlying138,h2,h3,Instr.fill,hv]
 rfl
theorem keepNumber_m (A:Nat) (book:List Value) (n:Int) (u:Value) (hs:List Hd) (lo:Nat) (w:World) (v:Value) (k:Nat) (xs:List Value) (hA:Blk w A bookT book) (h0:book[0]? =some (.int .i64 n)) (hu:book[3]? =some u) (ho:w.ownsRow lo 138 3 u hs.length (hcells hs))
  (hlo:lo≤w.heap.size) (hAu:u.ownBlock≠some A) (hn:0≤n∧n≤4000000) (hh:hs.length≤4000000) (hv:Sl w 1 v k xs):
  Fnc Tryz.prog 154 [.pointer (some ⟨A,0,none⟩),v] w (fun r w' =>r= .tuple #[]∧∃u',Blk w' A bookT ((book.set 0 (.int .i64 (n+1))).set 3 u')∧w'.ownsRow lo 138 3 u' (hs.length+1) (hcells (hs++[(⟨v,k,xs,n+1, .slice none 0 0⟩:Hd)]))∧Chg (fun b=>b=A∨u.ownBlock=some b) w w' ∧∀b,u'.ownBlock=some b→u.ownBlock=some b∨w.heap.size≤b):=by
 have hl0:0<book.length:=(List.getElem?_eq_some_iff.1 h0).1
 have hlC:3<book.length:=(List.getElem?_eq_some_iff.1 hu).1
 refine Ap (n:=26) Tryz.func154 (by kernel_rfl) O O O<|Ae<|Ab<|Lw.val (Ad O) O<|Lw.val (Be O) O<|Lw.val (Ag (q:=0) Tryz.underlying56 O (sz_3 _) O) O<|Lw.val (Aj (ag_3 _) O hA h0) O<|Lw.val (Bc O O (by omega)) O<|Lw.val (Be O) O<|Lw.val (Ag (q:=0) Tryz.underlying56 O (sz_3 _) O) O<|Ay (Co (u:= .int .i64 (n+1)) (sz_3 _) O O O hA hl0) ?_
 rintro w1 ⟨b1,hg1,hz1⟩
 have o1:=own_heap ho (fun b e=>hg1.block b (own_block ho b e).2 (fun e2=>hAu (by rw [e,e2])))
 have c1:Chg (fun b=>b=A∨u.ownBlock=some b) w w1:=(Chg.refl _ _).grown hg1 (fun b e=> .inl (.inl (Option.some.inj e).symm))
 have q0:(book.set 0 (.int .i64 (n+1)))[0]? =some (.int .i64 (n+1)):=by simp [hl0]
 have qC:(book.set 0 (.int .i64 (n+1)))[3]? =some u:=by rw [List.getElem?_set_ne (by decide)];exact hu
 have hzA:=blk_lt hA
 refine Af<|Aa<|Cw.out ?_
 refine Cw.any mixed (fun w2 hd _=> ?_)
 have o2:=own_bs o1 hd
 have b2:=b1.bs hd
 refine Aw.seg (St:=Value) (g:=1) [0,1,2,3,4,5,6,7,8,9,10,11,12,13,14] 15 (fun s=>[(23,s),(25, .pointer (some ⟨A,3,none⟩))]) (fun s w' =>Chg (fun b=>b=A∨u.ownBlock=some b) w w' ∧w'.ownsRow lo 138 3 s (hs.length+1) (hcells (hs++[(⟨v,k,xs,n+1, .slice none 0 0⟩:Hd)]))∧Blk w' A bookT (book.set 0 (.int .i64 (n+1)))∧∀b,s.ownBlock=some b→u.ownBlock=some b∨w.heap.size≤b) (by kernel_rfl) O ?_ ?_
 ·refine Cs (fun w' =>Blk w' A bookT (book.set 0 (.int .i64 (n+1)))) (fun hC=> ?_) (b2)
  refine AwC.take (i:=0) (Ah Ar) O (by kernel_rfl) (by kernel_rfl) (by kernel_rfl) (fun w1 hc=>Ad O) O<|AwC.take (i:=1) (Ah Ar) O (by kernel_rfl) (by kernel_rfl) (by kernel_rfl) (fun w1 hc=>Ad O) O<|AwC.take (i:=2) (Ah Ar) O (by kernel_rfl) (by kernel_rfl) (by kernel_rfl) (fun w1 hc=>Be O) O<|AwC.take (i:=3) (Ah Ar) O (by kernel_rfl) (by kernel_rfl) (by kernel_rfl) (fun w1 hc=>Ag (q:=0) Tryz.underlying56 O (sz_42 _) O) O<|AwC.take (i:=4) (Ah Ar) O (by kernel_rfl) (by kernel_rfl) (by kernel_rfl) (fun w1 hc=>Aj (ag_42 _) O hc qC) O<|AwC.take (i:=5) (Ah Ar) O (by kernel_rfl) (by kernel_rfl) (by kernel_rfl) (fun w1 hc=>Ad O) O<|AwC.take (i:=6) (Ah Ar) O (by kernel_rfl) (by kernel_rfl) (by kernel_rfl) (fun w1 hc=>Ad O) O<|AwC.take (i:=7) (Ah Ar) O (by kernel_rfl) (by kernel_rfl) (by kernel_rfl) (fun w1 hc=>Be O) O<|AwC.take (i:=8) (Ah Ar) O (by kernel_rfl) (by kernel_rfl) (by kernel_rfl) (fun w1 hc=>Ag (q:=0) Tryz.underlying56 O (sz_3 _) O) O<|AwC.take (i:=9) (Ah Ar) O (by kernel_rfl) (by kernel_rfl) (by kernel_rfl) (fun w1 hc=>Aj (ag_3 _) O hc q0) O ?_
  refine AwC.take (i:=10) (Ah Ar) O (by kernel_rfl) (by kernel_rfl) (by kernel_rfl) (fun w1 hc=>Bn (vs:=[(0,v),(2, .int .i64 (n+1))]) (cs:=[v, .slice none 0 0, .int .i64 (n+1)]) O (bt_heldMNumber _ _ hv.one)) O<|AwC.only (by assumption) (i:=11) (by kernel_rfl) O ?_
  refine Bl (Xw.litA (vs:=[(0, .agg #[v, .slice none 0 0, .int .i64 (n+1)])]) (cs:=[v, .slice none 0 0, .int .i64 (n+1)]) st_42 it_138 O (by decide) (by decide) (by decide) (by kernel_rfl) O) O ?_
  rintro nv w3 ⟨o3, -,hn3, -⟩
  have o2:=own_bs o2 hn3
  have b2:=b2.bs hn3
  have z3:=(bt hd hn3).size
  have hlo3:lo≤w3.heap.size:=by omega
  refine AwC.back<|AwC.only (by assumption) (i:=12) (by kernel_rfl) O ?_
  refine Bl (C4 (base:=lo) st_42 it_138 O (by decide) O O o2 (own_sl o3) (head_oneM hv.one' _) (by omega) (by omega) hlo3) O ?_
  rintro u' w4 ⟨o4,hg4,hcase⟩
  have c4:Chg (fun b=>b=A∨u.ownBlock=some b) w w4:=(c1.below (bt hd hn3)).grown hg4 (fun b e=> .inl (.inr e))
  have b4:=b2.by hg4 (fun e=>hAu e.symm)
  have hub:∀b,u'.ownBlock=some b→u.ownBlock=some b∨w.heap.size≤b:=fun b e=>by
   rcases hcase with h|⟨h,_⟩
   ·rw [h] at e;exact .inl e
   ·exact .inr (by have:=h b e;omega)
  refine AwC.back<|AwC.take (i:=13) (Ah Ar) O (by kernel_rfl) (by kernel_rfl) (by kernel_rfl) (fun w1 hc=>Be O) O<|AwC.take (i:=14) (Ah Ar) O (by kernel_rfl) (by kernel_rfl) (by kernel_rfl) (fun w1 hc=>Ag (q:=0) Tryz.underlying56 O (sz_42 _) O) O<|Ck (by assumption) (by kernel_rfl) ?_
  exact Aa (Pw.seg (u') ⟨rfl,rfl,trivial⟩ (⟨c4,by rw [hcells_app];exact o4,b4,hub⟩))
 rintro u' w5 ⟨c5,o5,b5,hub⟩
 have z5:=c5.size
 refine Aw.only (i:=15) (by kernel_rfl) O<|Ay (Co (u:=u') (sz_42 _) O O (own_sl o5).one' b5 (by rw [List.length_set];exact hlC)) ?_
 rintro w6 ⟨b6,hg6, -⟩
 have o6:=own_heap o5 (fun b e=>hg6.block b (own_block o5 b e).2 (fun e2=>by
  cases e2
  rcases hub _ e with h|h
  ·exact hAu h
  ·omega))
 refine Aw.back<|C1 (by kernel_rfl)<|Cf O ?_
 exact ⟨rfl,u',b6,o6,c5.grown hg6 (fun b e=> .inl (.inl (Option.some.inj e).symm)),hub⟩

theorem bt_heldMTensor (v:Value) (n:Int) (hv:v.cells=[v].toArray):Tryz.prog.built 129 [(0,v),(2, .int .i64 n)]=some [v, .slice none 0 0, .int .i64 n].toArray:=by
 have h1:Tryz.prog.info? 129=some Tryz.t129:=by kernel_rfl
 have h2:Tryz.prog.info? 26=some Tryz.t26:=by kernel_rfl
 have h3:Tryz.prog.info? 3=some Tryz.t3:=by kernel_rfl
 simp [Program.built,h1,Tryz.underlying129,h2,h3,Instr.fill,hv]
 rfl
theorem keepTensor_m (A:Nat) (book:List Value) (n:Int) (u:Value) (hs:List Hd) (lo:Nat) (w:World) (v:Value) (k:Nat) (xs:List Value) (hA:Blk w A bookT book) (h0:book[0]? =some (.int .i64 n)) (hu:book[6]? =some u) (ho:w.ownsRow lo 129 3 u hs.length (hcells hs))
  (hlo:lo≤w.heap.size) (hAu:u.ownBlock≠some A) (hn:0≤n∧n≤4000000) (hh:hs.length≤4000000) (hv:Sl w 2 v k xs):
  Fnc Tryz.prog 50 [.pointer (some ⟨A,0,none⟩),v] w (fun r w' =>r= .tuple #[]∧∃u',Blk w' A bookT ((book.set 0 (.int .i64 (n+1))).set 6 u')∧w'.ownsRow lo 129 3 u' (hs.length+1) (hcells (hs++[(⟨v,k,xs,n+1, .slice none 0 0⟩:Hd)]))∧Chg (fun b=>b=A∨u.ownBlock=some b) w w' ∧∀b,u'.ownBlock=some b→u.ownBlock=some b∨w.heap.size≤b):=by
 have hl0:0<book.length:=(List.getElem?_eq_some_iff.1 h0).1
 have hlC:6<book.length:=(List.getElem?_eq_some_iff.1 hu).1
 refine Ap (n:=26) Tryz.func50 (by kernel_rfl) O O O<|Ae<|Ab<|Lw.val (Ad O) O<|Lw.val (Be O) O<|Lw.val (Ag (q:=0) Tryz.underlying56 O (sz_3 _) O) O<|Lw.val (Aj (ag_3 _) O hA h0) O<|Lw.val (Bc O O (by omega)) O<|Lw.val (Be O) O<|Lw.val (Ag (q:=0) Tryz.underlying56 O (sz_3 _) O) O<|Ay (Co (u:= .int .i64 (n+1)) (sz_3 _) O O O hA hl0) ?_
 rintro w1 ⟨b1,hg1,hz1⟩
 have o1:=own_heap ho (fun b e=>hg1.block b (own_block ho b e).2 (fun e2=>hAu (by rw [e,e2])))
 have c1:Chg (fun b=>b=A∨u.ownBlock=some b) w w1:=(Chg.refl _ _).grown hg1 (fun b e=> .inl (.inl (Option.some.inj e).symm))
 have q0:(book.set 0 (.int .i64 (n+1)))[0]? =some (.int .i64 (n+1)):=by simp [hl0]
 have qC:(book.set 0 (.int .i64 (n+1)))[6]? =some u:=by rw [List.getElem?_set_ne (by decide)];exact hu
 have hzA:=blk_lt hA
 refine Af<|Aa<|Cw.out ?_
 refine Cw.any mixed (fun w2 hd _=> ?_)
 have o2:=own_bs o1 hd
 have b2:=b1.bs hd
 refine Aw.seg (St:=Value) (g:=1) [0,1,2,3,4,5,6,7,8,9,10,11,12,13,14] 15 (fun s=>[(23,s),(25, .pointer (some ⟨A,6,none⟩))]) (fun s w' =>Chg (fun b=>b=A∨u.ownBlock=some b) w w' ∧w'.ownsRow lo 129 3 s (hs.length+1) (hcells (hs++[(⟨v,k,xs,n+1, .slice none 0 0⟩:Hd)]))∧Blk w' A bookT (book.set 0 (.int .i64 (n+1)))∧∀b,s.ownBlock=some b→u.ownBlock=some b∨w.heap.size≤b) (by kernel_rfl) O ?_ ?_
 ·refine Cs (fun w' =>Blk w' A bookT (book.set 0 (.int .i64 (n+1)))) (fun hC=> ?_) (b2)
  refine AwC.take (i:=0) (Ah Ar) O (by kernel_rfl) (by kernel_rfl) (by kernel_rfl) (fun w1 hc=>Ad O) O<|AwC.take (i:=1) (Ah Ar) O (by kernel_rfl) (by kernel_rfl) (by kernel_rfl) (fun w1 hc=>Ad O) O<|AwC.take (i:=2) (Ah Ar) O (by kernel_rfl) (by kernel_rfl) (by kernel_rfl) (fun w1 hc=>Be O) O<|AwC.take (i:=3) (Ah Ar) O (by kernel_rfl) (by kernel_rfl) (by kernel_rfl) (fun w1 hc=>Ag (q:=0) Tryz.underlying56 O (sz_45 _) O) O<|AwC.take (i:=4) (Ah Ar) O (by kernel_rfl) (by kernel_rfl) (by kernel_rfl) (fun w1 hc=>Aj (ag_45 _) O hc qC) O<|AwC.take (i:=5) (Ah Ar) O (by kernel_rfl) (by kernel_rfl) (by kernel_rfl) (fun w1 hc=>Ad O) O<|AwC.take (i:=6) (Ah Ar) O (by kernel_rfl) (by kernel_rfl) (by kernel_rfl) (fun w1 hc=>Ad O) O<|AwC.take (i:=7) (Ah Ar) O (by kernel_rfl) (by kernel_rfl) (by kernel_rfl) (fun w1 hc=>Be O) O<|AwC.take (i:=8) (Ah Ar) O (by kernel_rfl) (by kernel_rfl) (by kernel_rfl) (fun w1 hc=>Ag (q:=0) Tryz.underlying56 O (sz_3 _) O) O<|AwC.take (i:=9) (Ah Ar) O (by kernel_rfl) (by kernel_rfl) (by kernel_rfl) (fun w1 hc=>Aj (ag_3 _) O hc q0) O ?_
  refine AwC.take (i:=10) (Ah Ar) O (by kernel_rfl) (by kernel_rfl) (by kernel_rfl) (fun w1 hc=>Bn (vs:=[(0,v),(2, .int .i64 (n+1))]) (cs:=[v, .slice none 0 0, .int .i64 (n+1)]) O (bt_heldMTensor _ _ hv.one)) O<|AwC.only (by assumption) (i:=11) (by kernel_rfl) O ?_
  refine Bl (Xw.litA (vs:=[(0, .agg #[v, .slice none 0 0, .int .i64 (n+1)])]) (cs:=[v, .slice none 0 0, .int .i64 (n+1)]) st_45 it_129 O (by decide) (by decide) (by decide) (by kernel_rfl) O) O ?_
  rintro nv w3 ⟨o3, -,hn3, -⟩
  have o2:=own_bs o2 hn3
  have b2:=b2.bs hn3
  have z3:=(bt hd hn3).size
  have hlo3:lo≤w3.heap.size:=by omega
  refine AwC.back<|AwC.only (by assumption) (i:=12) (by kernel_rfl) O ?_
  refine Bl (C4 (base:=lo) st_45 it_129 O (by decide) O O o2 (own_sl o3) (head_oneM hv.one' _) (by omega) (by omega) hlo3) O ?_
  rintro u' w4 ⟨o4,hg4,hcase⟩
  have c4:Chg (fun b=>b=A∨u.ownBlock=some b) w w4:=(c1.below (bt hd hn3)).grown hg4 (fun b e=> .inl (.inr e))
  have b4:=b2.by hg4 (fun e=>hAu e.symm)
  have hub:∀b,u'.ownBlock=some b→u.ownBlock=some b∨w.heap.size≤b:=fun b e=>by
   rcases hcase with h|⟨h,_⟩
   ·rw [h] at e;exact .inl e
   ·exact .inr (by have:=h b e;omega)
  refine AwC.back<|AwC.take (i:=13) (Ah Ar) O (by kernel_rfl) (by kernel_rfl) (by kernel_rfl) (fun w1 hc=>Be O) O<|AwC.take (i:=14) (Ah Ar) O (by kernel_rfl) (by kernel_rfl) (by kernel_rfl) (fun w1 hc=>Ag (q:=0) Tryz.underlying56 O (sz_45 _) O) O<|Ck (by assumption) (by kernel_rfl) ?_
  exact Aa (Pw.seg (u') ⟨rfl,rfl,trivial⟩ (⟨c4,by rw [hcells_app];exact o4,b4,hub⟩))
 rintro u' w5 ⟨c5,o5,b5,hub⟩
 have z5:=c5.size
 refine Aw.only (i:=15) (by kernel_rfl) O<|Ay (Co (u:=u') (sz_45 _) O O (own_sl o5).one' b5 (by rw [List.length_set];exact hlC)) ?_
 rintro w6 ⟨b6,hg6, -⟩
 have o6:=own_heap o5 (fun b e=>hg6.block b (own_block o5 b e).2 (fun e2=>by
  cases e2
  rcases hub _ e with h|h
  ·exact hAu h
  ·omega))
 refine Aw.back<|C1 (by kernel_rfl)<|Cf O ?_
 exact ⟨rfl,u',b6,o6,c5.grown hg6 (fun b e=> .inl (.inl (Option.some.inj e).symm)),hub⟩

end Go.Proofs.YtmipoeanpnnjoaaGreatDoor

/-! A book of bytes, ints, numbers, tensors and nodes: its state; what it keeps. Printed by a program of ours. -/
namespace Go.Proofs.YtmipoeanpnnjoaaGreatDoor
open Go Go.Dd Go.RowKit
set_option maxRecDepth 100000

abbrev newHdM (v:Value) (k:Nat) (xs:List Value) (n:Int):Hd:=⟨v,k,xs,n, .slice none 0 0⟩
theorem apt_newM {u u' v:Value} {w:World} {lo k:Nat} {e:TypeId} {xs:List Value} (h:Apt u v) (hv:w.ownsRow lo e 3 v k xs) (hu:∀b,u'.ownBlock=some b→u.ownBlock=some b∨w.heap.size≤b):Apt u' v:=fun b e1 e2=>by
 rcases hu b e1 with h1|h1
 ·exact h b h1 e2
 ·have:=(own_block hv b e2).2;omega
/-- A book: where its parts lie, and what it keeps. -/
structure Bm (w:World) (lo A:Nat) (n:Int) (hb hi hn ht hd:List Hd) (ub ui un ut ud:Value):Prop where
 box:Blk w A bookT [.int .i64 n,ub,ui,un, .slice none 0 0, .slice none 0 0,ut,ud, .slice none 0 0, .slice none 0 0, .slice none 0 0, .slice none 0 0, .slice none 0 0, .slice none 0 0, .slice none 0 0, .slice none 0 0]
 ob:w.ownsRow lo 132 3 ub hb.length (hcells hb)
 oi:w.ownsRow lo 135 3 ui hi.length (hcells hi)
 on:w.ownsRow lo 138 3 un hn.length (hcells hn)
 ot:w.ownsRow lo 129 3 ut ht.length (hcells ht)
 od:w.ownsRow lo 151 3 ud hd.length (hcells hd)
 loA:lo≤A
 q_b:ub.ownBlock≠some A
 q_i:ui.ownBlock≠some A
 q_n:un.ownBlock≠some A
 q_t:ut.ownBlock≠some A
 q_d:ud.ownBlock≠some A
 p_bi:Apt ub ui
 p_bn:Apt ub un
 p_bt:Apt ub ut
 p_bd:Apt ub ud
 p_in:Apt ui un
 p_it:Apt ui ut
 p_id:Apt ui ud
 p_nt:Apt un ut
 p_nd:Apt un ud
 p_td:Apt ut ud
 many:((hb.length+hi.length+hn.length+ht.length+hd.length:Nat):Int)=n
theorem Bm.size {w:World} {lo A:Nat} {n:Int} {hb hi hn ht hd:List Hd} {ub ui un ut ud:Value} (h:Bm w lo A n hb hi hn ht hd ub ui un ut ud):lo<w.heap.size:=Nat.lt_of_le_of_lt h.loA (blk_lt h.box)
theorem Bm.bs {w w' :World} {lo A:Nat} {n:Int} {hb hi hn ht hd:List Hd} {ub ui un ut ud:Value} (h:Bm w lo A n hb hi hn ht hd ub ui un ut ud) (g:Below w.heap.size w w'):Bm w' lo A n hb hi hn ht hd ub ui un ut ud:=
 ⟨h.box.bs g,own_bs h.ob g,own_bs h.oi g,own_bs h.on g,own_bs h.ot g,own_bs h.od g,h.loA,h.q_b,h.q_i,h.q_n,h.q_t,h.q_d,h.p_bi,h.p_bn,h.p_bt,h.p_bd,h.p_in,h.p_it,h.p_id,h.p_nt,h.p_nd,h.p_td,h.many⟩
theorem Bm.low {w w' :World} {lo A:Nat} {n:Int} {hb hi hn ht hd:List Hd} {ub ui un ut ud u:Value} (h:Bm w lo A n hb hi hn ht hd ub ui un ut ud) (hu:∀b,u.ownBlock=some b→lo≤b) (hc:Chg (fun b=>b=A∨u.ownBlock=some b) w w'):Below lo w w' :=hc.to_below (fun b hS=>by
 rcases hS with rfl|e
 ·exact h.loA
 ·exact hu b e) (Nat.le_of_lt h.size)



theorem bkeepInt_m (w:World) (lo A:Nat) (n:Int) (hb hi hn ht hd:List Hd) (ub ui un ut ud v:Value) (k:Nat) (xs:List Value) (h:Bm w lo A n hb hi hn ht hd ub ui un ut ud) (hv:Sl w 1 v k xs) (hf:n≤3999999):
  Fnc Tryz.prog 153 [.pointer (some ⟨A,0,none⟩),v] w (fun r w' =>r= .tuple #[]∧Chg (fun b=>b=A∨ui.ownBlock=some b) w w' ∧∃u',Bm w' lo A (n+1) hb (hi++[newHdM v k xs (n+1)]) hn ht hd ub u' un ut ud):=by
 have hm:=h.many
 refine (keepInt_m A _ n ui hi lo w v k xs h.box O O h.oi (Nat.le_of_lt h.size) h.q_i (by omega) (by omega) hv).mono ?_
 rintro _ w' ⟨rfl,u',hb',ho,hc,hu⟩
 exact ⟨rfl,hc,u',hb',own_chg h.ob hc (fun b e1 e2=>e2.elim (fun e=>h.q_b (by rw [e1,e])) (fun e=>h.p_bi b e1 e)),(by rw [List.length_append];exact ho),own_chg h.on hc (fun b e1 e2=>e2.elim (fun e=>h.q_n (by rw [e1,e])) (fun e=>h.p_in b e e1)),own_chg h.ot hc (fun b e1 e2=>e2.elim (fun e=>h.q_t (by rw [e1,e])) (fun e=>h.p_it b e e1)),own_chg h.od hc (fun b e1 e2=>e2.elim (fun e=>h.q_d (by rw [e1,e])) (fun e=>h.p_id b e e1)),h.loA,h.q_b,(fun e=>by rcases hu _ e with h1|h1;exact h.q_i h1;have:=blk_lt h.box;omega),h.q_n,h.q_t,h.q_d,(apt_newM h.p_bi.symm h.ob hu).symm,h.p_bn,h.p_bt,h.p_bd,apt_newM h.p_in h.on hu,apt_newM h.p_it h.ot hu,apt_newM h.p_id h.od hu,h.p_nt,h.p_nd,h.p_td,by simp only [List.length_append,List.length_singleton];omega⟩

theorem bookInts_m (w:World) (lo A:Nat) (n:Int) (hb hi hn ht hd:List Hd) (ub ui un ut ud v:Value) (k:Nat) (xs:List Value) (h:Bm w lo A n hb hi hn ht hd ub ui un ut ud) (hv:Sl w 1 v k xs) (hf:n≤3999999):
  Fnc Tryz.prog 49 [.pointer (some ⟨A,0,none⟩),v] w (fun r w' =>r= .tuple #[]∧Chg (fun b=>b=A∨ui.ownBlock=some b) w w' ∧∃u',Bm w' lo A (n+1) hb (hi++[newHdM v k xs (n+1)]) hn ht hd ub u' un ut ud):=by
 refine Ap (n:=7) Tryz.func49 (by kernel_rfl) O O O<|Ab<|Lw.val (Ad O) O<|Lw.val (Ad O) O<|Al O O (bkeepInt_m w lo A n hb hi hn ht hd ub ui un ut ud v k xs h hv hf) ?_
 rintro _ w' ⟨rfl,hc,u',hb'⟩
 refine Af<|Cf O ?_
 exact ⟨rfl,hc,u',hb'⟩

theorem bkeepNumber_m (w:World) (lo A:Nat) (n:Int) (hb hi hn ht hd:List Hd) (ub ui un ut ud v:Value) (k:Nat) (xs:List Value) (h:Bm w lo A n hb hi hn ht hd ub ui un ut ud) (hv:Sl w 1 v k xs) (hf:n≤3999999):
  Fnc Tryz.prog 154 [.pointer (some ⟨A,0,none⟩),v] w (fun r w' =>r= .tuple #[]∧Chg (fun b=>b=A∨un.ownBlock=some b) w w' ∧∃u',Bm w' lo A (n+1) hb hi (hn++[newHdM v k xs (n+1)]) ht hd ub ui u' ut ud):=by
 have hm:=h.many
 refine (keepNumber_m A _ n un hn lo w v k xs h.box O O h.on (Nat.le_of_lt h.size) h.q_n (by omega) (by omega) hv).mono ?_
 rintro _ w' ⟨rfl,u',hb',ho,hc,hu⟩
 exact ⟨rfl,hc,u',hb',own_chg h.ob hc (fun b e1 e2=>e2.elim (fun e=>h.q_b (by rw [e1,e])) (fun e=>h.p_bn b e1 e)),own_chg h.oi hc (fun b e1 e2=>e2.elim (fun e=>h.q_i (by rw [e1,e])) (fun e=>h.p_in b e1 e)),(by rw [List.length_append];exact ho),own_chg h.ot hc (fun b e1 e2=>e2.elim (fun e=>h.q_t (by rw [e1,e])) (fun e=>h.p_nt b e e1)),own_chg h.od hc (fun b e1 e2=>e2.elim (fun e=>h.q_d (by rw [e1,e])) (fun e=>h.p_nd b e e1)),h.loA,h.q_b,h.q_i,(fun e=>by rcases hu _ e with h1|h1;exact h.q_n h1;have:=blk_lt h.box;omega),h.q_t,h.q_d,h.p_bi,(apt_newM h.p_bn.symm h.ob hu).symm,h.p_bt,h.p_bd,(apt_newM h.p_in.symm h.oi hu).symm,h.p_it,h.p_id,apt_newM h.p_nt h.ot hu,apt_newM h.p_nd h.od hu,h.p_td,by simp only [List.length_append,List.length_singleton];omega⟩

theorem bookNumbers_m (w:World) (lo A:Nat) (n:Int) (hb hi hn ht hd:List Hd) (ub ui un ut ud v:Value) (k:Nat) (xs:List Value) (h:Bm w lo A n hb hi hn ht hd ub ui un ut ud) (hv:Sl w 1 v k xs) (hf:n≤3999999):
  Fnc Tryz.prog 51 [.pointer (some ⟨A,0,none⟩),v] w (fun r w' =>r= .tuple #[]∧Chg (fun b=>b=A∨un.ownBlock=some b) w w' ∧∃u',Bm w' lo A (n+1) hb hi (hn++[newHdM v k xs (n+1)]) ht hd ub ui u' ut ud):=by
 refine Ap (n:=7) Tryz.func51 (by kernel_rfl) O O O<|Ab<|Lw.val (Ad O) O<|Lw.val (Ad O) O<|Al O O (bkeepNumber_m w lo A n hb hi hn ht hd ub ui un ut ud v k xs h hv hf) ?_
 rintro _ w' ⟨rfl,hc,u',hb'⟩
 refine Af<|Cf O ?_
 exact ⟨rfl,hc,u',hb'⟩

theorem bkeepTensor_m (w:World) (lo A:Nat) (n:Int) (hb hi hn ht hd:List Hd) (ub ui un ut ud v:Value) (k:Nat) (xs:List Value) (h:Bm w lo A n hb hi hn ht hd ub ui un ut ud) (hv:Sl w 2 v k xs) (hf:n≤3999999):
  Fnc Tryz.prog 50 [.pointer (some ⟨A,0,none⟩),v] w (fun r w' =>r= .tuple #[]∧Chg (fun b=>b=A∨ut.ownBlock=some b) w w' ∧∃u',Bm w' lo A (n+1) hb hi hn (ht++[newHdM v k xs (n+1)]) hd ub ui un u' ud):=by
 have hm:=h.many
 refine (keepTensor_m A _ n ut ht lo w v k xs h.box O O h.ot (Nat.le_of_lt h.size) h.q_t (by omega) (by omega) hv).mono ?_
 rintro _ w' ⟨rfl,u',hb',ho,hc,hu⟩
 exact ⟨rfl,hc,u',hb',own_chg h.ob hc (fun b e1 e2=>e2.elim (fun e=>h.q_b (by rw [e1,e])) (fun e=>h.p_bt b e1 e)),own_chg h.oi hc (fun b e1 e2=>e2.elim (fun e=>h.q_i (by rw [e1,e])) (fun e=>h.p_it b e1 e)),own_chg h.on hc (fun b e1 e2=>e2.elim (fun e=>h.q_n (by rw [e1,e])) (fun e=>h.p_nt b e1 e)),(by rw [List.length_append];exact ho),own_chg h.od hc (fun b e1 e2=>e2.elim (fun e=>h.q_d (by rw [e1,e])) (fun e=>h.p_td b e e1)),h.loA,h.q_b,h.q_i,h.q_n,(fun e=>by rcases hu _ e with h1|h1;exact h.q_t h1;have:=blk_lt h.box;omega),h.q_d,h.p_bi,h.p_bn,(apt_newM h.p_bt.symm h.ob hu).symm,h.p_bd,h.p_in,(apt_newM h.p_it.symm h.oi hu).symm,h.p_id,(apt_newM h.p_nt.symm h.on hu).symm,h.p_nd,apt_newM h.p_td h.od hu,by simp only [List.length_append,List.length_singleton];omega⟩

end Go.Proofs.YtmipoeanpnnjoaaGreatDoor

/-! Whether all that a book keeps is apart: bytes, ints, numbers, tensors, nodes. Printed by a program of ours. -/
namespace Go.Proofs.YtmipoeanpnnjoaaGreatDoor
open Go Go.Dd Go.RowKit
set_option maxRecDepth 100000

theorem apart_m (w:World) (lo A base:Nat) (n:Int) (hb hi hn ht hd:List Hd) (ub ui un ut ud:Value) (h:Bm w lo A n hb hi hn ht hd ub ui un ut ud) (kb:Kept w base 5 1 hb) (ki:Kept w base 3 1 hi) (kn:Kept w base 21 1 hn) (kt:Kept w base 33 2 ht) (kd:Kept w base 25 5 hd)
  (lb:∀b,blks hb b→b<lo) (li:∀b,blks hi b→b<lo) (ln:∀b,blks hn b→b<lo) (lt:∀b,blks ht b→b<lo) (ld:∀b,blks hd b→b<lo) (xbi:∀b,blks hb b→¬blks hi b) (xbn:∀b,blks hb b→¬blks hn b) (xbt:∀b,blks hb b→¬blks ht b) (xbd:∀b,blks hb b→¬blks hd b) (xin:∀b,blks hi b→¬blks hn b) (xit:∀b,blks hi b→¬blks ht b) (xid:∀b,blks hi b→¬blks hd b) (xnt:∀b,blks hn b→¬blks ht b) (xnd:∀b,blks hn b→¬blks hd b) (xtd:∀b,blks ht b→¬blks hd b) (hbl:base≤lo):
  Fnc Tryz.prog 17 [.pointer (some ⟨A,0,none⟩)] w (fun r w' =>r= .bool true∧Below base w w'):=by
 have nA:∀{b},b<lo→b≠A:=fun h1 h2=>by have:=h.loA;omega
 have hlo:base≤w.heap.size:=Nat.le_trans hbl (Nat.le_of_lt h.size)
 have hls:=h.size
 obtain ⟨B,hB⟩:∃B,B=w.heap.size:=⟨_,rfl⟩
 have fb:∀b,ub.ownBlock=some b→lo≤b∧b<w.heap.size:=own_block h.ob
 have fi:∀b,ui.ownBlock=some b→lo≤b∧b<w.heap.size:=own_block h.oi
 have fn:∀b,un.ownBlock=some b→lo≤b∧b<w.heap.size:=own_block h.on
 have ft:∀b,ut.ownBlock=some b→lo≤b∧b<w.heap.size:=own_block h.ot
 have fd:∀b,ud.ownBlock=some b→lo≤b∧b<w.heap.size:=own_block h.od
 have vb:∀b,blks hb b→b<B:=fun b e=>by have:=lb b e;omega
 have vi:∀b,blks hi b→b<B:=fun b e=>by have:=li b e;omega
 have vn:∀b,blks hn b→b<B:=fun b e=>by have:=ln b e;omega
 have vt:∀b,blks ht b→b<B:=fun b e=>by have:=lt b e;omega
 have vd:∀b,blks hd b→b<B:=fun b e=>by have:=ld b e;omega
 refine Ap (n:=121) Tryz.func17 (by kernel_rfl) O O O<|Ae<|Ab<|Lw.val (Ac O) O<|Af<|Aa<|Cw.out<|Ae<|Ab<|Lw.val (Ad O) O<|Al O O (fillByte_c A _ ub hb lo base w (h.box) O (h.ob) kb (fun e=>nA (lb _ e) O) (fun b e1 e2=>by have:=fb b e1;have:=lb b e2;omega)) ?_
 rintro _ w1 ⟨rfl,c1,gb1⟩
 have z1:=c1.size
 have A1:=Blk.chg (h.box) c1 (fun e=>nA (lb _ e) rfl)
 have ob1:=own_chg (h.ob) c1 (fun b e1 e2=>by have:=fb b e1;have:=lb b e2;omega)
 have oi1:=own_chg (h.oi) c1 (fun b e1 e2=>by have:=fi b e1;have:=lb b e2;omega)
 have on1:=own_chg (h.on) c1 (fun b e1 e2=>by have:=fn b e1;have:=lb b e2;omega)
 have ot1:=own_chg (h.ot) c1 (fun b e1 e2=>by have:=ft b e1;have:=lb b e2;omega)
 have od1:=own_chg (h.od) c1 (fun b e1 e2=>by have:=fd b e1;have:=lb b e2;omega)
 have ki1:=Kept.chg (ki) c1 (fun c h1 h2=>xbi c h2 h1)
 have kn1:=Kept.chg (kn) c1 (fun c h1 h2=>xbn c h2 h1)
 have kt1:=Kept.chg (kt) c1 (fun c h1 h2=>xbt c h2 h1)
 have kd1:=Kept.chg (kd) c1 (fun c h1 h2=>xbd c h2 h1)
 refine Af<|Aa<|Cw.out<|Ae<|Ab<|Lw.val (Ad O) O<|Al O O (fillInt_c A _ ui hi lo base w1 (A1) O (oi1) ki1 (fun e=>nA (li _ e) O) (fun b e1 e2=>by have:=fi b e1;have:=li b e2;omega)) ?_
 rintro _ w2 ⟨rfl,c2,gi2⟩
 have z2:=c2.size
 have A2:=Blk.chg (A1) c2 (fun e=>nA (li _ e) rfl)
 have ob2:=own_chg (ob1) c2 (fun b e1 e2=>by have:=fb b e1;have:=li b e2;omega)
 have oi2:=own_chg (oi1) c2 (fun b e1 e2=>by have:=fi b e1;have:=li b e2;omega)
 have on2:=own_chg (on1) c2 (fun b e1 e2=>by have:=fn b e1;have:=li b e2;omega)
 have ot2:=own_chg (ot1) c2 (fun b e1 e2=>by have:=ft b e1;have:=li b e2;omega)
 have od2:=own_chg (od1) c2 (fun b e1 e2=>by have:=fd b e1;have:=li b e2;omega)
 have gb2:=Full.chg gb1 c2 xbi
 have kn2:=Kept.chg (kn1) c2 (fun c h1 h2=>xin c h2 h1)
 have kt2:=Kept.chg (kt1) c2 (fun c h1 h2=>xit c h2 h1)
 have kd2:=Kept.chg (kd1) c2 (fun c h1 h2=>xid c h2 h1)
 refine Af<|Aa<|Cw.out<|Ae<|Ab<|Lw.val (Ad O) O<|Al O O (fillNumber_c A _ un hn lo base w2 (A2) O (on2) kn2 (fun e=>nA (ln _ e) O) (fun b e1 e2=>by have:=fn b e1;have:=ln b e2;omega)) ?_
 rintro _ w3 ⟨rfl,c3,gn3⟩
 have z3:=c3.size
 have A3:=Blk.chg (A2) c3 (fun e=>nA (ln _ e) rfl)
 have ob3:=own_chg (ob2) c3 (fun b e1 e2=>by have:=fb b e1;have:=ln b e2;omega)
 have oi3:=own_chg (oi2) c3 (fun b e1 e2=>by have:=fi b e1;have:=ln b e2;omega)
 have on3:=own_chg (on2) c3 (fun b e1 e2=>by have:=fn b e1;have:=ln b e2;omega)
 have ot3:=own_chg (ot2) c3 (fun b e1 e2=>by have:=ft b e1;have:=ln b e2;omega)
 have od3:=own_chg (od2) c3 (fun b e1 e2=>by have:=fd b e1;have:=ln b e2;omega)
 have gb3:=Full.chg gb2 c3 xbn
 have gi3:=Full.chg gi2 c3 xin
 have kt3:=Kept.chg (kt2) c3 (fun c h1 h2=>xnt c h2 h1)
 have kd3:=Kept.chg (kd2) c3 (fun c h1 h2=>xnd c h2 h1)
 refine Af<|Aa<|Cw.out<|Ae<|Ab<|Lw.val (Ad O) O<|Al O O (fillId_c A _ w3 A3 O) ?_
 rintro _ _ ⟨rfl,rfl⟩
 refine Af<|Aa<|Cw.out<|Ae<|Ab<|Lw.val (Ad O) O<|Al O O (fillText_c A _ w3 A3 O) ?_
 rintro _ _ ⟨rfl,rfl⟩
 refine Af<|Aa<|Cw.out<|Ae<|Ab<|Lw.val (Ad O) O<|Al O O (fillTensor_m A _ ut ht lo base B w3 (A3) O (ot3) kt3 (fun e=>nA (lt _ e) O) (fun b e1 e2=>by have:=ft b e1;have:=lt b e2;omega) (by omega) vt) ?_
 rintro _ w4 ⟨rfl,c4,gt4⟩
 have z4:=c4.size
 have A4:=Blk.chg (A3) c4 (fun e=>nA (lt _ e) rfl)
 have ob4:=own_chg (ob3) c4 (fun b e1 e2=>by have:=fb b e1;have:=lt b e2;omega)
 have oi4:=own_chg (oi3) c4 (fun b e1 e2=>by have:=fi b e1;have:=lt b e2;omega)
 have on4:=own_chg (on3) c4 (fun b e1 e2=>by have:=fn b e1;have:=lt b e2;omega)
 have ot4:=own_chg (ot3) c4 (fun b e1 e2=>by have:=ft b e1;have:=lt b e2;omega)
 have od4:=own_chg (od3) c4 (fun b e1 e2=>by have:=fd b e1;have:=lt b e2;omega)
 have gb4:=Full.chg gb3 c4 xbt
 have gi4:=Full.chg gi3 c4 xit
 have gn4:=Full.chg gn3 c4 xnt
 have kd4:=Kept.chg (kd3) c4 (fun c h1 h2=>xtd c h2 h1)
 refine Af<|Aa<|Cw.out<|Ae<|Ab<|Lw.val (Ad O) O<|Al O O (fillNode_m A _ ud hd lo base B w4 (A4) O (od4) kd4 (fun e=>nA (ld _ e) O) (fun b e1 e2=>by have:=fd b e1;have:=ld b e2;omega) (by omega) vd) ?_
 rintro _ w5 ⟨rfl,c5,gd5⟩
 have z5:=c5.size
 have A5:=Blk.chg (A4) c5 (fun e=>nA (ld _ e) rfl)
 have ob5:=own_chg (ob4) c5 (fun b e1 e2=>by have:=fb b e1;have:=ld b e2;omega)
 have oi5:=own_chg (oi4) c5 (fun b e1 e2=>by have:=fi b e1;have:=ld b e2;omega)
 have on5:=own_chg (on4) c5 (fun b e1 e2=>by have:=fn b e1;have:=ld b e2;omega)
 have ot5:=own_chg (ot4) c5 (fun b e1 e2=>by have:=ft b e1;have:=ld b e2;omega)
 have od5:=own_chg (od4) c5 (fun b e1 e2=>by have:=fd b e1;have:=ld b e2;omega)
 have gb5:=Full.chg gb4 c5 xbd
 have gi5:=Full.chg gi4 c5 xid
 have gn5:=Full.chg gn4 c5 xnd
 have gt5:=FullN.chg gt4 (phT_stays B 3) c5 vd xtd
 refine Af<|Aa<|Cw.out<|Ae<|Ab<|Lw.val (Ad O) O<|Al O O (fillStep_c A _ w5 A5 O) ?_
 rintro _ _ ⟨rfl,rfl⟩
 refine Af<|Aa<|Cw.out<|Ae<|Ab<|Lw.val (Ad O) O<|Al O O (fillCost_c A _ w5 A5 O) ?_
 rintro _ _ ⟨rfl,rfl⟩
 refine Af<|Aa<|Cw.out<|Ae<|Ab<|Lw.val (Ad O) O<|Al O O (fillRecord_c A _ w5 A5 O) ?_
 rintro _ _ ⟨rfl,rfl⟩
 refine Af<|Aa<|Cw.out<|Ae<|Ab<|Lw.val (Ad O) O<|Al O O (fillPlace_c A _ w5 A5 O) ?_
 rintro _ _ ⟨rfl,rfl⟩
 refine Af<|Aa<|Cw.out<|Ae<|Ab<|Lw.val (Ad O) O<|Al O O (fillAsk_c A _ w5 A5 O) ?_
 rintro _ _ ⟨rfl,rfl⟩
 refine Af<|Aa<|Cw.out<|Ae<|Ab<|Lw.val (Ad O) O<|Al O O (fillDone_c A _ w5 A5 O) ?_
 rintro _ _ ⟨rfl,rfl⟩
 refine Af<|Aa<|Cw.out<|Ae<|Ab<|Lw.val (Ad O) O<|Al O O (fillGrid_c A _ w5 A5 O) ?_
 rintro _ _ ⟨rfl,rfl⟩
 refine Af<|Aa<|Cw.out<|Ae<|Ab<|Lw.val (Ad O) O<|Al O O (fillList_c A _ w5 A5 O) ?_
 rintro _ _ ⟨rfl,rfl⟩
 refine Af<|Aa<|Cw.out<|Ae<|Ab<|Lw.val (Ad O) O<|Al O O (growByte_c A _ ub hb lo base w5 A5 O (ob5) kb.toKOk gb5 (fun e=>nA (lb _ e) O) (fun b e1 e2=>by have:=fb b e1;have:=lb b e2;omega) h.q_b (by omega)) ?_
 rintro _ w6 ⟨rfl,c6,tb,yb,ob6,db6⟩
 have z6:=c6.size
 have j6:∀b,(blks hb b∨ub.ownBlock=some b)→b<B:=fun b e=>e.elim (vb b) (fun e=>by have:=fb b e;omega)
 have A6:=A5.chg c6 (fun e=>e.elim (fun e=>nA (lb _ e) rfl) (fun e=>h.q_b e))
 have oi6:=own_chg (oi5) c6 (fun b e1 e2=>e2.elim (fun e=>by have:=fi b e1;have:=lb b e;omega) (fun e=>h.p_bi.symm b e1 e))
 have gi6:=Full.chg gi5 c6 (fun b e1 e2=>e2.elim (fun e=>(fun c h1 h2=>xbi c h2 h1) b e1 e) (fun e=>by have:=fb b e;have:=li b e1;omega))
 have on6:=own_chg (on5) c6 (fun b e1 e2=>e2.elim (fun e=>by have:=fn b e1;have:=lb b e;omega) (fun e=>h.p_bn.symm b e1 e))
 have gn6:=Full.chg gn5 c6 (fun b e1 e2=>e2.elim (fun e=>(fun c h1 h2=>xbn c h2 h1) b e1 e) (fun e=>by have:=fb b e;have:=ln b e1;omega))
 have ot6:=own_chg (ot5) c6 (fun b e1 e2=>e2.elim (fun e=>by have:=ft b e1;have:=lb b e;omega) (fun e=>h.p_bt.symm b e1 e))
 have gt6:=FullN.chg gt5 (phT_stays B 3) c6 j6 (fun b e1 e2=>e2.elim (fun e=>(fun c h1 h2=>xbt c h2 h1) b e1 e) (fun e=>by have:=fb b e;have:=lt b e1;omega))
 have od6:=own_chg (od5) c6 (fun b e1 e2=>e2.elim (fun e=>by have:=fd b e1;have:=lb b e;omega) (fun e=>h.p_bd.symm b e1 e))
 have gd6:=FullN.chg gd5 (phN_stays B 3) c6 j6 (fun b e1 e2=>e2.elim (fun e=>(fun c h1 h2=>xbd c h2 h1) b e1 e) (fun e=>by have:=fb b e;have:=ld b e1;omega))
 refine Af<|Aa<|Cw.out<|Ae<|Ab<|Lw.val (Ad O) O<|Al O O (growInt_c A _ ui hi lo base w6 A6 O (oi6) ki.toKOk gi6 (fun e=>nA (li _ e) O) (fun b e1 e2=>by have:=fi b e1;have:=li b e2;omega) h.q_i (by omega)) ?_
 rintro _ w7 ⟨rfl,c7,ti,yi,oi7,di7⟩
 have z7:=c7.size
 have j7:∀b,(blks hi b∨ui.ownBlock=some b)→b<B:=fun b e=>e.elim (vi b) (fun e=>by have:=fi b e;omega)
 have A7:=A6.chg c7 (fun e=>e.elim (fun e=>nA (li _ e) rfl) (fun e=>h.q_i e))
 have ob7:=own_chg (ob6) c7 (fun b e1 e2=>e2.elim (fun e=>by have:=fb b e1;have:=li b e;omega) (fun e=>h.p_bi b e1 e))
 have db7:=yb.tall db6 c7 (fun b e1 e2=>e2.elim (fun e=>xbi b e1 e) (fun e=>by have:=fi b e;have:=lb b e1;omega)) (fun b e1 e2=>by have:=j7 b e2;omega)
 have on7:=own_chg (on6) c7 (fun b e1 e2=>e2.elim (fun e=>by have:=fn b e1;have:=li b e;omega) (fun e=>h.p_in.symm b e1 e))
 have gn7:=Full.chg gn6 c7 (fun b e1 e2=>e2.elim (fun e=>(fun c h1 h2=>xin c h2 h1) b e1 e) (fun e=>by have:=fi b e;have:=ln b e1;omega))
 have ot7:=own_chg (ot6) c7 (fun b e1 e2=>e2.elim (fun e=>by have:=ft b e1;have:=li b e;omega) (fun e=>h.p_it.symm b e1 e))
 have gt7:=FullN.chg gt6 (phT_stays B 3) c7 j7 (fun b e1 e2=>e2.elim (fun e=>(fun c h1 h2=>xit c h2 h1) b e1 e) (fun e=>by have:=fi b e;have:=lt b e1;omega))
 have od7:=own_chg (od6) c7 (fun b e1 e2=>e2.elim (fun e=>by have:=fd b e1;have:=li b e;omega) (fun e=>h.p_id.symm b e1 e))
 have gd7:=FullN.chg gd6 (phN_stays B 3) c7 j7 (fun b e1 e2=>e2.elim (fun e=>(fun c h1 h2=>xid c h2 h1) b e1 e) (fun e=>by have:=fi b e;have:=ld b e1;omega))
 refine Af<|Aa<|Cw.out<|Ae<|Ab<|Lw.val (Ad O) O<|Al O O (growNumber_c A _ un hn lo base w7 A7 O (on7) kn.toKOk gn7 (fun e=>nA (ln _ e) O) (fun b e1 e2=>by have:=fn b e1;have:=ln b e2;omega) h.q_n (by omega)) ?_
 rintro _ w8 ⟨rfl,c8,tn,yn,on8,dn8⟩
 have z8:=c8.size
 have j8:∀b,(blks hn b∨un.ownBlock=some b)→b<B:=fun b e=>e.elim (vn b) (fun e=>by have:=fn b e;omega)
 have A8:=A7.chg c8 (fun e=>e.elim (fun e=>nA (ln _ e) rfl) (fun e=>h.q_n e))
 have ob8:=own_chg (ob7) c8 (fun b e1 e2=>e2.elim (fun e=>by have:=fb b e1;have:=ln b e;omega) (fun e=>h.p_bn b e1 e))
 have db8:=yb.tall db7 c8 (fun b e1 e2=>e2.elim (fun e=>xbn b e1 e) (fun e=>by have:=fn b e;have:=lb b e1;omega)) (fun b e1 e2=>by have:=j8 b e2;omega)
 have oi8:=own_chg (oi7) c8 (fun b e1 e2=>e2.elim (fun e=>by have:=fi b e1;have:=ln b e;omega) (fun e=>h.p_in b e1 e))
 have di8:=yi.tall di7 c8 (fun b e1 e2=>e2.elim (fun e=>xin b e1 e) (fun e=>by have:=fn b e;have:=li b e1;omega)) (fun b e1 e2=>by have:=j8 b e2;omega)
 have ot8:=own_chg (ot7) c8 (fun b e1 e2=>e2.elim (fun e=>by have:=ft b e1;have:=ln b e;omega) (fun e=>h.p_nt.symm b e1 e))
 have gt8:=FullN.chg gt7 (phT_stays B 3) c8 j8 (fun b e1 e2=>e2.elim (fun e=>(fun c h1 h2=>xnt c h2 h1) b e1 e) (fun e=>by have:=fn b e;have:=lt b e1;omega))
 have od8:=own_chg (od7) c8 (fun b e1 e2=>e2.elim (fun e=>by have:=fd b e1;have:=ln b e;omega) (fun e=>h.p_nd.symm b e1 e))
 have gd8:=FullN.chg gd7 (phN_stays B 3) c8 j8 (fun b e1 e2=>e2.elim (fun e=>(fun c h1 h2=>xnd c h2 h1) b e1 e) (fun e=>by have:=fn b e;have:=ld b e1;omega))
 refine Af<|Aa<|Cw.out<|Ae<|Ab<|Lw.val (Ad O) O<|Al O O (growId_c A _ w8 A8 O) ?_
 rintro _ _ ⟨rfl,rfl⟩
 refine Af<|Aa<|Cw.out<|Ae<|Ab<|Lw.val (Ad O) O<|Al O O (growText_c A _ w8 A8 O) ?_
 rintro _ _ ⟨rfl,rfl⟩
 refine Af<|Aa<|Cw.out<|Ae<|Ab<|Lw.val (Ad O) O<|Al O O (growTensor_m A _ ut ht lo base B w8 A8 O (ot8) kt.toKOk gt8 (fun e=>nA (lt _ e) O) (fun b e1 e2=>by have:=ft b e1;have:=lt b e2;omega) h.q_t (by omega) (by omega) vt (fun b e=>by have:=ft b e;omega)) ?_
 rintro _ w9 ⟨rfl,c9,tt,yt,ot9,dt9⟩
 have z9:=c9.size
 have j9:∀b,(blks ht b∨ut.ownBlock=some b)→b<B:=fun b e=>e.elim (vt b) (fun e=>by have:=ft b e;omega)
 have A9:=A8.chg c9 (fun e=>e.elim (fun e=>nA (lt _ e) rfl) (fun e=>h.q_t e))
 have ob9:=own_chg (ob8) c9 (fun b e1 e2=>e2.elim (fun e=>by have:=fb b e1;have:=lt b e;omega) (fun e=>h.p_bt b e1 e))
 have db9:=yb.tall db8 c9 (fun b e1 e2=>e2.elim (fun e=>xbt b e1 e) (fun e=>by have:=ft b e;have:=lb b e1;omega)) (fun b e1 e2=>by have:=j9 b e2;omega)
 have oi9:=own_chg (oi8) c9 (fun b e1 e2=>e2.elim (fun e=>by have:=fi b e1;have:=lt b e;omega) (fun e=>h.p_it b e1 e))
 have di9:=yi.tall di8 c9 (fun b e1 e2=>e2.elim (fun e=>xit b e1 e) (fun e=>by have:=ft b e;have:=li b e1;omega)) (fun b e1 e2=>by have:=j9 b e2;omega)
 have on9:=own_chg (on8) c9 (fun b e1 e2=>e2.elim (fun e=>by have:=fn b e1;have:=lt b e;omega) (fun e=>h.p_nt b e1 e))
 have dn9:=yn.tall dn8 c9 (fun b e1 e2=>e2.elim (fun e=>xnt b e1 e) (fun e=>by have:=ft b e;have:=ln b e1;omega)) (fun b e1 e2=>by have:=j9 b e2;omega)
 have od9:=own_chg (od8) c9 (fun b e1 e2=>e2.elim (fun e=>by have:=fd b e1;have:=lt b e;omega) (fun e=>h.p_td.symm b e1 e))
 have gd9:=FullN.chg gd8 (phN_stays B 3) c9 j9 (fun b e1 e2=>e2.elim (fun e=>(fun c h1 h2=>xtd c h2 h1) b e1 e) (fun e=>by have:=ft b e;have:=ld b e1;omega))
 refine Af<|Aa<|Cw.out<|Ae<|Ab<|Lw.val (Ad O) O<|Al O O (growNode_m A _ ud hd lo base B w9 A9 O (od9) kd.toKOk gd9 (fun e=>nA (ld _ e) O) (fun b e1 e2=>by have:=fd b e1;have:=ld b e2;omega) h.q_d (by omega) (by omega) vd (fun b e=>by have:=fd b e;omega)) ?_
 rintro _ w10 ⟨rfl,c10,td,yd,od10,dd10⟩
 have z10:=c10.size
 have j10:∀b,(blks hd b∨ud.ownBlock=some b)→b<B:=fun b e=>e.elim (vd b) (fun e=>by have:=fd b e;omega)
 have A10:=A9.chg c10 (fun e=>e.elim (fun e=>nA (ld _ e) rfl) (fun e=>h.q_d e))
 have ob10:=own_chg (ob9) c10 (fun b e1 e2=>e2.elim (fun e=>by have:=fb b e1;have:=ld b e;omega) (fun e=>h.p_bd b e1 e))
 have db10:=yb.tall db9 c10 (fun b e1 e2=>e2.elim (fun e=>xbd b e1 e) (fun e=>by have:=fd b e;have:=lb b e1;omega)) (fun b e1 e2=>by have:=j10 b e2;omega)
 have oi10:=own_chg (oi9) c10 (fun b e1 e2=>e2.elim (fun e=>by have:=fi b e1;have:=ld b e;omega) (fun e=>h.p_id b e1 e))
 have di10:=yi.tall di9 c10 (fun b e1 e2=>e2.elim (fun e=>xid b e1 e) (fun e=>by have:=fd b e;have:=li b e1;omega)) (fun b e1 e2=>by have:=j10 b e2;omega)
 have on10:=own_chg (on9) c10 (fun b e1 e2=>e2.elim (fun e=>by have:=fn b e1;have:=ld b e;omega) (fun e=>h.p_nd b e1 e))
 have dn10:=yn.tall dn9 c10 (fun b e1 e2=>e2.elim (fun e=>xnd b e1 e) (fun e=>by have:=fd b e;have:=ln b e1;omega)) (fun b e1 e2=>by have:=j10 b e2;omega)
 have ot10:=own_chg (ot9) c10 (fun b e1 e2=>e2.elim (fun e=>by have:=ft b e1;have:=ld b e;omega) (fun e=>h.p_td b e1 e))
 have dt10:=yt.tallN (phT_stays B 3) dt9 c10 j10 (fun b e1 e2=>e2.elim (fun e=>xtd b e1 e) (fun e=>by have:=fd b e;have:=lt b e1;omega)) (fun b e1 e2=>by have:=j10 b e2;omega)
 refine Af<|Aa<|Cw.out<|Ae<|Ab<|Lw.val (Ad O) O<|Al O O (growStep_c A _ w10 A10 O) ?_
 rintro _ _ ⟨rfl,rfl⟩
 refine Af<|Aa<|Cw.out<|Ae<|Ab<|Lw.val (Ad O) O<|Al O O (growCost_c A _ w10 A10 O) ?_
 rintro _ _ ⟨rfl,rfl⟩
 refine Af<|Aa<|Cw.out<|Ae<|Ab<|Lw.val (Ad O) O<|Al O O (growRecord_c A _ w10 A10 O) ?_
 rintro _ _ ⟨rfl,rfl⟩
 refine Af<|Aa<|Cw.out<|Ae<|Ab<|Lw.val (Ad O) O<|Al O O (growPlace_c A _ w10 A10 O) ?_
 rintro _ _ ⟨rfl,rfl⟩
 refine Af<|Aa<|Cw.out<|Ae<|Ab<|Lw.val (Ad O) O<|Al O O (growAsk_c A _ w10 A10 O) ?_
 rintro _ _ ⟨rfl,rfl⟩
 refine Af<|Aa<|Cw.out<|Ae<|Ab<|Lw.val (Ad O) O<|Al O O (growDone_c A _ w10 A10 O) ?_
 rintro _ _ ⟨rfl,rfl⟩
 refine Af<|Aa<|Cw.out<|Ae<|Ab<|Lw.val (Ad O) O<|Al O O (growGrid_c A _ w10 A10 O) ?_
 rintro _ _ ⟨rfl,rfl⟩
 refine Af<|Aa<|Cw.out<|Ae<|Ab<|Lw.val (Ad O) O<|Al O O (growList_c A _ w10 A10 O) ?_
 rintro _ _ ⟨rfl,rfl⟩
 have bel:Below base w w10:=by
  have e1:∀{S:Nat→Prop} {a b:World},Chg S a b→(∀k,S k→base≤k)→base≤a.heap.size→Below base a b:=fun c h1 h2=>c.to_below h1 h2
  have q1:=e1 c1 (fun k e=>by obtain ⟨x,hx,e⟩:=e;exact ((kb.own x hx).lt k e).1) (by omega)
  have q2:=e1 c2 (fun k e=>by obtain ⟨x,hx,e⟩:=e;exact ((ki.own x hx).lt k e).1) (by omega)
  have q3:=e1 c3 (fun k e=>by obtain ⟨x,hx,e⟩:=e;exact ((kn.own x hx).lt k e).1) (by omega)
  have q4:=e1 c4 (fun k e=>by obtain ⟨x,hx,e⟩:=e;exact ((kt.own x hx).lt k e).1) (by omega)
  have q5:=e1 c5 (fun k e=>by obtain ⟨x,hx,e⟩:=e;exact ((kd.own x hx).lt k e).1) (by omega)
  have q6:=e1 c6 (fun k e=>e.elim (fun e=>by obtain ⟨x,hx,e⟩:=e;exact ((kb.own x hx).lt k e).1) (fun e=>by have:=fb k e;omega)) (by omega)
  have q7:=e1 c7 (fun k e=>e.elim (fun e=>by obtain ⟨x,hx,e⟩:=e;exact ((ki.own x hx).lt k e).1) (fun e=>by have:=fi k e;omega)) (by omega)
  have q8:=e1 c8 (fun k e=>e.elim (fun e=>by obtain ⟨x,hx,e⟩:=e;exact ((kn.own x hx).lt k e).1) (fun e=>by have:=fn k e;omega)) (by omega)
  have q9:=e1 c9 (fun k e=>e.elim (fun e=>by obtain ⟨x,hx,e⟩:=e;exact ((kt.own x hx).lt k e).1) (fun e=>by have:=ft k e;omega)) (by omega)
  have q10:=e1 c10 (fun k e=>e.elim (fun e=>by obtain ⟨x,hx,e⟩:=e;exact ((kd.own x hx).lt k e).1) (fun e=>by have:=fd k e;omega)) (by omega)
  exact (((((((((q1.trans q2).trans q3).trans q4).trans q5).trans q6).trans q7).trans q8).trans q9).trans q10)
 refine Af<|Aa<|Cw.out<|Ae<|Ab<|Lw.val (Ad O) O<|Al O O (lookByte_c A _ ub tb lo w10 A10 O (by rw [yb.len];exact ob10) db10 (yb.nums kb.toKOk)) ?_
 rintro _ w11 ⟨rfl,b11⟩
 have A11:=A10.bs b11
 have ob11:=own_bs (ob10) b11
 have oi11:=own_bs (oi10) b11
 have on11:=own_bs (on10) b11
 have ot11:=own_bs (ot10) b11
 have od11:=own_bs (od10) b11
 have db11:∀t ∈ tb,Tall w11 mkByte t:=fun t ht=>(db10 t ht).bs b11
 have di11:∀t ∈ ti,Tall w11 mkInt t:=fun t ht=>(di10 t ht).bs b11
 have dn11:∀t ∈ tn,Tall w11 mkNumber t:=fun t ht=>(dn10 t ht).bs b11
 have dt11:=fun t (ht:t ∈ tt)=>(dt10 t ht).bs (phT_stays B 3) b11
 have dd11:=fun t (ht:t ∈ td)=>(dd10 t ht).bs (phN_stays B 3) b11
 refine Lw.val (Ad O) O<|Cd 65 (v' := .bool true) O (congrArg Value.bool (rfl))<|Lw.take (dj:=65) O O<|Lw.val (Ad O) O<|Lw.take (dj:=65) O O<|Al O O (lookInt_c A _ ui ti lo w11 A11 O (by rw [yi.len];exact oi11) di11 (yi.nums ki.toKOk)) ?_
 rintro _ w12 ⟨rfl,b12⟩
 have A12:=A11.bs b12
 have ob12:=own_bs (ob11) b12
 have oi12:=own_bs (oi11) b12
 have on12:=own_bs (on11) b12
 have ot12:=own_bs (ot11) b12
 have od12:=own_bs (od11) b12
 have db12:∀t ∈ tb,Tall w12 mkByte t:=fun t ht=>(db11 t ht).bs b12
 have di12:∀t ∈ ti,Tall w12 mkInt t:=fun t ht=>(di11 t ht).bs b12
 have dn12:∀t ∈ tn,Tall w12 mkNumber t:=fun t ht=>(dn11 t ht).bs b12
 have dt12:=fun t (ht:t ∈ tt)=>(dt11 t ht).bs (phT_stays B 3) b12
 have dd12:=fun t (ht:t ∈ td)=>(dd11 t ht).bs (phN_stays B 3) b12
 refine Lw.val (As O O) O<|Lw.val (Ad O) O<|Cd 69 (v' := .bool true) O (congrArg Value.bool (rfl))<|Lw.take (dj:=69) O O<|Lw.val (Ad O) O<|Lw.take (dj:=69) O O<|Al O O (lookNumber_c A _ un tn lo w12 A12 O (by rw [yn.len];exact on12) dn12 (yn.nums kn.toKOk)) ?_
 rintro _ w13 ⟨rfl,b13⟩
 have A13:=A12.bs b13
 have ob13:=own_bs (ob12) b13
 have oi13:=own_bs (oi12) b13
 have on13:=own_bs (on12) b13
 have ot13:=own_bs (ot12) b13
 have od13:=own_bs (od12) b13
 have db13:∀t ∈ tb,Tall w13 mkByte t:=fun t ht=>(db12 t ht).bs b13
 have di13:∀t ∈ ti,Tall w13 mkInt t:=fun t ht=>(di12 t ht).bs b13
 have dn13:∀t ∈ tn,Tall w13 mkNumber t:=fun t ht=>(dn12 t ht).bs b13
 have dt13:=fun t (ht:t ∈ tt)=>(dt12 t ht).bs (phT_stays B 3) b13
 have dd13:=fun t (ht:t ∈ td)=>(dd12 t ht).bs (phN_stays B 3) b13
 refine Lw.val (As O O) O<|Lw.val (Ad O) O<|Cd 73 (v' := .bool true) O (congrArg Value.bool (rfl))<|Lw.take (dj:=73) O O<|Lw.val (Ad O) O<|Lw.take (dj:=73) O O<|Al O O (lookId_c A _ w13 A13 O) ?_
 rintro _ _ ⟨rfl,rfl⟩
 refine Lw.val (As O O) O<|Lw.val (Ad O) O<|Cd 77 (v' := .bool true) O (congrArg Value.bool (rfl))<|Lw.take (dj:=77) O O<|Lw.val (Ad O) O<|Lw.take (dj:=77) O O<|Al O O (lookText_c A _ w13 A13 O) ?_
 rintro _ _ ⟨rfl,rfl⟩
 refine Lw.val (As O O) O<|Lw.val (Ad O) O<|Cd 81 (v' := .bool true) O (congrArg Value.bool (rfl))<|Lw.take (dj:=81) O O<|Lw.val (Ad O) O<|Lw.take (dj:=81) O O<|Al O O (lookTensor_m A _ ut tt lo B w13 A13 O (by rw [yt.len];exact ot13) dt13 (yt.nums kt.toKOk)) ?_
 rintro _ w14 ⟨rfl,b14⟩
 have A14:=A13.bs b14
 have ob14:=own_bs (ob13) b14
 have oi14:=own_bs (oi13) b14
 have on14:=own_bs (on13) b14
 have ot14:=own_bs (ot13) b14
 have od14:=own_bs (od13) b14
 have db14:∀t ∈ tb,Tall w14 mkByte t:=fun t ht=>(db13 t ht).bs b14
 have di14:∀t ∈ ti,Tall w14 mkInt t:=fun t ht=>(di13 t ht).bs b14
 have dn14:∀t ∈ tn,Tall w14 mkNumber t:=fun t ht=>(dn13 t ht).bs b14
 have dt14:=fun t (ht:t ∈ tt)=>(dt13 t ht).bs (phT_stays B 3) b14
 have dd14:=fun t (ht:t ∈ td)=>(dd13 t ht).bs (phN_stays B 3) b14
 refine Lw.val (As O O) O<|Lw.val (Ad O) O<|Cd 85 (v' := .bool true) O (congrArg Value.bool (rfl))<|Lw.take (dj:=85) O O<|Lw.val (Ad O) O<|Lw.take (dj:=85) O O<|Al O O (lookNode_m A _ ud td lo B w14 A14 O (by rw [yd.len];exact od14) dd14 (yd.nums kd.toKOk)) ?_
 rintro _ w15 ⟨rfl,b15⟩
 have A15:=A14.bs b15
 have ob15:=own_bs (ob14) b15
 have oi15:=own_bs (oi14) b15
 have on15:=own_bs (on14) b15
 have ot15:=own_bs (ot14) b15
 have od15:=own_bs (od14) b15
 have db15:∀t ∈ tb,Tall w15 mkByte t:=fun t ht=>(db14 t ht).bs b15
 have di15:∀t ∈ ti,Tall w15 mkInt t:=fun t ht=>(di14 t ht).bs b15
 have dn15:∀t ∈ tn,Tall w15 mkNumber t:=fun t ht=>(dn14 t ht).bs b15
 have dt15:=fun t (ht:t ∈ tt)=>(dt14 t ht).bs (phT_stays B 3) b15
 have dd15:=fun t (ht:t ∈ td)=>(dd14 t ht).bs (phN_stays B 3) b15
 refine Lw.val (As O O) O<|Lw.val (Ad O) O<|Cd 89 (v' := .bool true) O (congrArg Value.bool (rfl))<|Lw.take (dj:=89) O O<|Lw.val (Ad O) O<|Lw.take (dj:=89) O O<|Al O O (lookStep_c A _ w15 A15 O) ?_
 rintro _ _ ⟨rfl,rfl⟩
 refine Lw.val (As O O) O<|Lw.val (Ad O) O<|Cd 93 (v' := .bool true) O (congrArg Value.bool (rfl))<|Lw.take (dj:=93) O O<|Lw.val (Ad O) O<|Lw.take (dj:=93) O O<|Al O O (lookCost_c A _ w15 A15 O) ?_
 rintro _ _ ⟨rfl,rfl⟩
 refine Lw.val (As O O) O<|Lw.val (Ad O) O<|Cd 97 (v' := .bool true) O (congrArg Value.bool (rfl))<|Lw.take (dj:=97) O O<|Lw.val (Ad O) O<|Lw.take (dj:=97) O O<|Al O O (lookRecord_c A _ w15 A15 O) ?_
 rintro _ _ ⟨rfl,rfl⟩
 refine Lw.val (As O O) O<|Lw.val (Ad O) O<|Cd 101 (v' := .bool true) O (congrArg Value.bool (rfl))<|Lw.take (dj:=101) O O<|Lw.val (Ad O) O<|Lw.take (dj:=101) O O<|Al O O (lookPlace_c A _ w15 A15 O) ?_
 rintro _ _ ⟨rfl,rfl⟩
 refine Lw.val (As O O) O<|Lw.val (Ad O) O<|Cd 105 (v' := .bool true) O (congrArg Value.bool (rfl))<|Lw.take (dj:=105) O O<|Lw.val (Ad O) O<|Lw.take (dj:=105) O O<|Al O O (lookAsk_c A _ w15 A15 O) ?_
 rintro _ _ ⟨rfl,rfl⟩
 refine Lw.val (As O O) O<|Lw.val (Ad O) O<|Cd 109 (v' := .bool true) O (congrArg Value.bool (rfl))<|Lw.take (dj:=109) O O<|Lw.val (Ad O) O<|Lw.take (dj:=109) O O<|Al O O (lookDone_c A _ w15 A15 O) ?_
 rintro _ _ ⟨rfl,rfl⟩
 refine Lw.val (As O O) O<|Lw.val (Ad O) O<|Cd 113 (v' := .bool true) O (congrArg Value.bool (rfl))<|Lw.take (dj:=113) O O<|Lw.val (Ad O) O<|Lw.take (dj:=113) O O<|Al O O (lookGrid_c A _ w15 A15 O) ?_
 rintro _ _ ⟨rfl,rfl⟩
 refine Lw.val (As O O) O<|Lw.val (Ad O) O<|Cd 117 (v' := .bool true) O (congrArg Value.bool (rfl))<|Lw.take (dj:=117) O O<|Lw.val (Ad O) O<|Lw.take (dj:=117) O O<|Al O O (lookList_c A _ w15 A15 O) ?_
 rintro _ _ ⟨rfl,rfl⟩
 refine Lw.val (As O O) O<|Lw.val (Ac O) O<|Af<|Aa<|Cw.out<|An<|Bb O O ?_
 have bel2:=bt b11 (bt b12 (bt b13 (bt b14 (b15))))
 exact ⟨rfl,bel.trans (bel2.mono (by omega))⟩
end Go.Proofs.YtmipoeanpnnjoaaGreatDoor

/-! What a book keeps of a tensor and of a node (five kinds of lists). -/
namespace Go.Proofs.YtmipoeanpnnjoaaGreatDoor
open Go Go.Dd Go.RowKit
set_option maxRecDepth 100000

theorem bookTensor_m (w:World) (lo A:Nat) (n:Int) (hb hi hn ht hd:List Hd) (ub ui un ut ud x y:Value) (k m:Nat) (xs ys:List Value) (h:Bm w lo A n hb hi hn ht hd ub ui un ut ud) (hx:Sl w 1 x k xs) (hy:Sl w 1 y m ys) (hyl:∀b,y.ownBlock=some b→b<lo) (hf:n≤3999990):
  Fnc Tryz.prog 16 [.pointer (some ⟨A,0,none⟩), .agg #[x,y]] w (fun r w' =>r= .tuple #[]∧Below lo w w' ∧∃ui' un',Bm w' lo A (n+2) hb (hi++[newHdM x k xs (n+1)]) (hn++[newHdM y m ys (n+2)]) ht hd ub ui' un' ut ud):=by
 refine Ap (n:=12) Tryz.func16 (by kernel_rfl) O O O<|Ae<|Ab<|Bl (Xw.box (cs:=[x,y]) O O) O ?_
 rintro _ w1 ⟨rfl,b,hn1,hz1⟩
 have h1:=h.bs hn1
 have hs:=h.size
 have hsA:=blk_lt h.box
 have hsi:=own_block h.oi
 refine Af<|Aa<|Cw.out<|Ae<|Ab<|Lw.val (Ad O) O<|Lw.val (Ag (q:=0) Tryz.underlying33 O (sz_23 _) O) O<|Lw.val (Aj (ag_23 _) O (by assumption) O) O ?_
 refine Al O O (bookInts_m w1 lo A n hb hi hn ht hd ub ui un ut ud x k xs h1 (hx.bs hn1) (by omega)) ?_
 rintro _ w2 ⟨rfl,c2,ui',h2⟩
 have l2:=h1.low (fun b e=>(own_block h1.oi b e).1) c2
 have hy2:Sl w2 1 y m ys:=(hy.bs hn1).keep fun b _ e=>l2.block b (hyl b e)
 have b2:=b.chg c2 (fun e=>by
  rcases e with e|e
  ·omega
  ·have:=(hsi _ e).2;omega)
 refine Af<|Aa<|Cw.out<|Ab<|Lw.val (Ad O) O<|Lw.val (Ag (q:=0) Tryz.underlying33 O (sz_31 _) O) O<|Lw.val (Aj (ag_31 _) O (by assumption) O) O ?_
 refine Al O O (bookNumbers_m w2 lo A (n+1) hb _ hn ht hd ub ui' un ut ud y m ys h2 hy2 (by omega)) ?_
 rintro _ w3 ⟨rfl,c3,un',h3⟩
 have l3:=h2.low (fun b e=>(own_block h2.on b e).1) c3
 have e2:n+1+1=n+2:=by omega
 rw [e2] at h3
 refine Af<|Cf O ?_
 exact ⟨rfl,((hn1.mono (Nat.le_of_lt hs)).trans l2).trans l3,ui',un',h3⟩
theorem bookNode_m (w:World) (lo A:Nat) (n:Int) (hb hi hn ht hd:List Hd) (ub ui un ut ud a x y c d:Value) (k m:Nat) (xs ys:List Value) (h:Bm w lo A n hb hi hn ht hd ub ui un ut ud) (hx:Sl w 1 x k xs) (hy:Sl w 1 y m ys) (hyl:∀b,y.ownBlock=some b→b<lo) (hf:n≤3999990):
  Fnc Tryz.prog 14 [.pointer (some ⟨A,0,none⟩), .agg #[a,x,y,c,d]] w (fun r w' =>r= .tuple #[]∧Below lo w w' ∧∃ui',Bm w' lo A (n+2) hb (hi++[newHdM x k xs (n+1),newHdM y m ys (n+2)]) hn ht hd ub ui' un ut ud):=by
 refine Ap (n:=12) Tryz.func14 (by kernel_rfl) O O O<|Ae<|Ab<|Bl (Xw.box (cs:=[a,x,y,c,d]) O O) O ?_
 rintro _ w1 ⟨rfl,b,hn1,hz1⟩
 have h1:=h.bs hn1
 have hs:=h.size
 have hsA:=blk_lt h.box
 have hsi:=own_block h.oi
 refine Af<|Aa<|Cw.out<|Ae<|Ab<|Lw.val (Ad O) O<|Lw.val (Ag (q:=0) Tryz.underlying25 O (sz_23 _) O) O<|Lw.val (Aj (ag_23 _) O (by assumption) O) O ?_
 refine Al O O (bookInts_m w1 lo A n hb hi hn ht hd ub ui un ut ud x k xs h1 (hx.bs hn1) (by omega)) ?_
 rintro _ w2 ⟨rfl,c2,ui',h2⟩
 have l2:=h1.low (fun b e=>(own_block h1.oi b e).1) c2
 have hy2:Sl w2 1 y m ys:=(hy.bs hn1).keep fun b _ e=>l2.block b (hyl b e)
 have b2:=b.chg c2 (fun e=>by
  rcases e with e|e
  ·omega
  ·have:=(hsi _ e).2;omega)
 refine Af<|Aa<|Cw.out<|Ab<|Lw.val (Ad O) O<|Lw.val (Ag (q:=0) Tryz.underlying25 O (sz_23 _) O) O<|Lw.val (Aj (ag_23 _) O (by assumption) O) O ?_
 refine Al O O (bookInts_m w2 lo A (n+1) hb _ hn ht hd ub ui' un ut ud y m ys h2 hy2 (by omega)) ?_
 rintro _ w3 ⟨rfl,c3,ui'',h3⟩
 have l3:=h2.low (fun b e=>(own_block h2.oi b e).1) c3
 have e2:n+1+1=n+2:=by omega
 rw [e2,List.append_assoc] at h3
 refine Af<|Cf O ?_
 exact ⟨rfl,((hn1.mono (Nat.le_of_lt hs)).trans l2).trans l3,ui'',h3⟩
end Go.Proofs.YtmipoeanpnnjoaaGreatDoor

/-! What a book keeps of a list of tensors. -/
namespace Go.Proofs.YtmipoeanpnnjoaaGreatDoor
open Go Go.Dd Go.RowKit
set_option maxRecDepth 100000

def hmI (n:Int):List T4→List Hd
 |[]=>[]
 |t::ts=>newHdM t.x t.s.length (t.s.map (Value.int .i64)) (n+1)::hmI (n+2) ts
def hmN (n:Int):List T4→List Hd
 |[]=>[]
 |t::ts=>newHdM t.y t.l.length (t.l.map i32) (n+2)::hmN (n+2) ts
theorem hmI_snoc (t:T4):∀(ts:List T4) (n:Int),hmI n (ts++[t])=hmI n ts++[newHdM t.x t.s.length (t.s.map (Value.int .i64)) (n+2*ts.length+1)]
 |[],n=>by simp [hmI]
 |a::ts,n=>by
  simp only [List.cons_append,hmI,hmI_snoc t ts (n+2),List.length_cons]
  rw [show n+2+2*(ts.length:Int)+1=n+2*((ts.length+1:Nat):Int)+1 by omega]
theorem hmN_snoc (t:T4):∀(ts:List T4) (n:Int),hmN n (ts++[t])=hmN n ts++[newHdM t.y t.l.length (t.l.map i32) (n+2*ts.length+2)]
 |[],n=>by simp [hmN]
 |a::ts,n=>by
  simp only [List.cons_append,hmN,hmN_snoc t ts (n+2),List.length_cons]
  rw [show n+2+2*(ts.length:Int)+2=n+2*((ts.length+1:Nat):Int)+2 by omega]
/-- A tensor's lists lie below a block. -/
def T4.low (lo:Nat) (t:T4):Prop:=(∀b,t.x.ownBlock=some b→b<lo)∧∀b,t.y.ownBlock=some b→b<lo
theorem sl_low {w w' :World} {lo sz n:Nat} {v:Value} {xs:List Value} (h:Sl w sz v n xs) (hv:∀b,v.ownBlock=some b→b<lo) (g:Below lo w w'):Sl w' sz v n xs:=h.keep fun b _ e=>g.block b (hv b e)
/-- (Tens of MovesJoin, without its imports.) -/
def TensB (w:World) (v:Value) (ts:List T4):Prop:=Sl w 2 v ts.length (cellsOf ts)∧∀t ∈ ts,t.at w
theorem tens_low {w w' :World} {lo:Nat} {v:Value} {ts:List T4} (h:TensB w v ts) (hv:∀b,v.ownBlock=some b→b<lo) (ht:∀t ∈ ts,t.low lo) (g:Below lo w w'):TensB w' v ts:=
 ⟨sl_low h.1 hv g,fun t m=>⟨sl_low (h.2 t m).1 (ht t m).1 g,sl_low (h.2 t m).2 (ht t m).2 g⟩⟩
theorem ten_cellsB {ts:List T4} {j:Nat} (h:j<ts.length):∀i,i<2→∃q,[ts[j].x,ts[j].y][i]? =some q∧(cellsOf ts)[j*2+i]? =some q:=fun i hi=>by
 obtain ⟨h1,h2⟩:=cells_at h
 rcases (show i=0∨i=1 by omega) with rfl|rfl
 ·exact ⟨_,rfl,h1⟩
 ·exact ⟨_,rfl,h2⟩
theorem bookTensors_m (w:World) (lo A:Nat) (n:Int) (hb hi hn ht hd:List Hd) (ub ui un ut ud v:Value) (ts:List T4) (h:Bm w lo A n hb hi hn ht hd ub ui un ut ud) (hv:TensB w v ts) (hvl:∀b,v.ownBlock=some b→b<lo) (hlow:∀t ∈ ts,t.low lo) (hf:n+2*ts.length≤3999980):
  Fnc Tryz.prog 15 [.pointer (some ⟨A,0,none⟩),v] w (fun r w' =>r= .tuple #[]∧Below lo w w' ∧∃ui' un' ut',Bm w' lo A (n+2*ts.length+1) hb (hi++hmI n ts) (hn++hmN n ts) (ht++[newHdM v ts.length (cellsOf ts) (n+2*ts.length+1)]) hd ub ui' un' ut' ud):=by
 have sv:=hv.1
 have hnn:=h.many
 refine Ap (n:=20) Tryz.func15 (by kernel_rfl) O O O<|Ae<|Ae<|Ab<|Lw.val (Ac O) O<|Af<|Aa<|Cw.out<|Cw.block ?_
 refine Bj (S:=(Nat×Value×Value)) (fun z=>[(0, .pointer (some ⟨A,0,none⟩)),(1,v),(4, .int .i64 (z.1:Int))]) (fun z w' =>z.1≤ts.length∧Below lo w w' ∧Bm w' lo A (n+2*z.1) hb (hi++hmI n (ts.take z.1)) (hn++hmN n (ts.take z.1)) ht hd ub z.2.1 z.2.2 ut ud) (fun z=>ts.length - z.1) ((0,ui,un)) ⟨rfl,rfl,rfl,trivial⟩ ?_ ?_
 ·exact ⟨Nat.zero_le _,Below.refl _ _,by simpa [hmI,hmN] using h⟩
 rintro ⟨i,vi,vn⟩ w2 ⟨hi',hB,hK⟩
 dsimp only at hi' hK ⊢
 have hv2:=tens_low hv hvl hlow hB
 have sv2:=hv2.1
 refine Ae<|Ae<|Ab<|Lw.val (Ad O) O<|Lw.val (Ad O) O<|Lw.val (Av st_26 O (by assumption)) O ?_
 refine Lw.val (Bh O O) O<|Af<|Aa<|Cw.out<|Au O ?_ ?_
 ·intro g
  have hlt:i<ts.length:=by have:=of_decide_eq_true g;omega
  obtain ⟨a,ha⟩:∃a,a=ts[i]:=⟨_,rfl⟩
  have ham:a ∈ ts:=ha ▸ List.getElem_mem hlt
  have hac:=ten_cellsB hlt
  rw [← ha] at hac
  have haw:=hv2.2 a ham
  refine Aq<|Aa<|Cw.out<|Ae<|Cw.block<|Ab<|Lw.val (Ad O) O<|Lw.val (Ad O) O<|Lw.val (Ad O) O<|Lw.val (Bz st_26 O O sv2 i O hlt) O<|Lw.val (Cc (cs:=[a.x,a.y]) (ag_33 _) (sz_33 _) O sv2 O (by decide) hac) O<|Al O O (bookTensor_m w2 lo A (n+2*i) hb _ _ ht hd ub vi vn ut ud a.x a.y a.s.length a.l.length _ _ hK haw.1 haw.2 (hlow a ham).2 (by omega)) ?_
  rintro _ w3 ⟨rfl,hl3,vi',vn',hK3⟩
  have eI:hi++hmI n (ts.take (i+1))=hi++hmI n (ts.take i)++[newHdM a.x a.s.length (a.s.map (Value.int .i64)) (n+2*i+1)]:=by
   rw [List.take_succ_eq_append_getElem hlt,hmI_snoc,← ha,List.length_take,Nat.min_eq_left (by omega),List.append_assoc]
  have eN:hn++hmN n (ts.take (i+1))=hn++hmN n (ts.take i)++[newHdM a.y a.l.length (a.l.map i32) (n+2*i+2)]:=by
   rw [List.take_succ_eq_append_getElem hlt,hmN_snoc,← ha,List.length_take,Nat.min_eq_left (by omega),List.append_assoc]
  have eK:n+2*(i:Int)+2=n+2*((i+1:Nat):Int):=by omega
  rw [← eI,← eN,eK] at hK3
  refine Af<|Bo<|Aa<|Cw.out<|Ab<|Lw.val (Ad O) O<|Lw.val (Bc O O (by omega)) O<|Lw.val (Ac O) O<|Af ?_
  exact Aa (Bq ((i+1,vi',vn')) ⟨rfl,rfl,rfl,trivial⟩ (⟨hlt,hB.trans hl3,hK3⟩) (by simp only;omega))
 intro g
 have hlt:i=ts.length:=by have:=of_decide_eq_false g;omega
 subst hlt
 rw [List.take_length] at hK
 refine Bi<|Am<|Am<|Az<|Aa<|Cw.out<|Ab<|Lw.val (Ad O) O<|Lw.val (Ad O) O<|Al O O (bkeepTensor_m w2 lo A (n+2*ts.length) hb _ _ ht hd ub vi vn ut ud v ts.length (cellsOf ts) hK sv2 (by omega)) ?_
 rintro _ w3 ⟨rfl,hc,ut',hK3⟩
 have l3:=hK.low (fun b e=>(own_block hK.ot b e).1) hc
 refine Af<|Cf O ?_
 exact ⟨rfl,hB.trans l3,vi,vn,ut',hK3⟩
end Go.Proofs.YtmipoeanpnnjoaaGreatDoor

/-! Contracts: what a book keeps, and whether all that it keeps is apart. Printed by a program of ours. -/
namespace Go.Proofs.YtmipoeanpnnjoaaGreatDoor
open Go Go.Dd Go.RowKit
set_option maxRecDepth 100000

end Go.Proofs.YtmipoeanpnnjoaaGreatDoor

/-! Tensors that a book keeps; a tensor against its twin. -/
namespace Go.Proofs.YtmipoeanpnnjoaaGreatDoor
open Go Go.Dd Go.RowKit
set_option maxRecDepth 100000

/-- A tensor in memory of its own, between two bounds. -/
structure Held (w:World) (lo hi:Nat) (c:T4):Prop where
 rx:KRow w lo 3 1 c.x c.s.length (c.s.map (Value.int .i64))
 ry:KRow w lo 21 1 c.y c.l.length (c.l.map i32)
 bx:∀b,c.x.ownBlock=some b→lo≤b∧b<hi
 by' :∀b,c.y.ownBlock=some b→lo≤b∧b<hi
 apart:Apt c.y c.x
theorem Held.bs {w w' :World} {lo hi:Nat} {c:T4} (h:Held w lo hi c) (g:Below w.heap.size w w'):Held w' lo hi c:=⟨h.rx.bs g,h.ry.bs g,h.bx,h.by',h.apart⟩
theorem Held.below {w w' :World} {lo hi B:Nat} {c:T4} (h:Held w lo hi c) (g:Below B w w') (hB:hi≤B):Held w' lo hi c:=
 ⟨h.rx.heap fun b e=>g.block b (by have:=h.bx b e;omega),h.ry.heap fun b e=>g.block b (by have:=h.by' b e;omega),h.bx,h.by',h.apart⟩
theorem Held.at {w:World} {lo hi:Nat} {c:T4} (h:Held w lo hi c):c.at w:=⟨h.rx.slT,h.ry.slT⟩
theorem Held.wide {w:World} {lo hi lo' hi' :Nat} {c:T4} (h:Held w lo hi c) (h1:lo' ≤lo) (h2:hi≤hi'):Held w lo' hi' c:=
 ⟨h.rx.mono h1,h.ry.mono h1,fun b e=>by have:=h.bx b e;omega,fun b e=>by have:=h.by' b e;omega,h.apart⟩
theorem held_nil (w:World) (lo hi:Nat):Held w lo hi ⟨.slice none 0 0, .slice none 0 0,[],[]⟩:=
 ⟨.inl ⟨rfl, .inl ⟨rfl,rfl⟩⟩, .inl ⟨rfl, .inl ⟨rfl,rfl⟩⟩,(fun b e=>by cases e),(fun b e=>by cases e),(fun b e=>by cases e)⟩
/-- Tensors, one behind the other in memory. -/
def Heldall (w:World):Nat→Nat→List T4→Prop
 |base,top,[]=>base≤top
 |base,top,c::cs=>∃lo hi,base≤lo∧lo≤hi∧Held w lo hi c∧Heldall w hi top cs
theorem Heldall.le:∀{w:World} {cs:List T4} {base top:Nat},Heldall w base top cs→base≤top
 |_,[],_,_,h=>h
 |_,_::_,_,_,⟨_,_,h1,h2,_,h3⟩=>by have:=h3.le;omega
theorem Heldall.bs {w w' :World} (g:Below w.heap.size w w'):∀{cs:List T4} {base top:Nat},Heldall w base top cs→Heldall w' base top cs
 |[],_,_,h=>h
 |_::_,_,_,⟨lo,hi,h1,h2,h3,h4⟩=>⟨lo,hi,h1,h2,h3.bs g,Heldall.bs g h4⟩
/-- An answer: a tensor in memory of its own, or none. -/
def Gives (W w:World) (r:Value) (e:Int) (s:List Int) (l:List (BitVec 32)):Prop:=
 ∃c:T4,r= .tuple #[c.v, .int .i64 e]∧Held w W.heap.size w.heap.size c∧(e≠0→c.s=[]∧c.l=[])∧(e=0→c.s=s∧c.l=l)

/-- A tensor's twin, with the room behind it. -/
structure TwinT (w:World) (lo hi:Nat) (x y:Value) (a:T4):Prop where
 held:Held w lo hi ⟨x,y,a.s,a.l⟩
 tx:Twn w lo 3 (Value.int .i64) (Value.int .i64 (77)) x a.s
 ty:Twn w lo 21 i32 (i32 (77#32)) y a.l
theorem TwinT.bs {w w' :World} {lo hi:Nat} {x y:Value} {a:T4} (h:TwinT w lo hi x y a) (g:Below w.heap.size w w'):TwinT w' lo hi x y a:=⟨h.held.bs g,h.tx.bs g,h.ty.bs g⟩
theorem Twn.mono {α:Type} {w:World} {B B' :Nat} {T:TypeId} {enc:α→Value} {mark v:Value} {l:List α} (h:Twn w B T enc mark v l) (hb:B' ≤B):Twn w B' T enc mark v l:=by
 obtain ⟨b,cap,rfl,ho⟩:=h
 exact ⟨b,cap,rfl,own_mono ho hb⟩
theorem Twn.by {α:Type} {w w' :World} {B r:Nat} {T:TypeId} {enc:α→Value} {mark v:Value} {l:List α} (h:Twn w B T enc mark v l) (hg:w.grownBy w' (some r)) (hr:r<B):Twn w' B T enc mark v l:=by
 obtain ⟨b,cap,rfl,ho⟩:=h
 exact ⟨b,cap,rfl,ho.kept hg (.inr fun e=>by have:=(own_block ho r e).1;omega)⟩
theorem twin2_c (a:T4) (w:World) (ha:a.at w) (hs:a.s.length≤4194304) (hl:a.l.length≤4194304):
  Fnc Tryz.prog 20 [a.v] w (fun r w' =>Below w.heap.size w w' ∧∃x y,r= .agg #[x,y]∧TwinT w' w.heap.size w'.heap.size x y a):=by
 have hB:=Below.refl w.heap.size w
 refine Ap (n:=10) Tryz.func20 (by kernel_rfl) O O O<|Ae<|Ab<|Bl (Xw.box (cs:=[a.x,a.y]) O O) O ?_
 rintro _ w1 ⟨rfl,b,hn, -⟩
 replace hB:=hB.bs hn
 replace ha:=ha.bs hn
 clear hn
 have z1:=below_size hB
 refine Bl (Xw.new it_33) O ?_
 rintro _ w2 ⟨rfl,c,hn,hs2⟩
 replace hB:=hB.bs hn
 replace ha:=ha.bs hn
 replace b:=b.bs hn
 clear hn
 refine Af<|Aa<|Cw.out<|Ae ?_
 refine Cw.any mixed (fun w3 hd _=> ?_)
 replace hB:=hB.bs hd
 replace ha:=ha.bs hd
 replace b:=b.bs hd
 replace c:=c.bs hd
 clear hd
 refine Aw.take (i:=0) (Ah Ar) O (by kernel_rfl) (by kernel_rfl) (by kernel_rfl) (fun _=>Ag (q:=0) Tryz.underlying33 O (sz_23 _) O) O<|Aw.take (i:=3) (Ah Ar) O (by kernel_rfl) (by kernel_rfl) (by kernel_rfl) (fun _=>Ag (q:=0) Tryz.underlying33 O (sz_31 _) O) O ?_
 have z0:=below_size hB
 have z3:w1.heap.size<w3.heap.size:=blk_lt c
 refine Aw.two (i:=1) (j:=4) (by kernel_rfl) O O ?_ ?_
 ·refine Lw.val (Aj (ag_23 _) O (by assumption) O) O ?_
  refine Aw.back ?_
  refine Aw.two (i:=2) (j:=4) (by kernel_rfl) O O ?_ ?_
  ·refine Al O O (twinInts_c a.x a.s w3 ha.1 hs) ?_
   rintro x w4 ⟨hx,hn⟩
   have hxb:=own_block hx.own
   have z4:=hn.size
   replace hB:=hB.bs hn
   replace ha:=ha.bs hn
   replace b:=b.bs hn
   replace c:=c.bs hn
   clear hn
   refine Aw.back<|Aw.only (i:=4) (by kernel_rfl) O<|Lw.val (Aj (ag_31 _) O (by assumption) O) O ?_
   refine Aw.back<|Aw.only (i:=5) (by kernel_rfl) O<|Al O O (twinNumbers_c a.y a.l w4 ha.2 hl) ?_
   rintro y w5 ⟨hy,hn⟩
   have hyb:=own_block hy.own
   have z5:=hn.size
   replace hB:=hB.bs hn
   replace ha:=ha.bs hn
   replace b:=b.bs hn
   replace c:=c.bs hn
   replace hx:=hx.bs hn
   clear hn
   refine Aw.back<|Aw.only (i:=6) (by kernel_rfl) O<|Lw.val (Bn (vs:=[(0,x),(1,y)]) (cs:=[x,y]) O (bt_ten _ _ hx.sl.one hy.sl.one)) O<|Aw.back<|Aw.only (i:=7) (by kernel_rfl) O<|Ay (Bp (cs:=[x,y]) O O O O (by simp [hx.sl.one',hy.sl.one']) c O) ?_
   rintro w6 ⟨c6,hg, -⟩
   have hB6:=hB.grown hg (below_size hB) (by rintro _ ⟨⟩;exact z1)
   have z6:=hg.size
   have hx6:=Twn.mono (Twn.by hx hg (by omega)) z0
   have hy6:=Twn.mono (Twn.by hy hg (by omega)) (show w.heap.size≤w4.heap.size by omega)
   refine Aw.back<|C1 (by kernel_rfl)<|Aa<|Cw.out<|An<|Pw.retC O O (by assumption) (Tryz.underlying33) O O O ?_
   exact ⟨hB6,x,y,rfl,⟨.inl hx6.own, .inl hy6.own,fun b e=>by have:=hxb b e;omega,fun b e=>by have:=hyb b e;omega,fun b e1 e2=>by have:=hxb b e2;have:=hyb b e1;omega⟩,hx6,hy6⟩
  ·refine Lw.val (Aj (ag_31 _) O (by assumption) O) O ?_
   refine Aw.back<|Aw.only (i:=2) (by kernel_rfl) O<|Al O O (twinInts_c a.x a.s w3 ha.1 hs) ?_
   rintro x w4 ⟨hx,hn⟩
   have hxb:=own_block hx.own
   have z4:=hn.size
   replace hB:=hB.bs hn
   replace ha:=ha.bs hn
   replace b:=b.bs hn
   replace c:=c.bs hn
   clear hn
   refine Aw.back<|Aw.only (i:=5) (by kernel_rfl) O<|Al O O (twinNumbers_c a.y a.l w4 ha.2 hl) ?_
   rintro y w5 ⟨hy,hn⟩
   have hyb:=own_block hy.own
   have z5:=hn.size
   replace hB:=hB.bs hn
   replace ha:=ha.bs hn
   replace b:=b.bs hn
   replace c:=c.bs hn
   replace hx:=hx.bs hn
   clear hn
   refine Aw.back<|Aw.only (i:=6) (by kernel_rfl) O<|Lw.val (Bn (vs:=[(0,x),(1,y)]) (cs:=[x,y]) O (bt_ten _ _ hx.sl.one hy.sl.one)) O<|Aw.back<|Aw.only (i:=7) (by kernel_rfl) O<|Ay (Bp (cs:=[x,y]) O O O O (by simp [hx.sl.one',hy.sl.one']) c O) ?_
   rintro w6 ⟨c6,hg, -⟩
   have hB6:=hB.grown hg (below_size hB) (by rintro _ ⟨⟩;exact z1)
   have z6:=hg.size
   have hx6:=Twn.mono (Twn.by hx hg (by omega)) z0
   have hy6:=Twn.mono (Twn.by hy hg (by omega)) (show w.heap.size≤w4.heap.size by omega)
   refine Aw.back<|C1 (by kernel_rfl)<|Aa<|Cw.out<|An<|Pw.retC O O (by assumption) (Tryz.underlying33) O O O ?_
   exact ⟨hB6,x,y,rfl,⟨.inl hx6.own, .inl hy6.own,fun b e=>by have:=hxb b e;omega,fun b e=>by have:=hyb b e;omega,fun b e1 e2=>by have:=hxb b e2;have:=hyb b e1;omega⟩,hx6,hy6⟩
 ·refine Lw.val (Aj (ag_31 _) O (by assumption) O) O ?_
  refine Aw.back<|Aw.only (i:=1) (by kernel_rfl) O<|Lw.val (Aj (ag_23 _) O (by assumption) O) O ?_
  refine Aw.back<|Aw.only (i:=2) (by kernel_rfl) O<|Al O O (twinInts_c a.x a.s w3 ha.1 hs) ?_
  rintro x w4 ⟨hx,hn⟩
  have hxb:=own_block hx.own
  have z4:=hn.size
  replace hB:=hB.bs hn
  replace ha:=ha.bs hn
  replace b:=b.bs hn
  replace c:=c.bs hn
  clear hn
  refine Aw.back<|Aw.only (i:=5) (by kernel_rfl) O<|Al O O (twinNumbers_c a.y a.l w4 ha.2 hl) ?_
  rintro y w5 ⟨hy,hn⟩
  have hyb:=own_block hy.own
  have z5:=hn.size
  replace hB:=hB.bs hn
  replace ha:=ha.bs hn
  replace b:=b.bs hn
  replace c:=c.bs hn
  replace hx:=hx.bs hn
  clear hn
  refine Aw.back<|Aw.only (i:=6) (by kernel_rfl) O<|Lw.val (Bn (vs:=[(0,x),(1,y)]) (cs:=[x,y]) O (bt_ten _ _ hx.sl.one hy.sl.one)) O<|Aw.back<|Aw.only (i:=7) (by kernel_rfl) O<|Ay (Bp (cs:=[x,y]) O O O O (by simp [hx.sl.one',hy.sl.one']) c O) ?_
  rintro w6 ⟨c6,hg, -⟩
  have hB6:=hB.grown hg (below_size hB) (by rintro _ ⟨⟩;exact z1)
  have z6:=hg.size
  have hx6:=Twn.mono (Twn.by hx hg (by omega)) z0
  have hy6:=Twn.mono (Twn.by hy hg (by omega)) (show w.heap.size≤w4.heap.size by omega)
  refine Aw.back<|C1 (by kernel_rfl)<|Aa<|Cw.out<|An<|Pw.retC O O (by assumption) (Tryz.underlying33) O O O ?_
  exact ⟨hB6,x,y,rfl,⟨.inl hx6.own, .inl hy6.own,fun b e=>by have:=hxb b e;omega,fun b e=>by have:=hyb b e;omega,fun b e1 e2=>by have:=hxb b e2;have:=hyb b e1;omega⟩,hx6,hy6⟩
theorem sameTensor_c (a b:T4) (W:World) (h_a:a.at W) (h_b:b.at W):Fnc Tryz.prog 11 [a.v,b.v] W (fun r w' =>r= .bool (decide (a.s=b.s) && decide (a.l=b.l))∧Below W.heap.size W w'):=by
 have hB:=Below.refl W.heap.size W
 refine Ap (n:=17) Tryz.func11 (by kernel_rfl) O O O<|Ae<|Ab<|Bv (cs:=[a.x,a.y]) O O O ?_
 rintro A_a w eA_a b_a hn -
 replace hB:=hB.bs hn
 replace h_a:=h_a.bs hn
 replace h_b:=h_b.bs hn
 clear hn
 refine Bv (cs:=[b.x,b.y]) O O O ?_
 rintro A_b w eA_b b_b hn -
 replace hB:=hB.bs hn
 replace h_a:=h_a.bs hn
 replace h_b:=h_b.bs hn
 replace b_a:=b_a.bs hn
 clear hn
 refine Lw.val (Ac O) O<|Af<|Aa<|Cw.out<|Ae<|Ab<|Lw.val (Ag (q:=0) Tryz.underlying33 O (sz_23 _) O) O<|Lw.val (Aj (ag_23 _) O (by assumption) O) O ?_
 refine Lw.val (Ag (q:=0) Tryz.underlying33 O (sz_23 _) O) O<|Lw.val (Aj (ag_23 _) O (by assumption) O) O ?_
 refine Al O O (sameInts_c a.x b.x a.s b.s _ h_a.1 h_b.1) ?_
 rintro _ w ⟨rfl,hn⟩
 replace hB:=hB.bs hn
 replace h_a:=h_a.bs hn
 replace h_b:=h_b.bs hn
 replace b_a:=b_a.bs hn
 replace b_b:=b_b.bs hn
 clear hn
 refine Lw.val (Ad O) O ?_
 refine Bt 10 O ?_ ?_
 ·intro g
  refine Lw.take (dj:=10) O O<|Lw.val (Ag (q:=0) Tryz.underlying33 O (sz_31 _) O) O<|Lw.take (dj:=10) O O<|Lw.val (Aj (ag_31 _) O (by assumption) O) O ?_
  refine Lw.take (dj:=10) O O<|Lw.val (Ag (q:=0) Tryz.underlying33 O (sz_31 _) O) O<|Lw.take (dj:=10) O O<|Lw.val (Aj (ag_31 _) O (by assumption) O) O ?_
  refine Lw.take (dj:=10) O O<|Al O O (sameNumbers_c a.y b.y a.l b.l _ h_a.2 h_b.2) ?_
  rintro _ w ⟨rfl,hn⟩
  replace hB:=hB.bs hn
  replace h_a:=h_a.bs hn
  replace h_b:=h_b.bs hn
  replace b_a:=b_a.bs hn
  replace b_b:=b_b.bs hn
  clear hn
  refine Lw.val (As O O) O<|Lw.val (Ac O) O<|Af<|Aa<|Cw.out<|An<|Bb O O ?_
  exact ⟨by rw [g];rfl,hB⟩
 ·intro g
  refine Ai (dj:=10) O O O O<|Ai (dj:=10) O O O O<|Ai (dj:=10) O O O O<|Ai (dj:=10) O O O O<|Ai (dj:=10) O O O O<|Lw.val (Bd O O) O<|Lw.val (Ac O) O<|Af<|Aa<|Cw.out<|An<|Bb O O ?_
  exact ⟨by rw [g];rfl,hB⟩
theorem leftTensor_c (a:T4) (x y:Value) (lo hi:Nat) (W:World) (h_a:a.at W) (h_t:TwinT W lo hi x y a):Fnc Tryz.prog 27 [.agg #[x,y],a.v] W (fun r w' =>r= .bool true∧Below W.heap.size W w'):=by
 have hB:=Below.refl W.heap.size W
 refine Ap (n:=17) Tryz.func27 (by kernel_rfl) O O O<|Ae<|Ab<|Bv (cs:=[x,y]) O O O ?_
 rintro A_t w eA_t b_t hn -
 replace hB:=hB.bs hn
 replace h_a:=h_a.bs hn
 replace h_t:=h_t.bs hn
 clear hn
 refine Bv (cs:=[a.x,a.y]) O O O ?_
 rintro A_a w eA_a b_a hn -
 replace hB:=hB.bs hn
 replace h_a:=h_a.bs hn
 replace h_t:=h_t.bs hn
 replace b_t:=b_t.bs hn
 clear hn
 refine Lw.val (Ac O) O<|Af<|Aa<|Cw.out<|Ae<|Ab<|Lw.val (Ag (q:=0) Tryz.underlying33 O (sz_23 _) O) O<|Lw.val (Aj (ag_23 _) O (by assumption) O) O ?_
 refine Lw.val (Ag (q:=0) Tryz.underlying33 O (sz_23 _) O) O<|Lw.val (Aj (ag_23 _) O (by assumption) O) O ?_
 refine Al O O (leftInts_c x a.x a.s lo _ h_t.tx h_a.1) ?_
 rintro _ w ⟨rfl,hn⟩
 replace hB:=hB.bs hn
 replace h_a:=h_a.bs hn
 replace h_t:=h_t.bs hn
 replace b_t:=b_t.bs hn
 replace b_a:=b_a.bs hn
 clear hn
 refine Lw.val (Ad O) O<|Cd 10 (v' := .bool true) O (congrArg Value.bool (rfl))<|Lw.take (dj:=10) O O<|Lw.val (Ag (q:=0) Tryz.underlying33 O (sz_31 _) O) O<|Lw.take (dj:=10) O O<|Lw.val (Aj (ag_31 _) O (by assumption) O) O ?_
 refine Lw.take (dj:=10) O O<|Lw.val (Ag (q:=0) Tryz.underlying33 O (sz_31 _) O) O<|Lw.take (dj:=10) O O<|Lw.val (Aj (ag_31 _) O (by assumption) O) O ?_
 refine Lw.take (dj:=10) O O<|Al O O (leftNumbers_c y a.y a.l lo _ h_t.ty h_a.2) ?_
 rintro _ w ⟨rfl,hn⟩
 replace hB:=hB.bs hn
 replace h_a:=h_a.bs hn
 replace h_t:=h_t.bs hn
 replace b_t:=b_t.bs hn
 replace b_a:=b_a.bs hn
 clear hn
 refine Lw.val (As O O) O<|Lw.val (Ac O) O<|Af<|Aa<|Cw.out<|An<|Bb O O ?_
 exact ⟨rfl,hB⟩
end Go.Proofs.YtmipoeanpnnjoaaGreatDoor

/-! Contracts: the twins of a list of tensors, with marks behind; what is left of them. -/
namespace Go.Proofs.YtmipoeanpnnjoaaGreatDoor
open Go Go.Dd Go.RowKit
set_option maxRecDepth 100000

theorem own_tyS {w:World} {base sz n b:Nat} {e:TypeId} {v:Value} {xs:List Value} (h:w.ownsRow base e sz v n xs) (hb:v.ownBlock=some b):∃cs,Blk w b e cs:=KRow.ty (.inl h) hb
/-- A row stays when a row of another type grows. -/
theorem krow_awayS {w w' :World} {base base' :Nat} {e T:TypeId} {sz sz' n m:Nat} {v q:Value} {xs ys:List Value} (h:KRow w base e sz v n xs) (hk:KRow w base' T sz' q m ys) (hne:e≠T) (g:w.grownBy w' q.ownBlock):KRow w' base e sz v n xs:=by
 cases hq:q.ownBlock with
 |none=>rw [hq] at g;exact h.bs (grown_below g (Nat.le_refl _) fun _ e=>by cases e)
 |some A=>
  rw [hq] at g
  obtain ⟨cs,hb⟩:=hk.ty hq
  refine h.heap fun b eb=>g.block b (h.lt b eb).2 fun e2=> ?_
  cases e2
  obtain ⟨ds,hd⟩:=h.ty eb
  exact hne (blk_tyB hd hb)
theorem own_awayS {w w' :World} {base base' :Nat} {e T:TypeId} {sz sz' n m:Nat} {v q:Value} {xs ys:List Value} (h:w.ownsRow base e sz v n xs) (hk:KRow w base' T sz' q m ys) (hne:e≠T) (g:w.grownBy w' q.ownBlock):w'.ownsRow base e sz v n xs:=by
 cases hq:q.ownBlock with
 |none=>rw [hq] at g;exact own_bs h (grown_below g (Nat.le_refl _) fun _ e=>by cases e)
 |some A=>
  rw [hq] at g
  obtain ⟨cs,hb⟩:=hk.ty hq
  refine h.kept g (.inr fun e2=> ?_)
  obtain ⟨ds,hd⟩:=own_tyS h e2
  exact hne (blk_tyB hd hb)
/-- A list of one's own, with a mark behind. -/
def TwnS (w:World) (base:Nat) (T:TypeId) (sz:Nat) (r:Value) (n:Nat) (cells mk:List Value):Prop:=
 ∃b cap,r= .slice (some ⟨b,0,none⟩) n cap∧w.ownsRow base T sz (.slice (some ⟨b,0,none⟩) (n+1) cap) (n+1) (cells++mk)
theorem TwnS.bs {w w' :World} {base:Nat} {T:TypeId} {sz:Nat} {r:Value} {n:Nat} {cells mk:List Value} (h:TwnS w base T sz r n cells mk) (g:Below w.heap.size w w'):TwnS w' base T sz r n cells mk:=by
 obtain ⟨b,cap,e,ho⟩:=h
 exact ⟨b,cap,e,own_bs ho g⟩
theorem cut_z {b n m cap sz:Nat}:cut (.slice (some ⟨b,0,none⟩) m cap) sz 0 n= .slice (some ⟨b,0,none⟩) n cap:=by
 show Value.slice (if cap=0 then _ else Option.map _ _) (n - 0) (cap - 0)=_
 have e0:(if cap=0 then some (⟨b,0,none⟩:Addr) else (some (⟨b,0,none⟩:Addr)).map (·.add (0*sz)))=some ⟨b,0,none⟩:=by
  split
  ·rfl
  ·simp [add_lit]
 rw [e0];rfl
theorem twnS_of {w:World} {base:Nat} {T:TypeId} {sz:Nat} {v:Value} {n:Nat} {cells mk:List Value} (h:w.ownsRow base T sz v (n+1) (cells++mk)):TwnS w base T sz (cut v sz 0 n) n cells mk:=by
 have h0:=h
 rcases h.2 with ⟨_,h2⟩|⟨b,cap,cur,rfl,_⟩
 ·omega
 ·exact ⟨b,cap,cut_z,h0⟩
theorem TwnS.own {w:World} {base:Nat} {T:TypeId} {sz:Nat} {r:Value} {n:Nat} {cells mk:List Value} (h:TwnS w base T sz r n cells mk) (hl:cells.length=n*sz):w.ownsRow base T sz r n cells:=by
 obtain ⟨b,cap,rfl,ho⟩:=h
 have:=own_cut0 ho (Nat.le_succ n)
 rw [List.take_append_of_le_length (by omega),List.take_of_length_le (by omega),cut_z] at this
 exact this
theorem Twn.awayS {α:Type} {w w' :World} {B base' :Nat} {e T:TypeId} {enc:α→Value} {mark v q:Value} {l:List α} {sz' m:Nat} {ys:List Value} (h:Twn w B e enc mark v l) (hk:KRow w base' T sz' q m ys) (hne:e≠T) (g:w.grownBy w' q.ownBlock):Twn w' B e enc mark v l:=by
 obtain ⟨b,cap,rfl,ho⟩:=h
 exact ⟨b,cap,rfl,own_awayS ho hk hne g⟩
theorem Held.awayS {w w' :World} {lo hi base' :Nat} {T:TypeId} {q:Value} {sz' m:Nat} {ys:List Value} {c:T4} (h:Held w lo hi c) (hk:KRow w base' T sz' q m ys) (h1:3≠T) (h2:21≠T) (g:w.grownBy w' q.ownBlock):Held w' lo hi c:=
 ⟨krow_awayS h.rx hk h1 g,krow_awayS h.ry hk h2 g,h.bx,h.by',h.apart⟩
theorem TwinT.awayS {w w' :World} {lo hi base' :Nat} {T:TypeId} {q x y:Value} {sz' m:Nat} {ys:List Value} {c:T4} (h:TwinT w lo hi x y c) (hk:KRow w base' T sz' q m ys) (h1:3≠T) (h2:21≠T) (g:w.grownBy w' q.ownBlock):TwinT w' lo hi x y c:=
 ⟨h.held.awayS hk h1 h2 g,Twn.awayS h.tx hk h1 g,Twn.awayS h.ty hk h2 g⟩
theorem TwinT.wide {w:World} {lo hi lo' hi' :Nat} {x y:Value} {c:T4} (h:TwinT w lo hi x y c) (h1:lo' ≤lo) (h2:hi≤hi'):TwinT w lo' hi' x y c:=
 ⟨h.held.wide h1 h2,Twn.mono h.tx h1,Twn.mono h.ty h1⟩
theorem Heldall.awayS {w w' :World} {base' :Nat} {T:TypeId} {q:Value} {sz' m:Nat} {ys:List Value} (hk:KRow w base' T sz' q m ys) (h1:3≠T) (h2:21≠T) (g:w.grownBy w' q.ownBlock):∀{cs:List T4} {base top:Nat},Heldall w base top cs→Heldall w' base top cs
 |[],_,_,h=>h
 |_::_,_,_,⟨lo,hi,q1,q2,q3,q4⟩=>⟨lo,hi,q1,q2,q3.awayS hk h1 h2 g,Heldall.awayS hk h1 h2 g q4⟩
theorem Heldall.snoc {w:World} {c:T4} {lo hi:Nat} (hc:Held w lo hi c) (hl:lo≤hi):∀{cs:List T4} {base top:Nat},Heldall w base top cs→top≤lo→Heldall w base hi (cs++[c])
 |[],_,_,h,ht=>⟨lo,hi,Nat.le_trans h ht,hl,hc,Nat.le_refl _⟩
 |_::_,_,_,⟨l1,h1,q1,q2,q3,q4⟩,ht=>⟨l1,h1,q1,q2,q3,Heldall.snoc hc hl q4 ht⟩
theorem Heldall.top {w:World} {t' :Nat}:∀{cs:List T4} {base top:Nat},Heldall w base top cs→top≤t' →Heldall w base t' cs
 |[],_,_,h,ht=>Nat.le_trans h ht
 |_::_,_,_,⟨l1,h1,q1,q2,q3,q4⟩,ht=>⟨l1,h1,q1,q2,q3,Heldall.top q4 ht⟩
theorem cellsOf_len2:∀us:List T4,(cellsOf us).length=us.length*2
 |[]=>rfl
 |_::us=>by simp only [cellsOf,List.length_cons,cellsOf_len2 us];omega
theorem sl_formS {w:World} {sz n:Nat} {v:Value} {xs:List Value} (h:Sl w sz v n xs):∃ao k c,v= .slice ao k c:=by
 obtain ⟨_,ao,cap,rfl,_⟩:=h
 exact ⟨ao,n,cap,rfl⟩
def vl (t:T4):List Int×List (BitVec 32):=(t.s,t.l)
/-- Twins of a list of tensors: each by itself, one behind the other, marks behind each and behind all. -/
structure TwinTs (w:World) (lo hi:Nat) (r:Value) (us:List T4):Prop where
 all:Heldall w lo hi us
 tw:∀c ∈ us,TwinT w lo hi c.x c.y c
 m:∃m,TwnS w lo 33 2 r us.length (cellsOf us) [m, .slice none 0 0]∧SlT (Value.int .i64) w m [77]
 rb:∀b,r.ownBlock=some b→lo≤b∧b<hi
theorem TwinTs.bs {w w' :World} {lo hi:Nat} {r:Value} {us:List T4} (h:TwinTs w lo hi r us) (g:Below w.heap.size w w'):TwinTs w' lo hi r us:=
 ⟨h.all.bs g,fun c hc=>(h.tw c hc).bs g,by obtain ⟨m,h1,h2⟩:=h.m;exact ⟨m,h1.bs g,h2.bs g⟩,h.rb⟩
theorem TwinTs.own {w:World} {lo hi:Nat} {r:Value} {us:List T4} (h:TwinTs w lo hi r us):w.ownsRow lo 33 2 r us.length (cellsOf us):=by
 obtain ⟨m,h1,_⟩:=h.m
 exact h1.own (cellsOf_len2 us)
theorem TwinTs.tens {w:World} {lo hi:Nat} {r:Value} {us:List T4} (h:TwinTs w lo hi r us):Tens w r us:=⟨own_sl h.own,fun c hc=>(h.tw c hc).held.at⟩
theorem bt_tenS (x:Value) (hx:∃ao n c,x= .slice ao n c):Tryz.prog.built 33 [(0,x)]=some [x, .slice none 0 0].toArray:=by
 obtain ⟨ao,n,c,rfl⟩:=hx
 have h1:Tryz.prog.info? 33=some Tryz.t33:=rfl
 have h2:Tryz.prog.info? 23=some Tryz.t23:=rfl
 have h3:Tryz.prog.info? 31=some Tryz.t31:=rfl
 simp [Program.built,h1,Tryz.underlying33,h2,h3,Instr.fill,Value.cells]
 rfl
theorem ten_cellsS {ts:List T4} {j:Nat} (h:j<ts.length):∀i,i<2→∃q,[ts[j].x,ts[j].y][i]? =some q∧(cellsOf ts)[j*2+i]? =some q:=two_cells (cells_at h).1 (cells_at h).2
theorem cellsOf_appS (a b:List T4):cellsOf (a++b)=cellsOf a++cellsOf b:=by
 induction a with
 |nil=>rfl
 |cons x a ih=>simp only [List.cons_append,cellsOf,ih]
theorem twinTs2_c (v:Value) (ts:List T4) (W:World) (h:Tens W v ts) (hb:∀t ∈ ts,t.s.length≤4194304∧t.l.length≤4194304) (hl:ts.length≤2097152):
  Fnc Tryz.prog 8 [v] W (fun r w' =>Below W.heap.size W w' ∧∃us,TwinTs w' W.heap.size w'.heap.size r us∧us.map vl=ts.map vl):=by
 have sv:=h.1
 refine Ap (n:=31) Tryz.func8 (by kernel_rfl) O O O<|Ae<|Ab<|Lw.val (Ac O) O<|Af<|Aa<|Cw.out<|Ae<|Ab<|Lw.val (Ad O) O<|Lw.val (Av st_26 O (by assumption)) O ?_
 refine Lw.val (Bc O O (by omega)) O<|Bl (C2 (l:=0) (c:=ts.length+1) st_26 it_33 O O O (by omega) (by omega) (by omega)) O ?_
 rintro r0 w1 ⟨o_r, -,hB, -⟩
 replace o_r:w1.ownsRow W.heap.size 33 2 r0 0 []:=o_r
 refine Lw.val (Ac O) O<|Af<|Aa<|Cw.out<|Ae<|Ae<|Ab<|Lw.val (Ac O) O<|Af<|Aa<|Cw.out<|Cw.block ?_
 refine Bj (S:=(Nat×Value×List T4)) (fun z=>[(0,v),(3,z.2.1),(4, .int .i64 (z.1:Int))]) (fun z w' =>z.1≤ts.length∧Below W.heap.size W w' ∧w'.ownsRow W.heap.size 33 2 z.2.1 z.1 (cellsOf z.2.2)∧Heldall w' W.heap.size w'.heap.size z.2.2∧(∀c ∈ z.2.2,TwinT w' W.heap.size w'.heap.size c.x c.y c)∧z.2.2.map vl=(ts.take z.1).map vl) (fun z=>ts.length - z.1) ((0,r0,[])) ⟨rfl,rfl,rfl,trivial⟩ ?_ ?_
 ·exact ⟨Nat.zero_le _,hB,o_r,hB.size,fun _ hc=>absurd hc List.not_mem_nil,rfl⟩
 clear o_r hB
 rintro ⟨i,r,us⟩ w2 ⟨hi,hB,o_r,hH,hT,hp⟩
 replace hi:i≤ts.length:=hi
 replace o_r:w2.ownsRow W.heap.size 33 2 r i (cellsOf us):=o_r
 replace hH:Heldall w2 W.heap.size w2.heap.size us:=hH
 replace hT:∀c ∈ us,TwinT w2 W.heap.size w2.heap.size c.x c.y c:=hT
 replace hp:us.map vl=(ts.take i).map vl:=hp
 have sv2:=sv.bs hB
 have z2:=hB.size
 have lus:us.length=i:=by have:=congrArg List.length hp;rw [List.length_map,List.length_map,List.length_take] at this;omega
 refine Ae<|Ae<|Ab<|Lw.val (Ad O) O<|Lw.val (Ad O) O<|Lw.val (Av st_26 O (by assumption)) O ?_
 refine Lw.val (Bh O O) O<|Af<|Aa<|Cw.out<|Au O ?_ ?_
 ·intro g
  have hi' :i<ts.length:=by have:=of_decide_eq_true g;omega
  obtain ⟨a,ha⟩:∃a,a=ts[i]:=⟨_,rfl⟩
  have ham:a ∈ ts:=ha ▸ List.getElem_mem hi'
  have hac:=ten_cellsS hi'
  rw [← ha] at hac
  refine Aq<|Aa<|Cw.out<|Ae<|Cw.block<|Ab<|Lw.val (Ad O) O<|Lw.val (Ad O) O<|Lw.val (Ad O) O<|Lw.val (Bz st_26 O O sv2 i O hi') O<|Lw.val (Cc (cs:=[a.x,a.y]) (ag_33 _) (sz_33 _) O sv2 O (by decide) hac) O<|Al O O (twin2_c a w2 ((h.2 a ham).bs hB) (hb a ham).1 (hb a ham).2) ?_
  rintro _ w3 ⟨hn,x,y,rfl,M⟩
  have hB3:=bt hB hn
  have o_r3:=own_bs o_r hn
  have H3:=hH.bs hn
  have T3:∀c ∈ us,TwinT w3 W.heap.size w2.heap.size c.x c.y c:=fun c hc=>(hT c hc).bs hn
  have z3:=hn.size
  clear hn
  refine Bl (Xw.litA1 (cs:=[x,y]) st_26 it_33 O O (by decide) (by decide)) O ?_
  rintro p w4 ⟨o_p, -,hn, -⟩
  have hB4:=bt hB3 hn
  have o_r4:=own_bs o_r3 hn
  have H4:=H3.bs hn
  have T4' :∀c ∈ us,TwinT w4 W.heap.size w2.heap.size c.x c.y c:=fun c hc=>(T3 c hc).bs hn
  replace M:=M.bs hn
  have z4:=hn.size
  clear hn
  have ox:=M.held.at.one
  refine Bl (Xw.append2 (base:=W.heap.size) st_26 it_33 O (by decide) O O o_r4 (own_sl o_p) ox (by omega) (by omega) hB4.size) O ?_
  rintro r' w5 ⟨o_r5,hn,hg, -⟩
  have hB5:=hB4.trans hn
  have z5:=hn.size
  have e1:cellsOf (us++[⟨x,y,a.s,a.l⟩])=cellsOf us++[x,y]:=by rw [cellsOf_appS];rfl
  rw [← e1] at o_r5
  have k4:KRow w4 W.heap.size 33 2 r i (cellsOf us):= .inl o_r4
  have T5:∀c ∈ us++[⟨x,y,a.s,a.l⟩],TwinT w5 W.heap.size w5.heap.size c.x c.y c:=by
   intro c hc
   rcases List.mem_append.1 hc with hc|hc
   ·exact ((T4' c hc).awayS k4 (by decide) (by decide) hg).wide (Nat.le_refl _) (by omega)
   ·rw [List.mem_singleton.1 hc]
    exact (show TwinT w4 w2.heap.size w3.heap.size x y (⟨x,y,a.s,a.l⟩:T4) from ⟨M.held,M.tx,M.ty⟩).awayS k4 (by decide) (by decide) hg|>.wide z2 (by omega)
  have H5:Heldall w5 W.heap.size w5.heap.size (us++[⟨x,y,a.s,a.l⟩]):=Heldall.top (Heldall.snoc (M.held.awayS k4 (by decide) (by decide) hg) z3 (H4.awayS k4 (by decide) (by decide) hg) (Nat.le_refl _)) (by omega)
  have hp5:(us++[(⟨x,y,a.s,a.l⟩:T4)]).map vl=(ts.take (i+1)).map vl:=by
   rw [List.map_append,hp,List.take_succ_eq_append_getElem hi',List.map_append,← ha];rfl
  refine Lw.val (Ac O) O<|Af<|Bo<|Aa<|Cw.out<|Ab<|Lw.val (Ad O) O<|Lw.val (Bc O O (by omega)) O<|Lw.val (Ac O) O<|Af ?_
  exact Aa (Bq ((i+1,r',us++[⟨x,y,a.s,a.l⟩])) ⟨rfl,rfl,rfl,trivial⟩ (⟨hi',hB5,o_r5,H5,T5,hp5⟩) (by simp only;omega))
 intro g
 have hi' :i=ts.length:=by have:=of_decide_eq_false g;omega
 rw [hi',List.take_length] at hp
 refine Bi<|Am<|Am<|Az<|Aa<|Cw.out<|Ae<|Ab<|Lw.val (Ad O) O<|Bl (Cp (vs:=[(77:Int)].map (Value.int .i64)) st_23 it_3 O O O O O) O ?_
 rintro m w3 ⟨o_m, -,hn, -⟩
 have hB3:=bt hB hn
 have o_r3:=own_bs o_r hn
 have H3:=hH.bs hn
 have T3:∀c ∈ us,TwinT w3 W.heap.size w2.heap.size c.x c.y c:=fun c hc=>(hT c hc).bs hn
 have z3:=hn.size
 clear hn
 refine Lw.val (Bn (vs:=[(0,m)]) (cs:=[m, .slice none 0 0]) O (bt_tenS m (sl_formS (own_sl o_m)))) O<|Bl (Xw.litA1 (cs:=[m, .slice none 0 0]) st_26 it_33 O O (by decide) (by decide)) O ?_
 rintro p w4 ⟨o_p, -,hn, -⟩
 have hB4:=bt hB3 hn
 have o_r4:=own_bs o_r3 hn
 have o_m4:=own_bs o_m hn
 have H4:=H3.bs hn
 have T4' :∀c ∈ us,TwinT w4 W.heap.size w2.heap.size c.x c.y c:=fun c hc=>(T3 c hc).bs hn
 have z4:=hn.size
 clear hn
 refine Bl (Xw.append2 (base:=W.heap.size) st_26 it_33 O (by decide) O O o_r4 (own_sl o_p) (by rw [List.all_cons,(own_sl o_m).one'];rfl) (by omega) (by omega) hB4.size) O ?_
 rintro r' w5 ⟨o_r5,hn,hg, -⟩
 have hB5:=hB4.trans hn
 have z5:=hn.size
 have k4:KRow w4 W.heap.size 33 2 r i (cellsOf us):= .inl o_r4
 have o_m5:=own_awayS o_m4 k4 (by decide) hg
 have T5:∀c ∈ us,TwinT w5 W.heap.size w5.heap.size c.x c.y c:=fun c hc=>((T4' c hc).awayS k4 (by decide) (by decide) hg).wide (Nat.le_refl _) (by omega)
 have H5:Heldall w5 W.heap.size w5.heap.size us:=Heldall.top (H4.awayS k4 (by decide) (by decide) hg) (by omega)
 have s_r5:=own_sl o_r5
 rw [show i+1=us.length+1 by omega] at o_r5
 have hS:=twnS_of o_r5
 have sv5:=sv.bs hB5
 have hR:TwinTs w5 W.heap.size w5.heap.size (cut r' 2 0 us.length) us:=⟨H5,T5,⟨m,hS,own_slT o_m5⟩,own_block (hS.own (cellsOf_len2 us))⟩
 rw [show us.length=ts.length by omega] at hR
 refine Lw.val (Ad O) O<|Lw.val (Av st_26 O (by assumption)) O ?_
 refine Lw.val (Ex.cutH (j:=ts.length) st_26 O O s_r5 (by omega)) O<|Lw.val (Ac O) O<|Af<|Aa<|Cw.out<|An<|Bb O O ?_
 exact ⟨hB5,us,hR,hp⟩
theorem leftTs_c (r v:Value) (us ts:List T4) (lo hi:Nat) (W:World) (h:TwinTs W lo hi r us) (ht:Tens W v ts) (e:us.map vl=ts.map vl):
  Fnc Tryz.prog 13 [r,v] W (fun r w' =>r= .bool true∧Below W.heap.size W w'):=by
 have sv:=ht.1
 have hle:=sv.le
 have s_r:=own_sl h.own
 have lus:us.length=ts.length:=by have:=congrArg List.length e;simpa using this
 obtain ⟨m,hS,s_m⟩:=h.m
 obtain ⟨b,cap,rfl,ho⟩:=hS
 have hcap:us.length+1≤cap∧cap≤9223372036854775807:=by
  obtain ⟨_,ao,cap',he,h1,h2,_⟩:=own_sl ho
  cases he;unfold maxLen at h2;exact ⟨h1,by omega⟩
 refine Ap (n:=55) Tryz.func13 (by kernel_rfl) O O O<|Ae<|Ab<|Lw.val (Ac O) O<|Af<|Aa<|Cw.out<|Ae<|Ae<|Ab<|Lw.val (Ad O) O<|Lw.val (Av st_26 O (by assumption)) O ?_
 refine Lw.val (Ad O) O<|Lw.val (Av st_26 O (by assumption)) O ?_
 refine Lw.val (B7 O O) O<|Lw.val (Ad O) O<|Cd 12 (v' := .bool false) O (congrArg Value.bool ((by simp [lus])))<|Lw.take (dj:=12) O O<|Lw.val (Ad O) O<|Lw.take (dj:=12) O O<|Lw.val (Ex.capS st_26 O) O<|Lw.take (dj:=12) O O<|Lw.val (Ad O) O<|Lw.take (dj:=12) O O<|Lw.val (Av st_26 O (by assumption)) O ?_
 refine Lw.take (dj:=12) O O<|Lw.val (C8 O O) O<|Lw.val (Bd O O) O<|Af<|Aa<|Cw.out<|Bs O false ((by simp;omega))<|Aq<|Aa<|Cw.out<|Ae<|Ae<|Ab<|Lw.val (Ac O) O<|Af<|Aa<|Cw.out<|Cw.block ?_
 refine Bj (S:=Nat) (fun k=>[(0, .slice (some ⟨b,0,none⟩) us.length cap),(1,v),(5, .int .i64 (k:Int))]) (fun k w' =>k≤ts.length∧Below W.heap.size W w') (fun k=>ts.length - k) (0) ⟨rfl,rfl,rfl,trivial⟩ ?_ ?_
 ·exact ⟨by omega,Below.refl _ _⟩
 rintro k w1 ⟨hk,hB1⟩
 have sv1:=sv.bs hB1
 have sr1:=s_r.bs hB1
 refine Ae<|Ae<|Ab<|Lw.val (Ad O) O<|Lw.val (Ad O) O<|Lw.val (Av st_26 O (by assumption)) O ?_
 refine Lw.val (Bh O O) O<|Af<|Aa<|Cw.out<|Au O ?_ ?_
 ·intro g
  have hk' :k<ts.length:=by have:=of_decide_eq_true g;omega
  have hku:k<us.length:=by omega
  obtain ⟨a,ha⟩:∃a,a=ts[k]:=⟨_,rfl⟩
  obtain ⟨c,hc⟩:∃c,c=us[k]:=⟨_,rfl⟩
  have ham:a ∈ ts:=ha ▸ List.getElem_mem hk'
  have hcm:c ∈ us:=hc ▸ List.getElem_mem hku
  have hac:=ten_cellsS hk'
  rw [← ha] at hac
  have hcc:=ten_cellsS hku
  rw [← hc] at hcc
  have ev:vl c=vl a:=by
   have e1:(us.map vl)[k]? =(ts.map vl)[k]? :=by rw [e]
   rw [List.getElem?_map,List.getElem?_map,List.getElem?_eq_getElem hku,List.getElem?_eq_getElem hk',← ha,← hc] at e1
   exact Option.some.inj e1
  have es:c.s=a.s:=congrArg Prod.fst ev
  have el:c.l=a.l:=congrArg Prod.snd ev
  have hT:=(h.tw c hcm).bs hB1
  have hT2:TwinT w1 lo hi c.x c.y a:=⟨⟨by have:=hT.held.rx;rw [es] at this;exact this,by have:=hT.held.ry;rw [el] at this;exact this,hT.held.bx,hT.held.by',hT.held.apart⟩,es ▸ hT.tx,el ▸ hT.ty⟩
  refine Aq<|Aa<|Cw.out<|Ae<|Cw.block<|Ae<|Cw.tail 8 mixed (by kernel_rfl)<|Qw.val (fun w1 hq=>Ad O) O<|Qw.val (fun w1 hq=>Ad O) O<|Qw.val (fun w1 hq=>Bz st_26 O O (Sl.bs sr1 hq) k O hku) O<|Qw.val (fun w1 hq=>Cc (cs:=[c.x,c.y]) (ag_33 _) (sz_33 _) O (Sl.bs sr1 hq) O (by decide) hcc) O<|Qw.val (fun w1 hq=>Ad O) O<|Qw.val (fun w1 hq=>Ad O) O<|Qw.val (fun w1 hq=>Bz st_26 O O (Sl.bs sv1 hq) k O hk') O<|Qw.val (fun w1 hq=>Cc (cs:=[a.x,a.y]) (ag_33 _) (sz_33 _) O (Sl.bs sv1 hq) O (by decide) hac) O ?_
  refine Cj (fun w2 hq=> ?_)
  refine Al O O (leftTensor_c a c.x c.y lo hi w2 (((ht.2 a ham).bs hB1).bs hq) (hT2.bs hq)) ?_
  rintro _ w3 ⟨rfl,hn⟩
  have hn:=bt hq hn
  have hB2:=bt hB1 hn
  refine Lw.val (Bx O) O<|Af<|Aa<|Cw.out<|Bs O false ((by simp))<|Aq<|Bo<|Aa<|Cw.out<|Ab<|Lw.val (Ad O) O<|Lw.val (Bc O O (by omega)) O<|Lw.val (Ac O) O<|Af ?_
  exact Aa (Bq (k+1) ⟨rfl,rfl,rfl,trivial⟩ (⟨by omega,hB2⟩) (by omega))
 ·intro g
  have hk' :k=ts.length:=by have:=of_decide_eq_false g;omega
  subst hk'
  have hfull:=own_sl (own_bs ho hB1)
  have s_m1:=s_m.bs hB1
  have lc:=cellsOf_len2 us
  have e0:(cellsOf us++[m,Value.slice none 0 0])[us.length*2]? =some m:=by rw [List.getElem?_append_right (by omega),lc,Nat.sub_self];rfl
  have e1:(cellsOf us++[m,Value.slice none 0 0])[us.length*2+1]? =some (.slice none 0 0):=by rw [List.getElem?_append_right (by omega),lc,Nat.add_sub_cancel_left];rfl
  rw [lus] at hfull e0 e1
  refine Bi<|Am<|Am<|Az<|Aa<|Cw.out<|Ae<|Ab<|Lw.val (Ad O) O<|Lw.val (Ad O) O<|Lw.val (Av st_26 O (by assumption)) O ?_
  refine Lw.val (Bc O O (by omega)) O<|Lw.val (Ex.extH (j:=ts.length+1) st_26 O O (by omega)) O<|Lw.val (Ad O) O<|Lw.val (Av st_26 O (by assumption)) O ?_
  refine Lw.val (Bz st_26 O O hfull ts.length O (by omega)) O<|Lw.val (Cc (cs:=[m, .slice none 0 0]) (ag_33 _) (sz_33 _) O hfull O (by decide) (two_cells e0 e1)) O<|Cb (cs:=[m, .slice none 0 0]) it_33 O O O O (fun _=>rfl) ((by rw [List.all_cons,s_m1.one'];rfl)) ?_
  rintro A_m w2 eA_m b_m hn zhn
  have s_m2:=s_m1.bs hn
  refine Af<|Aa<|Cw.out<|Ae<|Ab<|Lw.val (Ag (q:=0) Tryz.underlying33 O (sz_23 _) O) O<|Lw.val (Aj (ag_23 _) O (by assumption) O) O ?_
  refine Lw.val (Av st_23 O (by assumption)) O ?_
  refine Lw.val (Cn O O) O<|Lw.val (Ad O) O<|Cd 48 (v' := .bool true) O (congrArg Value.bool (rfl))<|Lw.take (dj:=48) O O<|Lw.val (Ag (q:=0) Tryz.underlying33 O (sz_23 _) O) O<|Lw.take (dj:=48) O O<|Lw.val (Aj (ag_23 _) O (by assumption) O) O ?_
  refine Lw.take (dj:=48) O O<|Lw.val (Ba st_23 O O s_m2 0 O (by decide)) O<|Lw.take (dj:=48) O O<|Lw.val (Bg (ag_3 _) O s_m2 (by decide)) O<|Lw.take (dj:=48) O O<|Lw.val (Cn O O) O<|Lw.val (As O O) O<|Lw.val (Ac O) O<|Af<|Aa<|Cw.out<|An<|Bb O O ?_
  exact ⟨congrArg Value.bool (by simp),bt hB1 hn⟩
end Go.Proofs.YtmipoeanpnnjoaaGreatDoor

/-! Kept lists between two bounds of memory; Apart of them. -/
namespace Go.Proofs.YtmipoeanpnnjoaaGreatDoor
open Go Go.Dd Go.RowKit
set_option maxRecDepth 100000

/-- Kept lists of one kind, between two blocks. -/
structure KIn (w:World) (lo hi:Nat) (E:TypeId) (sz:Nat) (hs:List Hd):Prop where
 kept:Kept w lo E sz hs
 top:∀b,blks hs b→b<hi
theorem KIn.nil (w:World) (lo hi:Nat) (E:TypeId) (sz:Nat):KIn w lo hi E sz []:=⟨Kept.nil _ _ _ _,fun b ⟨_,h,_⟩=>by cases h⟩
theorem KIn.low {w:World} {lo hi:Nat} {E:TypeId} {sz:Nat} {hs:List Hd} (h:KIn w lo hi E sz hs) {b:Nat} (e:blks hs b):lo≤b:=(h.kept.blk e).1
theorem KIn.below {w w' :World} {lo hi B:Nat} {E:TypeId} {sz:Nat} {hs:List Hd} (h:KIn w lo hi E sz hs) (g:Below B w w') (hB:hi≤B):KIn w' lo hi E sz hs:=
 ⟨⟨h.kept.toKOk,fun x hx=>(h.kept.own x hx).heap fun b e=>g.block b (by have:=h.top b ⟨x,hx,e⟩;omega)⟩,h.top⟩
theorem KIn.wide {w:World} {lo hi lo' hi' :Nat} {E:TypeId} {sz:Nat} {hs:List Hd} (h:KIn w lo hi E sz hs) (h1:lo' ≤lo) (h2:hi≤hi'):KIn w lo' hi' E sz hs:=
 ⟨⟨h.kept.toKOk,fun x hx=>(h.kept.own x hx).mono h1⟩,fun b e=>by have:=h.top b e;omega⟩
theorem KIn.app {w:World} {a b c d:Nat} {E:TypeId} {sz:Nat} {hs ks:List Hd} (h:KIn w a b E sz hs) (k:KIn w c d E sz ks) (h1:a≤c) (h2:b≤c) (h3:b≤d):KIn w a d E sz (hs++ks):=by
 have two:∀{P:Hd→Prop},(∀x ∈ hs,P x)→(∀x ∈ ks,P x)→∀x ∈ hs++ks,P x:=fun p q x hx=>(List.mem_append.1 hx).elim (p x) (q x)
 refine ⟨⟨⟨two h.kept.num k.kept.num,two h.kept.few k.kept.few,List.pairwise_append.2 ⟨h.kept.apart,k.kept.apart,fun x hx y hy e e1 e2=> ?_⟩,two h.kept.new k.kept.new⟩,two h.kept.own fun x hx=>(k.kept.own x hx).mono h1⟩,fun e ⟨x,hx,ex⟩=> ?_⟩
 ·have:=h.top e ⟨x,hx,e1⟩
  have:=k.low ⟨y,hy,e2⟩
  omega
 ·rcases List.mem_append.1 hx with hx|hx
  ·have:=h.top e ⟨x,hx,ex⟩;omega
  ·exact k.top e ⟨x,hx,ex⟩
theorem KIn.one {w:World} {lo hi:Nat} {E:TypeId} {sz k:Nat} {v:Value} {xs:List Value} {n:Int} (h:KRow w lo E sz v k xs) (hb:∀b,v.ownBlock=some b→b<hi) (hn:0≤n) (hn2:n≤4000000) (hk:k≤16777216):KIn w lo hi E sz [newHdM v k xs n]:=
 ⟨⟨⟨fun x hx=>by rw [List.mem_singleton.1 hx];exact ⟨hn,hn2⟩,fun x hx=>by rw [List.mem_singleton.1 hx];exact hk,List.pairwise_singleton _ _,fun x hx=>by rw [List.mem_singleton.1 hx]⟩,fun x hx=>by rw [List.mem_singleton.1 hx];exact h⟩,fun b ⟨x,hx,e⟩=>by rw [List.mem_singleton.1 hx] at e;exact hb b e⟩
/-- Two heads, one behind the other. -/
theorem KIn.cons {w:World} {a b c d:Nat} {E:TypeId} {sz:Nat} {x:Hd} {ks:List Hd} (h:KIn w a b E sz [x]) (k:KIn w c d E sz ks) (h1:a≤c) (h2:b≤c) (h3:b≤d):KIn w a d E sz (x::ks):=h.app k h1 h2 h3
theorem Heldall.kin:∀{w:World} {cs:List T4} {base top:Nat} (_:Heldall w base top cs) {n:Int},0≤n→n+2*cs.length≤4000000→(∀c ∈ cs,c.s.length≤16777216∧c.l.length≤16777216)→KIn w base top 3 1 (hmI n cs)∧KIn w base top 21 1 (hmN n cs)
 |_,[],_,_,_,_,_,_,_=>⟨KIn.nil _ _ _ _ _,KIn.nil _ _ _ _ _⟩
 |w,c::cs,base,top,⟨lo,hi,h1,h2,h3,h4⟩,n,n0,n1,hk=>by
  simp only [List.length_cons] at n1
  obtain ⟨q1,q2⟩:=h4.kin (n:=n+2) (by omega) (by omega) fun d hd=>hk d (by simp [hd])
  have:=hk c (by simp)
  have:=h4.le
  exact ⟨((KIn.one h3.rx (fun b e=>(h3.bx b e).2) (by omega) (by omega) (by omega)).cons q1 (by omega) (Nat.le_refl _) (by omega)).wide h1 (Nat.le_refl _),((KIn.one h3.ry (fun b e=>(h3.by' b e).2) (by omega) (by omega) (by omega)).cons q2 (by omega) (Nat.le_refl _) (by omega)).wide h1 (Nat.le_refl _)⟩
theorem kin_apart {w:World} {a b c d:Nat} {E T:TypeId} {sz tz:Nat} {hs ks:List Hd} (h:KIn w a b E sz hs) (k:KIn w c d T tz ks) (hne:E≠T):∀x,blks hs x→¬blks ks x:=fun x ⟨y,hy,e1⟩ ⟨z,hz,e2⟩=>by
 obtain ⟨cs,h1⟩:=(h.kept.own y hy).ty e1
 obtain ⟨ds,h2⟩:=(k.kept.own z hz).ty e2
 exact hne (blk_tyB h1 h2)
theorem apart_in (w:World) (lo A base:Nat) (n:Int) (hb hi hn ht hd:List Hd) (ub ui un ut ud:Value) (h:Bm w lo A n hb hi hn ht hd ub ui un ut ud) (kb:KIn w base lo 5 1 hb) (ki:KIn w base lo 3 1 hi) (kn:KIn w base lo 21 1 hn) (kt:KIn w base lo 33 2 ht) (kd:KIn w base lo 25 5 hd) (hbl:base≤lo):
  Fnc Tryz.prog 17 [.pointer (some ⟨A,0,none⟩)] w (fun r w' =>r= .bool true∧Below base w w'):=
 apart_m w lo A base n hb hi hn ht hd ub ui un ut ud h kb.kept ki.kept kn.kept kt.kept kd.kept kb.top ki.top kn.top kt.top kd.top (kin_apart kb ki (by decide)) (kin_apart kb kn (by decide)) (kin_apart kb kt (by decide)) (kin_apart kb kd (by decide)) (kin_apart ki kn (by decide)) (kin_apart ki kt (by decide)) (kin_apart ki kd (by decide)) (kin_apart kn kt (by decide)) (kin_apart kn kd (by decide)) (kin_apart kt kd (by decide)) hbl
theorem bm_new {w:World} {A:Nat} (h:Blk w A bookT (.int .i64 0::List.replicate 15 (.slice none 0 0))):Bm w A A 0 [] [] [] [] [] (.slice none 0 0) (.slice none 0 0) (.slice none 0 0) (.slice none 0 0) (.slice none 0 0):=
 ⟨h,⟨rfl, .inl ⟨rfl,rfl⟩⟩,⟨rfl, .inl ⟨rfl,rfl⟩⟩,⟨rfl, .inl ⟨rfl,rfl⟩⟩,⟨rfl, .inl ⟨rfl,rfl⟩⟩,⟨rfl, .inl ⟨rfl,rfl⟩⟩,Nat.le_refl _,(by rintro ⟨⟩),(by rintro ⟨⟩),(by rintro ⟨⟩),(by rintro ⟨⟩),(by rintro ⟨⟩),(fun b e=>by cases e),(fun b e=>by cases e),(fun b e=>by cases e),(fun b e=>by cases e),(fun b e=>by cases e),(fun b e=>by cases e),(fun b e=>by cases e),(fun b e=>by cases e),(fun b e=>by cases e),(fun b e=>by cases e),rfl⟩
end Go.Proofs.YtmipoeanpnnjoaaGreatDoor

/-! A node against its twin; its lists in a book. -/
namespace Go.Proofs.YtmipoeanpnnjoaaGreatDoor
open Go Go.Dd Go.RowKit
set_option maxRecDepth 100000

theorem leftNode_c (a:N5) (x y:Value) (lo hi:Nat) (W:World) (ha:N5.at W a) (h:TwinN W lo hi x y a):Fnc Tryz.prog 12 [(N5.mk a.k x y a.i a.s a.n a.p).v,a.v] W (fun r w' =>r= .bool true∧Below W.heap.size W w'):=by
 have hB:=Below.refl W.heap.size W
 refine Ap (n:=38) Tryz.func12 (by kernel_rfl) O O O<|Ae<|Ab<|Bv (cs:=(N5.mk a.k x y a.i a.s a.n a.p).cells) O O O ?_
 rintro A_t w eA_t b_t hn -
 replace hB:=hB.bs hn
 replace ha:=ha.bs hn
 replace h:=h.bs hn
 clear hn
 refine Bv (cs:=a.cells) O O O ?_
 rintro A_a w eA_a b_a hn -
 replace hB:=hB.bs hn
 replace ha:=ha.bs hn
 replace h:=h.bs hn
 replace b_t:=b_t.bs hn
 clear hn
 refine Lw.val (Ac O) O<|Af<|Aa<|Cw.out<|Ae<|Ab<|Lw.val (Ag (q:=0) Tryz.underlying25 O (sz_22 _) O) O<|Lw.val (Aj (ag_22 _) O (by assumption) O) O ?_
 refine Lw.val (Ag (q:=0) Tryz.underlying25 O (sz_22 _) O) O<|Lw.val (Aj (ag_22 _) O (by assumption) O) O ?_
 refine Lw.val (Ce O O) O<|Lw.val (Ad O) O<|Cd 10 (v' := .bool true) O (congrArg Value.bool ((by simp)))<|Lw.take (dj:=10) O O<|Lw.val (Ag (q:=0) Tryz.underlying25 O (sz_23 _) O) O<|Lw.take (dj:=10) O O<|Lw.val (Aj (ag_23 _) O (by assumption) O) O ?_
 refine Lw.take (dj:=10) O O<|Lw.val (Ag (q:=0) Tryz.underlying25 O (sz_23 _) O) O<|Lw.take (dj:=10) O O<|Lw.val (Aj (ag_23 _) O (by assumption) O) O ?_
 refine Lw.take (dj:=10) O O<|Al O O (leftInts_c x a.x a.i lo _ h.tx ha.i) ?_
 rintro _ w ⟨rfl,hn⟩
 replace hB:=hB.bs hn
 replace ha:=ha.bs hn
 replace h:=h.bs hn
 replace b_t:=b_t.bs hn
 replace b_a:=b_a.bs hn
 clear hn
 refine Lw.val (As O O) O<|Lw.val (Ad O) O<|Cd 17 (v' := .bool true) O (congrArg Value.bool (rfl))<|Lw.take (dj:=17) O O<|Lw.val (Ag (q:=0) Tryz.underlying25 O (sz_23 _) O) O<|Lw.take (dj:=17) O O<|Lw.val (Aj (ag_23 _) O (by assumption) O) O ?_
 refine Lw.take (dj:=17) O O<|Lw.val (Ag (q:=0) Tryz.underlying25 O (sz_23 _) O) O<|Lw.take (dj:=17) O O<|Lw.val (Aj (ag_23 _) O (by assumption) O) O ?_
 refine Lw.take (dj:=17) O O<|Al O O (leftInts_c y a.y a.s lo _ h.ty ha.s) ?_
 rintro _ w ⟨rfl,hn⟩
 replace hB:=hB.bs hn
 replace ha:=ha.bs hn
 replace h:=h.bs hn
 replace b_t:=b_t.bs hn
 replace b_a:=b_a.bs hn
 clear hn
 refine Lw.val (As O O) O<|Lw.val (Ad O) O<|Cd 24 (v' := .bool true) O (congrArg Value.bool (rfl))<|Lw.take (dj:=24) O O<|Lw.val (Ag (q:=0) Tryz.underlying25 O (sz_3 _) O) O<|Lw.take (dj:=24) O O<|Lw.val (Aj (ag_3 _) O (by assumption) O) O ?_
 refine Lw.take (dj:=24) O O<|Lw.val (Ag (q:=0) Tryz.underlying25 O (sz_3 _) O) O<|Lw.take (dj:=24) O O<|Lw.val (Aj (ag_3 _) O (by assumption) O) O ?_
 refine Lw.take (dj:=24) O O<|Lw.val (Cn O O) O<|Lw.val (As O O) O<|Lw.val (Ad O) O<|Cd 31 (v' := .bool true) O (congrArg Value.bool ((by simp)))<|Lw.take (dj:=31) O O<|Lw.val (Ag (q:=0) Tryz.underlying25 O (sz_3 _) O) O<|Lw.take (dj:=31) O O<|Lw.val (Aj (ag_3 _) O (by assumption) O) O ?_
 refine Lw.take (dj:=31) O O<|Lw.val (Ag (q:=0) Tryz.underlying25 O (sz_3 _) O) O<|Lw.take (dj:=31) O O<|Lw.val (Aj (ag_3 _) O (by assumption) O) O ?_
 refine Lw.take (dj:=31) O O<|Lw.val (Cn O O) O<|Lw.val (As O O) O<|Lw.val (Ac O) O<|Af<|Aa<|Cw.out<|An<|Bb O O ?_
 exact ⟨congrArg Value.bool (by simp),hB⟩
/-- A node's two lists. -/
theorem TwinN.kin {w:World} {lo hi:Nat} {x y:Value} {a:N5} (h:TwinN w lo hi x y a) {n:Int} (h0:0≤n) (h1:n+2≤4000000) (hi' :a.i.length≤16777216) (hs:a.s.length≤16777216):KIn w lo hi 3 1 [newHdM x a.i.length (a.i.map (Value.int .i64)) (n+1),newHdM y a.s.length (a.s.map (Value.int .i64)) (n+2)]:=by
 have k1:=KIn.one (n:=n+1) (.inl h.tx.own) (fun b e=>(h.bx b e).2) (by omega) (by omega) hi'
 have k2:=KIn.one (n:=n+2) (.inl h.ty.own) (fun b e=>(h.by' b e).2) (by omega) (by omega) hs
 refine ⟨⟨⟨?_, ?_,List.Pairwise.cons ?_ (List.pairwise_singleton _ _), ?_⟩, ?_⟩, ?_⟩
 ·intro z hz
  rcases List.mem_cons.1 hz with rfl|hz
  ·exact k1.kept.num _ (List.mem_singleton.2 rfl)
  ·exact k2.kept.num _ hz
 ·intro z hz
  rcases List.mem_cons.1 hz with rfl|hz
  ·exact k1.kept.few _ (List.mem_singleton.2 rfl)
  ·exact k2.kept.few _ hz
 ·intro z hz
  rw [List.mem_singleton.1 hz]
  exact fun b e1 e2=>h.apart b e1 e2
 ·intro z hz
  rcases List.mem_cons.1 hz with rfl|hz
  ·rfl
  ·rw [List.mem_singleton.1 hz]
 ·intro z hz
  rcases List.mem_cons.1 hz with rfl|hz
  ·exact k1.kept.own _ (List.mem_singleton.2 rfl)
  ·exact k2.kept.own _ hz
 ·rintro b ⟨z,hz,e⟩
  rcases List.mem_cons.1 hz with rfl|hz
  ·exact (h.bx b e).2
  ·rw [List.mem_singleton.1 hz] at e
   exact (h.by' b e).2
theorem AnsD.gives {W w:World} {r:Value} {e:Int} {s:List Int} {l:List (BitVec 32)} (h:AnsD W w r e s l):Gives W w r e s l:=by
 obtain ⟨c,rfl,hc,h1,h2⟩:=h
 by_cases he:e=0
 ·obtain ⟨e1,e2,M⟩:=h2 he
  refine ⟨c,rfl,⟨?_, ?_,M.row.lt,M.col.lt,M.apart⟩,fun h=>absurd he h,fun _=>⟨e1,e2⟩⟩
  ·rw [e1];exact M.row
  ·rw [e2];exact M.col
 ·obtain ⟨e1,e2,e3,e4⟩:=h1 he
  have:c=⟨.slice none 0 0, .slice none 0 0,[],[]⟩:=by
   cases c;simp only at e1 e2 e3 e4;rw [e1,e2,e3,e4]
  exact ⟨c,rfl,by rw [this];exact held_nil _ _ _,fun _=>⟨e1,e2⟩,fun h=>absurd h he⟩
end Go.Proofs.YtmipoeanpnnjoaaGreatDoor

/-! What the cards on tensors share. -/
namespace Go.Proofs.YtmipoeanpnnjoaaGreatDoor
open Go Go.Dd Go.RowKit
set_option maxRecDepth 100000

theorem own:ownKnob Tryz.prog.godebug=none:=by kernel_rfl
theorem laidOut:laidOutB Tryz.prog=true:=by kernel_rfl
/-- Two answers of the same reckoning are the same. -/
theorem same_ans {e:Int} {s s1 s2:List Int} {l l1 l2:List (BitVec 32)} (a0:e≠0→s1=[]∧l1=[]) (a1:e=0→s1=s∧l1=l) (b0:e≠0→s2=[]∧l2=[]) (b1:e=0→s2=s∧l2=l):(!(decide (s1=s2) && decide (l1=l2)))=false:=by
 have:s1=s2∧l1=l2:=by
  by_cases h:e=0
  ·rw [(a1 h).1,(a1 h).2,(b1 h).1,(b1 h).2];exact ⟨rfl,rfl⟩
  ·rw [(a0 h).1,(a0 h).2,(b0 h).1,(b0 h).2];exact ⟨rfl,rfl⟩
 rw [this.1,this.2]
 simp
end Go.Proofs.YtmipoeanpnnjoaaGreatDoor
