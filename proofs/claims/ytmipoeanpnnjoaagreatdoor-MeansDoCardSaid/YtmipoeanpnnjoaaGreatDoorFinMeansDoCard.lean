/- What a node comes to, as the document has it: for any node, any tensors; no condition. -/
import Derived.Test.YtmipoeanpnnjoaaGreatDoorPk6
import Derived.Test.YtmipoeanpnnjoaaGreatDoorPk7

namespace Go.Proofs.YtmipoeanpnnjoaaGreatDoor
open Go Go.Dd Go.RowKit Go.ChangeShapes Go.WideShapes Go.ChangeAt
set_option maxRecDepth 100000

theorem do_vl {x:N5} {us ts:List T4} (h:us.map vl=ts.map vl):doE x us=doE x ts∧(doE x ts=0→actS x.k x us=actS x.k x ts∧actL x.k x us=actL x.k x ts):=by
 have e:us.map norm=ts.map norm:=by
  have:=congrArg (List.map tv) h
  rwa [List.map_map,List.map_map] at this
 obtain ⟨a1,a2⟩:=do_norm x us
 obtain ⟨b1,b2⟩:=do_norm x ts
 rw [e] at a1 a2
 have e1:doE x us=doE x ts:=a1.symm.trans b1
 exact ⟨e1,fun h0=>⟨((a2 (e1.trans h0)).1).symm.trans (b2 h0).1,((a2 (e1.trans h0)).2).symm.trans (b2 h0).2⟩⟩
theorem do_g (x:N5) (p q v:Value) (us ts:List T4) (w:World) (hx:N5.at w ⟨x.k,p,q,x.i,x.s,x.n,x.p⟩) (h:Tens w v us) (e:us.map vl=ts.map vl):
  Fnc Tryz.prog 9 [(N5.mk x.k p q x.i x.s x.n x.p).v,v] w (fun r w' =>Below w.heap.size w w' ∧Gives w w' r (doE x ts) (actS x.k x ts) (actL x.k x ts)):=by
 have h0:=do_c ⟨x.k,p,q,x.i,x.s,x.n,x.p⟩ v us w hx h
 refine h0.mono fun r w' ⟨h1,h2⟩=>⟨h1, ?_⟩
 have h2:AnsD w w' r (doE x us) (actS x.k x us) (actL x.k x us):=h2
 obtain ⟨e1,e2⟩:=do_vl (x:=x) e
 rw [e1] at h2
 obtain ⟨c,k1,k2,k3,k4⟩:=h2.gives
 exact ⟨c,k1,k2,k3,fun e0=>by rw [← (e2 e0).1,← (e2 e0).2];exact k4 e0⟩
theorem rdo_g (x:N5) (v:Value) (ts:List T4) (w:World) (hx:N5.at w x) (h:Tens w v ts):Fnc Tryz.prog 10 [x.v,v] w (fun r w' =>Below w.heap.size w w' ∧Gives w w' r (doE x ts) (actS x.k x ts) (actL x.k x ts)):=
 (rdo_c x v ts w hx h).mono fun _ _ ⟨h1,h2⟩=>⟨h1,h2.gives⟩
theorem few_ans2 {e:Int} {s s1:List Int} {l l1:List (BitVec 32)} (a0:e≠0→s1=[]∧l1=[]) (a1:e=0→s1=s∧l1=l) (hs:e=0→s.length≤16777216) (hl:e=0→l.length≤16777216):s1.length≤16777216∧l1.length≤16777216:=by
 by_cases h:e=0
 ·rw [(a1 h).1,(a1 h).2];exact ⟨hs h,hl h⟩
 ·rw [(a0 h).1,(a0 h).2];simp
theorem do_few {x:N5} {ts:List T4} (h:doE x ts=0):(actS x.k x ts).length≤16777216∧(actL x.k x ts).length≤16777216:=by
 obtain ⟨k1,k2⟩:=tok_ok (do_shape h).tok
 have:=((Shapes.ok_iff _).1 k1).1
 have:=Shapes.size_le (actS x.k x ts)
 omega
theorem tens_low2 {w:World} {lo hi B:Nat} {r:Value} {us:List T4} (h:TwinTs w lo hi r us) (hB:hi≤B):(∀b,r.ownBlock=some b→b<B)∧∀t ∈ us,t.low B:=
 ⟨fun b e=>by have:=h.rb b e;omega,fun t m=>⟨fun b e=>by have:=(h.tw t m).held.bx b e;omega,fun b e=>by have:=(h.tw t m).held.by' b e;omega⟩⟩
set_option maxHeartbeats 2000000 in
theorem meansDo_w (x:N5) (v:Value) (ts:List T4) (W:World) (hx:N5.at W x) (h:Tens W v ts) (fx:x.few) (hl:ts.length≤1125899906842624) (hf:∀t ∈ ts,fewT t):
  Fnc Tryz.prog 3 [x.v,v] W (fun r w' =>r= .bool true∧Below W.heap.size W w'):=by
 have hB:=Below.refl W.heap.size W
 obtain ⟨T,hT⟩:∃T,T=tot (ts.length:Int) (ts.map fun t=>tsz t.s t.l):=⟨_,rfl⟩
 have tp:∀x ∈ ts.map fun t=>tsz t.s t.l,0≤x:=fun x hx=>by
  obtain ⟨a,_,rfl⟩:=List.mem_map.1 hx
  have:=tsz_pos a.s a.l;omega
 have T0:=tot_le (n:=(ts.length:Int)) tp
 rw [← hT] at T0
 refine Ap (n:=65) Tryz.func3 (by kernel_rfl) O O O<|Ae<|Ab<|Bv (cs:=x.cells) O O O ?_
 rintro A_x w eA_x b_x hn -
 replace hB:=hB.bs hn
 replace hx:=hx.bs hn
 replace h:=h.bs hn
 clear hn
 refine Lw.val (Ac O) O<|Af<|Aa<|Cw.out<|Ae<|Ae<|Ab<|Lw.val (Bw (ag_25 _) (sz_25 _) O O (by assumption)) O ?_
 refine Al O O (nsize_c x _ hx fx) ?_
 rintro _ w ⟨rfl,hn⟩
 replace hB:=hB.bs hn
 replace hx:=hx.bs hn
 replace h:=h.bs hn
 replace b_x:=b_x.bs hn
 clear hn
 refine Lw.val (Cr O O) O<|Lw.val (Ad O) O ?_
 refine Bt 15 O ?_ ?_
 ·intro _
  refine Ai (dj:=15) O O O O<|Ai (dj:=15) O O O O<|Ai (dj:=15) O O O O<|Lw.val (As O O) O<|Af<|Aa<|Cw.out<|Br O<|Ae<|Ab<|Lw.val (Ac O) O<|Af<|Aa<|Cw.out<|An<|Ak<|Bb O O ?_
  exact ⟨rfl,hB⟩
 intro g1
 have g1:nsz x≤5000:=by have:=of_decide_eq_false g1;omega
 refine Lw.take (dj:=15) O O<|Lw.val (Ad O) O<|Lw.take (dj:=15) O O<|Al O O (tsizes_c v ts _ h hl hf) ?_
 rintro _ w ⟨rfl,hn⟩
 replace hB:=hB.bs hn
 replace hx:=hx.bs hn
 replace h:=h.bs hn
 replace b_x:=b_x.bs hn
 clear hn
 refine Lw.take (dj:=15) O O<|Lw.val (Cr O O) O<|Lw.val (Bd O O) O<|Af<|Aa<|Cw.out ?_
 rw [← hT]
 refine Au O ?_ ?_
 ·intro _
  refine Ae<|Ab<|Lw.val (Ac O) O<|Af<|Aa<|Cw.out<|An<|Ak<|Bb O O ?_
  exact ⟨rfl,hB⟩
 intro g2
 have T2:T≤3000:=by have:=of_decide_eq_false g2;omega
 rw [hT] at T2 T0
 have te:∀t ∈ ts,t.s.length≤4194304∧t.l.length≤4194304:=fun t ht=>by
  have h1:=tot_each (n:=(ts.length:Int)) tp (by omega) (tsz t.s t.l) (List.mem_map.2 ⟨t,ht,rfl⟩)
  have h2:=tsz_leM (s:=t.s) (l:=t.l) (m:=1048576) (by omega) (by decide)
  omega
 have xe:=nsz_le g1 (by decide)
 clear g1 g2
 have t0:=below_size hB
 refine Aq<|Aa<|Cw.out<|Ae<|Ab<|Lw.val (Bw (k:=5) (ag_25 _) (sz_25 _) O O b_x) O<|Al O O (twinNode_c x _ hx (by omega) (by omega)) ?_
 rintro _ w ⟨hn,p,q,rfl,hN⟩
 obtain ⟨tN,htN⟩:∃n,n=w.heap.size:=⟨_,rfl⟩
 rw [← htN] at hN
 have zN:=hn.size
 replace hB:=hB.bs hn
 replace hx:=hx.bs hn
 replace h:=h.bs hn
 replace b_x:=b_x.bs hn
 clear hn
 refine Cb (cs:=(N5.mk x.k p q x.i x.s x.n x.p).cells) it_25 O O O O (fun _=>rfl) ((hN.at x.k x.n x.p).ones) ?_
 rintro A_t w eA_t b_t hn zhn
 have zNb:=hn.size
 replace hB:=hB.bs hn
 replace hx:=hx.bs hn
 replace h:=h.bs hn
 replace b_x:=b_x.bs hn
 replace hN:=hN.bs hn
 clear hn
 refine Af<|Aa<|Cw.out<|Ae<|Ab<|Lw.val (Ad O) O<|Al O O (twinTs2_c v ts _ h te (by omega)) ?_
 rintro tv w ⟨hn,us,hU,eU⟩
 obtain ⟨tU,htU⟩:∃n,n=w.heap.size:=⟨_,rfl⟩
 rw [← htU] at hU
 have zU:=hn.size
 replace hB:=hB.bs hn
 replace hx:=hx.bs hn
 replace h:=h.bs hn
 replace b_x:=b_x.bs hn
 replace hN:=hN.bs hn
 replace b_t:=b_t.bs hn
 clear hn
 have lus:us.length=ts.length:=by have:=congrArg List.length eU;simpa using this
 have ue:∀t ∈ us,t.s.length≤4194304∧t.l.length≤4194304:=fun t ht=>by
  have:vl t ∈ ts.map vl:=by rw [← eU];exact List.mem_map_of_mem ht
  obtain ⟨a,ha,e⟩:=List.mem_map.1 this
  have es:a.s=t.s:=congrArg Prod.fst e
  have el:a.l=t.l:=congrArg Prod.snd e
  rw [← es,← el];exact te a ha
 refine Lw.val (Ac O) O<|Af<|Aa<|Cw.out<|Ae<|Ab<|Lw.val (Bw (k:=5) (ag_25 _) (sz_25 _) O O b_t) O<|Lw.val (Ad O) O<|Al O O (do_g x p q tv us ts _ (hN.at x.k x.n x.p) hU.tens eU) ?_
 rintro _ w ⟨hn,a,rfl,h_a,n_a,y_a⟩
 have zc_a:=hn.size
 replace hB:=hB.bs hn
 replace hx:=hx.bs hn
 replace h:=h.bs hn
 replace b_x:=b_x.bs hn
 replace hN:=hN.bs hn
 replace b_t:=b_t.bs hn
 replace hU:=hU.bs hn
 clear hn
 refine Lw.val (Ad O) O<|Lw.val (Ax (i:=0) O O) O<|Lw.val (Ax (i:=1) O O) O ?_
 have o_a:=h_a.at.one
 refine Cb (cs:=[a.x,a.y]) it_33 O O O O (fun _=>rfl) (o_a) ?_
 rintro A_a w eA_a b_a hn zhn
 have zb_a:=hn.size
 replace hB:=hB.bs hn
 replace hx:=hx.bs hn
 replace h:=h.bs hn
 replace b_x:=b_x.bs hn
 replace hN:=hN.bs hn
 replace b_t:=b_t.bs hn
 replace hU:=hU.bs hn
 replace h_a:=h_a.bs hn
 clear hn
 refine Lw.val (Ac O) O<|Af<|Aa<|Cw.out<|Ae<|Ab<|Lw.val (Bw (k:=5) (ag_25 _) (sz_25 _) O O b_x) O<|Lw.val (Ad O) O ?_
 have hC:=Below.refl w.heap.size w
 refine Al O O (rdo_g x v ts _ hx h) ?_
 rintro _ w ⟨hn,b,rfl,h_b,n_b,y_b⟩
 have zc_b:=hn.size
 replace hB:=hB.bs hn
 replace hx:=hx.bs hn
 replace h:=h.bs hn
 replace b_x:=b_x.bs hn
 replace hN:=hN.bs hn
 replace b_t:=b_t.bs hn
 replace hU:=hU.bs hn
 replace h_a:=h_a.bs hn
 replace b_a:=b_a.bs hn
 replace hC:=hC.bs hn
 clear hn
 refine Lw.val (Ad O) O<|Lw.val (Ax (i:=0) O O) O<|Lw.val (Ax (i:=1) O O) O ?_
 have o_b:=h_b.at.one
 refine Cb (cs:=[b.x,b.y]) it_33 O O O O (fun _=>rfl) (o_b) ?_
 rintro A_b w eA_b b_b hn zhn
 have zb_b:=hn.size
 replace hB:=hB.bs hn
 replace hx:=hx.bs hn
 replace h:=h.bs hn
 replace b_x:=b_x.bs hn
 replace hN:=hN.bs hn
 replace b_t:=b_t.bs hn
 replace hU:=hU.bs hn
 replace h_a:=h_a.bs hn
 replace b_a:=b_a.bs hn
 replace hC:=hC.bs hn
 replace h_b:=h_b.bs hn
 clear hn
 refine Lw.val (Ac O) O<|Af<|Aa<|Cw.out<|Ae<|Ae<|Ab<|Lw.val (Bw (ag_33 _) (sz_33 _) O O (by assumption)) O ?_
 refine Lw.val (Bw (ag_33 _) (sz_33 _) O O (by assumption)) O ?_
 refine Al O O (sameTensor_c a b _ h_a.at h_b.at) ?_
 rintro _ w ⟨rfl,hn⟩
 replace hB:=hB.bs hn
 replace hx:=hx.bs hn
 replace h:=h.bs hn
 replace b_x:=b_x.bs hn
 replace hN:=hN.bs hn
 replace b_t:=b_t.bs hn
 replace hU:=hU.bs hn
 replace h_a:=h_a.bs hn
 replace b_a:=b_a.bs hn
 replace hC:=hC.bs hn
 replace h_b:=h_b.bs hn
 replace b_b:=b_b.bs hn
 clear hn
 refine Lw.val (Bx O) O<|Lw.val (Ad O) O<|Cd 40 (v' := .bool false) O (congrArg Value.bool (same_ans n_a y_a n_b y_b))<|Lw.take (dj:=40) O O<|Lw.val (Ad O) O<|Lw.take (dj:=40) O O<|Lw.val (Ad O) O<|Lw.take (dj:=40) O O<|Lw.val (B7 O O) O<|Lw.val (Bd O O) O<|Lw.val (Ad O) O<|Cd 45 (v' := .bool false) O (congrArg Value.bool (by simp))<|Lw.take (dj:=45) O O<|Lw.val (Bw (k:=5) (ag_25 _) (sz_25 _) O O b_t) O<|Lw.take (dj:=45) O O<|Lw.val (Bw (k:=5) (ag_25 _) (sz_25 _) O O b_x) O<|Lw.take (dj:=45) O O<|Al O O (leftNode_c x p q _ _ _ hx hN) ?_
 rintro _ w ⟨rfl,hn⟩
 replace hB:=hB.bs hn
 replace hx:=hx.bs hn
 replace h:=h.bs hn
 replace b_x:=b_x.bs hn
 replace hN:=hN.bs hn
 replace b_t:=b_t.bs hn
 replace hU:=hU.bs hn
 replace h_a:=h_a.bs hn
 replace b_a:=b_a.bs hn
 replace hC:=hC.bs hn
 replace h_b:=h_b.bs hn
 replace b_b:=b_b.bs hn
 clear hn
 refine Lw.take (dj:=45) O O<|Lw.val (Bx O) O<|Lw.val (Bd O O) O<|Lw.val (Ad O) O<|Cd 51 (v' := .bool false) O (congrArg Value.bool (rfl))<|Lw.take (dj:=51) O O<|Lw.val (Ad O) O<|Lw.take (dj:=51) O O<|Lw.val (Ad O) O<|Lw.take (dj:=51) O O<|Al O O (leftTs_c tv v us ts _ _ _ hU h eU) ?_
 rintro _ w ⟨rfl,hn⟩
 replace hB:=hB.bs hn
 replace hx:=hx.bs hn
 replace h:=h.bs hn
 replace b_x:=b_x.bs hn
 replace hN:=hN.bs hn
 replace b_t:=b_t.bs hn
 replace hU:=hU.bs hn
 replace h_a:=h_a.bs hn
 replace b_a:=b_a.bs hn
 replace hC:=hC.bs hn
 replace h_b:=h_b.bs hn
 replace b_b:=b_b.bs hn
 clear hn
 refine Lw.take (dj:=51) O O<|Lw.val (Bx O) O<|Lw.val (Bd O O) O<|Af<|Aa<|Cw.out<|Bs O false (rfl)<|Aq<|Aa<|Cw.out<|Ae<|Ab<|Lw.val (Bn (vs:=[]) (cs:=[.int .i64 0, .slice none 0 0, .slice none 0 0, .slice none 0 0, .slice none 0 0, .slice none 0 0, .slice none 0 0, .slice none 0 0, .slice none 0 0, .slice none 0 0, .slice none 0 0, .slice none 0 0, .slice none 0 0, .slice none 0 0, .slice none 0 0, .slice none 0 0]) O (by kernel_rfl)) O ?_
 have few_a:a.s.length≤16777216∧a.l.length≤16777216:=few_ans2 n_a y_a (fun e=>(do_few e).1) (fun e=>(do_few e).2)
 have za:=blk_lt b_a
 have zt:=blk_lt b_t
 have zC:=below_size hC
 refine Cb (cs:= .int .i64 0::List.replicate 15 (.slice none 0 0)) it_56 O O O O (fun _=>rfl) (rfl) ?_
 rintro A_k w eA_k b_k hn zhn
 have zk:=hn.size
 replace hB:=hB.bs hn
 replace hx:=hx.bs hn
 replace h:=h.bs hn
 replace b_x:=b_x.bs hn
 replace hN:=hN.bs hn
 replace b_t:=b_t.bs hn
 replace hU:=hU.bs hn
 replace h_a:=h_a.bs hn
 replace b_a:=b_a.bs hn
 replace hC:=hC.bs hn
 replace h_b:=h_b.bs hn
 replace b_b:=b_b.bs hn
 clear hn
 have h_k:=bm_new b_k
 have zw:=below_size hB
 have hlow:=tens_low2 hU (show tU≤A_k by omega)
 obtain ⟨kI,kN⟩:=hU.all.kin (n:=0+2) (by decide) (by omega) fun c hc=>by have:=ue c hc;omega
 have kT:=KIn.one (n:=0+2+2*(us.length:Int)+1) (.inl hU.own) (fun b e=>(hU.rb b e).2) (by omega) (by omega) (by omega)
 have kD:=hN.kin (n:=0) (Int.le_refl 0) (by decide) (by omega) (by omega)
 refine Af<|Aa<|Cw.out<|Ae<|Ab<|Lw.val (Bw (k:=5) (ag_25 _) (sz_25 _) O O b_t) O<|Al O O (bookNode_m w A_k A_k _ _ _ _ _ _ _ _ _ _ _ _ _ _ _ _ _ _ _ _ h_k hN.tx.sl hN.ty.sl (fun b e=>by have:=hN.by' b e;omega) (by decide)) ?_
 rintro _ w ⟨rfl,hn,_,h_k⟩
 have hB:=hB.trans (hn.mono (show W.heap.size≤A_k by omega))
 have kI:=kI.below hn (by omega)
 have kN:=kN.below hn (by omega)
 have kT:=kT.below hn (by omega)
 have kD:=kD.below hn (by omega)
 have h_a:=h_a.below hn (by omega)
 have b_a:=b_a.keep (hn.block A_a (by omega))
 have hUt:=tens_low hU.tens hlow.1 hlow.2 hn
 refine Af<|Aa<|Cw.out<|Ae<|Ab<|Lw.val (Ad O) O<|Al O O (bookTensors_m w A_k A_k _ _ _ _ _ _ _ _ _ _ _ tv us h_k hUt hlow.1 hlow.2 (by omega)) ?_
 rintro _ w ⟨rfl,hn,_,_,_,h_k⟩
 have hB:=hB.trans (hn.mono (show W.heap.size≤A_k by omega))
 have kI:=kI.below hn (by omega)
 have kN:=kN.below hn (by omega)
 have kT:=kT.below hn (by omega)
 have kD:=kD.below hn (by omega)
 have h_a:=h_a.below hn (by omega)
 have b_a:=b_a.keep (hn.block A_a (by omega))
 refine Af<|Aa<|Cw.out<|Ae<|Ab<|Lw.val (Bw (ag_33 _) (sz_33 _) O O (by assumption)) O ?_
 refine Al O O (bookTensor_m w A_k A_k _ _ _ _ _ _ _ _ _ _ _ a.x a.y _ _ _ _ h_k h_a.rx.sl h_a.ry.sl (fun b e=>by have:=h_a.by' b e;omega) (by omega)) ?_
 rintro _ w ⟨rfl,hn,_,_,h_k⟩
 have hB:=hB.trans (hn.mono (show W.heap.size≤A_k by omega))
 have kI:=kI.below hn (by omega)
 have kN:=kN.below hn (by omega)
 have kT:=kT.below hn (by omega)
 have kD:=kD.below hn (by omega)
 have h_a:=h_a.below hn (by omega)
 have q1:=KIn.one (n:=0+2+2*(us.length:Int)+1+1) h_a.rx (fun b e=>(h_a.bx b e).2) (by omega) (by omega) few_a.1
 have q2:=KIn.one (n:=0+2+2*(us.length:Int)+1+2) h_a.ry (fun b e=>(h_a.by' b e).2) (by omega) (by omega) few_a.2
 have KI:=(((kD.app kI (by omega) (by omega) (by omega)).app q1 (by omega) (by omega) (by omega))).wide (show W.heap.size≤_ by omega) (show _≤A_k by omega)
 have KN:=(kN.app q2 (by omega) (by omega) (by omega)).wide (show W.heap.size≤_ by omega) (show _≤A_k by omega)
 have KT:=kT.wide (show W.heap.size≤_ by omega) (show _≤A_k by omega)
 refine Af<|Aa<|Cw.out<|Ae<|Ab<|Al O O (apart_in w A_k A_k W.heap.size _ _ _ _ _ _ _ _ _ _ _ h_k (KIn.nil _ _ _ _ _) KI KN KT (KIn.nil _ _ _ _ _) (by omega)) ?_
 rintro _ w ⟨rfl,hn⟩
 refine Lw.val (Ac O) O<|Af<|Aa<|Cw.out<|An<|Bb O O ?_
 exact ⟨rfl,hB.trans hn⟩

/-! A world for the witness: the settled one, the tables laid. -/
def laidCells:DataW Unit→Array Value
 | .agg l=>(l.map fun d=>match d with| .lit (.int k n)=>Value.int k n|_=>Value.bool false).toArray
 |_=> #[]
noncomputable def laidWorld (os:Os):World:=
 {World.holding Tryz.prog os ⟨#[], #[],[]⟩ with heap:=Rows.meansDoRow.laid.foldl (fun h x=>h.modify ((Tryz.prog.globalNamed x.1).getD 0) fun| .cells _ t fz=> .cells (laidCells x.2) t fz|o=>o) (World.holding Tryz.prog os ⟨#[], #[],[]⟩).heap}
theorem laid_met (os:Os) (args:Array Value):laidMetH Tryz.prog Rows.meansDoRow.laid ((laidWorld os).forCall (fun _ _=>0) ⟨#[],args,[]⟩).memory:=
 laidMetH_of_parts (laidMet_of_run' 8 (by kernel_rfl) (by kernel_rfl)) (by kernel_rfl)

set_option maxRecDepth 100000 in
set_option maxHeartbeats 2000000 in
theorem meansDo_lifted (os:Os) (started:os.Started) (H:Type) (enc:TypeId×Value→H):
  ReturnsInHanded {} Tryz.checked os 3 .any (fun w args=>(Rows.meansDoSpec.pre enc Tryz.prog Tryz.f3 Rows.meansDoRow.domain false w args∧laidMetH Tryz.prog Rows.meansDoRow.laid w)∧sizedMet enc Tryz.prog Tryz.f3 (OpenSpec.ofChange Rows.meansDoSpec) false w args) (Rows.meansDoSpec.post enc Tryz.prog Tryz.f3 false true false false):=by
 refine returnsInHanded_of_change_and (C:=Tryz.checked) (X:=fun w _=>laidMetH Tryz.prog Rows.meansDoRow.laid w) (fun _ _ _ hh h=>h.of_heap hh) own started (by kernel_rfl) Tryz.func3
  (ChangeSpec.witness_at (enc:=enc) (C:=Tryz.checked) (os:=os) (X:=fun w _=>laidMetH Tryz.prog Rows.meansDoRow.laid w) false (laidWorld os) #[.agg #[.int .u8 0, .slice none 0 0, .slice none 0 0, .int .i64 0, .int .i64 0], .slice none 0 0] 8 rfl (by kernel_rfl) (by kernel_rfl) (by kernel_rfl) (by kernel_rfl) (by kernel_rfl) (laid_met os _)) ?_
 intro W base args ds gs before hval0 hW hcnd hsz0 _ _
 have hval:∀(j:Nat) t v,Tryz.f3.params[j]? =some t→args[j]? =some v→Value.okWide Tryz.prog W .any base t v:=hval0
 have hW' :=hW
 obtain ⟨p,q,hA0,hV,rfl,hfz,hnd⟩:=hW
 have hA:DataW.TrodAll enc Tryz.prog W 0 (fun _=>true) true Tryz.f3.params.toList args.toList ds p:=hA0
 have hsz:(DataW.weightsEach Tryz.prog (Tryz.f3.params.toList++Rows.meansDoSpec.plain.varTypes Tryz.prog) (ds++gs)).all (·≤reachBytes)=true:=hsz0
 rw [Tryz.params3] at hA hval hsz
 obtain ⟨v0,vs0,d0,ds0,p0,q0,hargs,rfl,rfl,h0,r0⟩:=trodAll_cons hA
 obtain ⟨v1,vs1,d1,ds1,p1,q1,rfl,rfl,rfl,h1,r1⟩:=trodAll_cons r0
 obtain ⟨rfl,rfl,rfl⟩:=trodAll_nil r1
 obtain rfl:args= #[v0,v1]:=by cases args;simp_all
 obtain ⟨rfl,rfl⟩:=trodVars_none hV
 have k0:=h0
 have lt0:∀x ∈ p0,x.block<W.heap.size:=by obtain ⟨m,hm⟩:=k0;exact DataW.trod_lt m _ _ _ hm
 have i0:=in_of (j:=0) (t:=25) hsz rfl rfl h0
 have o0:=hval 0 25 v0 rfl rfl
 have k1:=h1
 have lt1:∀x ∈ p1,x.block<W.heap.size:=by obtain ⟨m,hm⟩:=k1;exact DataW.trod_lt m _ _ _ hm
 have i1:=in_of (j:=1) (t:=26) hsz rfl rfl h1
 have o1:=hval 1 26 v1 rfl rfl
 clear hA0 hval0 hsz0 hsz
 obtain ⟨x,rfl,hx,fx⟩:=arg_node o0 i0
 obtain ⟨ts,ht,lts,fts⟩:=arg_tens o1 i1
 refine (law_calls (meansDo_w x v1 ts W hx ht fx lts fts)).mono fun e W' ⟨he,bel⟩=> ?_
 subst he
 exact ⟨_,rfl,_,_,_,[],_,[],hW',trodAll_mk1 (shut_bool un_4 _),(trodAll_cons_mk (Below.trod laidOut (by kernel_rfl) (of_decide_eq_true (by kernel_rfl)) k0 bel lt0) (trodAll_cons_mk (Below.trod laidOut (by kernel_rfl) (of_decide_eq_true (by kernel_rfl)) k1 bel lt1) trodAll_mk0)),rfl,bel.frame _,fun h=>by cases h⟩

/-- The statement. -/
theorem meansDo_holds:Rows.MeansDoSaid:=
 OpenClaim.holds_of_wide 3 Tryz.f3 rfl rfl rfl rfl rfl rfl rfl ⟨rfl,rfl,rfl,rfl,rfl⟩ rfl rfl rfl rfl rfl (by kernel_rfl) Tryz.func3 (by kernel_rfl)
  (of_decide_eq_true (by kernel_rfl)) (by unfold Func.isWrapper;first|(rw [if_pos (by decide+kernel)];kernel_rfl)|(rw [if_neg (by decide+kernel)];exact ⟨rfl,rfl⟩))
  (fun os started H enc _=>meansDo_lifted os started H enc)
/-- The card. -/
theorem meansDo_proved:Rows.MeansDoCardSaid:=
 Claim7.holds_tied_plain_at .later [] [.data, .data, .data] true (true, "12f6ff630a68dfb2284c7fd28044138ea90098ab6f1849db645fccf93891bb26") false
  meansDo_holds (fun _ h=>by cases h) (by kernel_rfl) (fun _ h=>by cases h) meansDo_row_tie rfl ⟨rfl,rfl⟩ (by kernel_rfl) rfl
  (fun f fn hf hfn=>by
   obtain rfl : f = 3 := Option.some.inj ((show Tryz.prog.funcNamed "drydock/drydocklaw13.MeansDo" = some 3 by kernel_rfl).symm.trans hf) |>.symm
   obtain rfl:fn=Tryz.f3:=(Option.some.inj (Tryz.func3.symm.trans hfn)).symm
   refine ⟨by kernel_rfl,fun j t ht=> ?_⟩
   rw [Tryz.params3] at ht
   have h3:t ∈ [25,26]:=List.mem_of_getElem? (by simpa using ht)
   have h4:([25,26]:List TypeId).all (fun t=>Tryz.prog.wantsStandIn t==false)=true:=by kernel_rfl
   exact eq_of_beq (List.all_eq_true.1 h4 t h3))
  (by kernel_rfl)
#print axioms meansDo_proved
end Go.Proofs.YtmipoeanpnnjoaaGreatDoor
