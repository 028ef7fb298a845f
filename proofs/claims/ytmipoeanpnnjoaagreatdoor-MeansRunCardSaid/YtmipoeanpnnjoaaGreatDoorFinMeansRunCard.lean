/- What a graph comes to, and all its nodes, as the document has it: for any graph that is not too much work, any tensors; no condition. -/
import Derived.Test.YtmipoeanpnnjoaaGreatDoorPk7

namespace Go.Proofs.YtmipoeanpnnjoaaGreatDoor
open Go Go.Dd Go.RowKit Go.ChangeShapes Go.WideShapes Go.ChangeAt List Go.Proofs.Tryz
set_option maxRecDepth 100000
theorem Ro {w:World} {c a B:Nat} {r:Value} {us:List T4} (h:Hc w c a r us) (d:a≤B):(∀b,r.ownBlock=some b→b<B)∧∀t ∈ us,t.low B:=
 ⟨fun b e=>by have:=h.rb b e;omega,fun t m=>⟨fun b e=>by have:=(h.tw t m).held.bx b e;omega,fun b e=>by have:=(h.tw t m).held.by' b e;omega⟩⟩
theorem P5 {w:World} {c a B:Nat} {r:Value} {us:List N5} (h:EC w c a r us) (d:a≤B):(∀b,r.ownBlock=some b→b<B)∧∀t ∈ us,t.low B:=
 ⟨fun b e=>by have:=h.rb b e;omega,fun t m=>⟨fun b e=>by have:=(h.all.each t m).bx b e;omega,fun b e=>by have:=(h.all.each t m).by' b e;omega⟩⟩
theorem Rx {W w:World} {B:Nat} {q:Value} {ts:List T4} (h:FT W w ts) (k:BM w W.heap.size Oc 2 q ts.length (cellsOf ts)) (a:w.heap.size≤B):(∀b,q.ownBlock=some b→b<B)∧∀t ∈ ts,t.low B:=
 ⟨fun b e=>by have:=(k.lt b e).2;omega,fun t m=>⟨fun b e=>by have:=((h.each t m).row.lt b e).2;omega,fun b e=>by have:=((h.each t m).col.lt b e).2;omega⟩⟩
set_option maxHeartbeats 4000000 in
theorem P6 (v u:Value) (T:List N5) (ws:List T4) (t:T4) (W:World) (h:GN W v T) (hl:T.length≤1125899906842624) (hf:∀t ∈ T,t.few) (D:CN W u ws) (lw:ws.length≤1125899906842624) (fw:∀t ∈ ws,Mu t) (C:t.at W) (ft:Mu t):
  AM prog 4 [.agg [v,u,t.x,t.y].toArray] W (fun r w' =>r= .bool true∧Below W.heap.size W w'):=by
 have B:=Below.refl W.heap.size W
 obtain ⟨R,hR⟩:∃R,R=FW T (ws.map pv) (pv t):=⟨_,rfl⟩
 refine Bb (n:=113) func4 O<|Af<|B5 (cs:=[v,u,t.x,t.y]) O O O ?_
 rintro A_z w eA_z f d -
 have B:=B.bs d
 have h:=h.bs d
 have D:=D.bs d
 have C:=C.bs d
 refine Ab O<|Bh<|Aa (B9 (YD _) (Yb _) O O ‹_›) O ?_
 refine Aj O O (VA v u T ws t _ h hl hf D lw fw C ft) ?_
 rintro _ w ⟨⟨gb,rfl,hgb⟩,d⟩
 have B:=B.bs d
 have h:=h.bs d
 have D:=D.bs d
 have C:=C.bs d
 have f:=f.bs d
 refine Ak<|Aq O ?_ ?_
 ·intro _
  exact Af<|Ab rfl<|Bu<|Ax rfl rfl<|⟨rfl,B⟩
 intro gf
 obtain ⟨G1,G2⟩:=hgb gf
 have np:∀x ∈ T.map L5,0≤x:=fun x hx=>by
  obtain ⟨a,_,rfl⟩:=List.mem_map.1 hx
  have:=Nr a;omega
 have N0:=Jc (n:=(T.length:Int)) np
 have G1:J0 (T.length:Int) (T.map L5)≤4999:=by unfold YN at G1;omega
 have ne:∀a ∈ T,a.i.length≤4194304∧a.s.length≤4194304:=fun a ha=>by
  have h1:=Lo (n:=(T.length:Int)) np (by omega) (L5 a) (List.mem_map.2 ⟨a,ha,rfl⟩)
  have h2:=Xe (a:=a) (m:=5000) (by omega) (by decide)
  omega
 have tp:∀x ∈ ws.map fun t=>Jx t.s t.l,0≤x:=fun x hx=>by
  obtain ⟨a,_,rfl⟩:=List.mem_map.1 hx
  have:=Jz a.s a.l;omega
 have T0:=Jc (n:=(ws.length:Int)) tp
 have tpos:=Jz t.s t.l
 have hbey:=Um (Int.le_refl 0) (by intro x hx;simp at hx;rcases hx with rfl|rfl;omega;omega) G2
 have T2:=hbey (J0 (ws.length:Int) (ws.map fun t=>Jx t.s t.l)) (by simp)
 have T3:=hbey (Jx t.s t.l) (by simp)
 have te:∀t ∈ ws,t.s.length≤4194304∧t.l.length≤4194304:=fun t C=>by
  have h1:=Lo (n:=(ws.length:Int)) tp T2 (Jx t.s t.l) (List.mem_map.2 ⟨t,C,rfl⟩)
  have h2:=Q5 (s:=t.s) (l:=t.l) (m:=1048576) (by omega) (by decide)
  omega
 have t3:=Q5 (s:=t.s) (l:=t.l) (m:=1048576) T3 (by decide)
 have Rtok:∀p ∈ R.getD [],tok p.1 p.2=true:=by
  cases V:R with
  |none=>intro p hp;cases hp
  |some vs=>
   obtain ⟨-, -,hrec, -⟩:=H2 (hR.symm.trans V)
   exact JR T [] _ _ vs (fun _ h=>by cases h) hrec
 have Rlen:(R.getD []).length≤5000:=by
  cases V:R with
  |none=>exact Nat.zero_le _
  |some vs=>
   obtain ⟨-, -, -,hv⟩:=H2 (hR.symm.trans V)
   show vs.length≤5000
   omega
 have Rfew:(Pt R).1.length≤16777216∧(Pt R).2.length≤16777216:=by
  unfold Pt K6
  rw [getD_eq_getElem?_getD]
  cases V:(R.getD [])[(R.getD []).length - 1]? with
  |none=>exact ⟨Nat.zero_le _,Nat.zero_le _⟩
  |some p=>exact Q8 (Rtok p (mem_of_getElem? V))
 clear gf hgb G2 hbey T3 tpos np tp
 have t0:=AA B
 refine Co<|Be underlying66 O (DR _)<|Aa (Eg (ds:=[v]) (FC _) (DR _) O O ‹_› rfl) O ?_
 refine Aj O O (NY v T _ h ne (by omega)) ?_
 rintro _ w ⟨d,gv,gs,rfl,E,eG⟩
 obtain ⟨tG,htG⟩:∃n,n=w.heap.size:=⟨_,rfl⟩
 rw [← htG] at E
 have zG:=d.size
 have B:=B.bs d
 have h:=h.bs d
 have D:=D.bs d
 have C:=C.bs d
 have f:=f.bs d
 refine C1 (cs:=[gv]) Wp O O O O (fun _=>rfl) ((by rw [all_cons,(AI E.own).one'];rfl)) ?_
 rintro A_g w eA_g j d zhn
 have zGb:=d.size
 have B:=B.bs d
 have h:=h.bs d
 have D:=D.bs d
 have C:=C.bs d
 have f:=f.bs d
 have E:=E.bs d
 refine Bl<|Be underlying66 O (GA _)<|Aa (Ah (EY _) O ‹_› rfl) O ?_
 refine Aj O O (Rm u ws _ D te (by omega)) ?_
 rintro wv w ⟨d,us,I,eU⟩
 obtain ⟨Y,htU⟩:∃n,n=w.heap.size:=⟨_,rfl⟩
 rw [← htU] at I
 have zU:=d.size
 have B:=B.bs d
 have h:=h.bs d
 have D:=D.bs d
 have C:=C.bs d
 have f:=f.bs d
 have E:=E.bs d
 have j:=j.bs d
 have lgs:gs.length=T.length:=by have:=cngA length eG;simpa using this
 have lus:us.length=ws.length:=by have:=cngA length eU;simpa using this
 have ge:∀a ∈ gs,a.i.length≤4194304∧a.s.length≤4194304:=fun a ha=>by
  have:nl a ∈ T.map nl:=by rw [← eG];exact mem_map_of_mem ha
  obtain ⟨c,V,e⟩:=List.mem_map.1 this
  simp only [nl,Prod.mk.injEq] at e
  rw [← e.2.1,← e.2.2.1];exact ne c V
 have ue:∀t ∈ us,t.s.length≤4194304∧t.l.length≤4194304:=fun t C=>by
  have:vl t ∈ ws.map vl:=by rw [← eU];exact mem_map_of_mem C
  obtain ⟨a,ha,e⟩:=List.mem_map.1 this
  have es:a.s=t.s:=cngA Prod.fst e
  have el:a.l=t.l:=cngA Prod.snd e
  rw [← es,← el];exact te a ha
 refine Ab O<|Bl<|Aa (D4 (q:=1) underlying66 O (AP _) O) O<|Aa (Eg (ds:=[t.x,t.y]) (AT _) (AP _) O O ‹_› rfl) O ?_
 refine Aj O O (Q4 t _ C (by omega) (by omega)) ?_
 rintro _ w ⟨d,Z,py,rfl,N⟩
 obtain ⟨tP,htP⟩:∃n,n=w.heap.size:=⟨_,rfl⟩
 rw [← htP] at N
 have zP:=d.size
 have B:=B.bs d
 have h:=h.bs d
 have D:=D.bs d
 have C:=C.bs d
 have f:=f.bs d
 have E:=E.bs d
 have j:=j.bs d
 have I:=I.bs d
 have oP:=N.held.at.one
 refine C1 (cs:=[Z,py]) AY O O O O (fun _=>rfl) (oP) ?_
 rintro A_p w eA_p g d zhn
 have zPb:=d.size
 have B:=B.bs d
 have h:=h.bs d
 have D:=D.bs d
 have C:=C.bs d
 have f:=f.bs d
 have E:=E.bs d
 have j:=j.bs d
 have I:=I.bs d
 have N:=N.bs d
 have eR:FW gs (us.map pv) (pv ⟨Z,py,t.s,t.l⟩)=R:=by
  rw [VW eG,hR]
  exact cngA (fun z=>FW T z (pv t)) eU
 refine Bl<|Aa (B9 (k:=1) (FC _) (DR _) O O j) O<|Ac O<|Aa (B9 (AT _) (AP _) O O ‹_›) O ?_
 refine Aj O O (Yj gv gs wv us ⟨Z,py,t.s,t.l⟩ R _ E.gn I.tens N.held.at eR) ?_
 rintro _ w ⟨d,a,rfl,o,va⟩
 obtain ⟨tA,htA⟩:∃n,n=w.heap.size:=⟨_,rfl⟩
 rw [← htA] at o
 have zA:=d.size
 have B:=B.bs d
 have h:=h.bs d
 have D:=D.bs d
 have C:=C.bs d
 have f:=f.bs d
 have E:=E.bs d
 have j:=j.bs d
 have I:=I.bs d
 have N:=N.bs d
 have g:=g.bs d
 refine Ac O<|Aa (As (i:=0) O O) O<|Aa (As (i:=1) O O) O ?_
 have oA:=o.at.one
 refine C1 (cs:=[a.x,a.y]) AY O O O O (fun _=>rfl) (oA) ?_
 rintro A_a w eA_a y d zhn
 have zAb:=d.size
 have B:=B.bs d
 have h:=h.bs d
 have D:=D.bs d
 have C:=C.bs d
 have f:=f.bs d
 have E:=E.bs d
 have j:=j.bs d
 have I:=I.bs d
 have N:=N.bs d
 have g:=g.bs d
 have o:=o.bs d
 refine Ab O<|Bl<|Be underlying66 O (DR _)<|Aa (Eg (ds:=[v]) (FC _) (DR _) O O ‹_› rfl) O ?_
 refine Be underlying66 O (GA _)<|Aa (Ah (EY _) O ‹_› rfl) O ?_
 refine Aa (D4 (q:=1) underlying66 O (AP _) O) O<|Aa (Eg (ds:=[t.x,t.y]) (AT _) (AP _) O O ‹_› rfl) O ?_
 refine Aj O O (WN v T u ws t R _ h D C hR.symm) ?_
 rintro _ w ⟨d,b,rfl,F,vb⟩
 have zB:=d.size
 have B:=B.bs d
 have h:=h.bs d
 have D:=D.bs d
 have C:=C.bs d
 have f:=f.bs d
 have E:=E.bs d
 have j:=j.bs d
 have I:=I.bs d
 have N:=N.bs d
 have g:=g.bs d
 have o:=o.bs d
 have y:=y.bs d
 refine Ac O<|Aa (As (i:=0) O O) O<|Aa (As (i:=1) O O) O ?_
 have oB:=F.one
 refine C1 (cs:=[b.x,b.y]) AY O O O O (fun _=>rfl) (oB) ?_
 rintro A_b w eA_b K d zhn
 have zBb:=d.size
 have B:=B.bs d
 have h:=h.bs d
 have D:=D.bs d
 have C:=C.bs d
 have f:=f.bs d
 have E:=E.bs d
 have j:=j.bs d
 have I:=I.bs d
 have N:=N.bs d
 have g:=g.bs d
 have o:=o.bs d
 have y:=y.bs d
 have F:=F.bs d
 refine Ab O<|Bl<|Aa (B9 (k:=1) (FC _) (DR _) O O j) O<|Ac O<|Aa (B9 (AT _) (AP _) O O ‹_›) O ?_
 refine Aj O O (YA gv gs wv us ⟨Z,py,t.s,t.l⟩ R _ E.gn I.tens N.held.at eR) ?_
 rintro _ w ⟨d,q,ts,rfl,L,M,vl'⟩
 obtain ⟨tL,htL⟩:∃n,n=w.heap.size:=⟨_,rfl⟩
 have kk:=L
 have kl:=M
 have zL:=d.size
 have B:=B.bs d
 have h:=h.bs d
 have D:=D.bs d
 have C:=C.bs d
 have f:=f.bs d
 have E:=E.bs d
 have j:=j.bs d
 have I:=I.bs d
 have N:=N.bs d
 have g:=g.bs d
 have o:=o.bs d
 have y:=y.bs d
 have F:=F.bs d
 have K:=K.bs d
 have U:=Below.refl w.heap.size w
 have few_l:∀c ∈ ts,c.s.length≤16777216∧c.l.length≤16777216:=fun c V=>Q8 (v:=pv c) (Rtok _ (by rw [← vl'];exact mem_map_of_mem V))
 have lts:ts.length≤5000:=by rw [← vl',length_map] at Rlen;exact Rlen
 have few_a:a.s.length≤16777216∧a.l.length≤16777216:=by
  have e1:a.s=(Pt R).1:=cngA Prod.fst va
  have e2:a.l=(Pt R).2:=cngA Prod.snd va
  rw [e1,e2];exact Rfew
 refine Ac O<|Aa (As (i:=0) O O) O<|Aa (As (i:=1) O O) O<|Ab O<|Ab O<|Bl<|Be underlying66 O (DR _)<|Aa (Eg (ds:=[v]) (FC _) (DR _) O O ‹_› rfl) O ?_
 refine Be underlying66 O (GA _)<|Aa (Ah (EY _) O ‹_› rfl) O ?_
 refine Aa (D4 (q:=1) underlying66 O (AP _) O) O<|Aa (Eg (ds:=[t.x,t.y]) (AT _) (AP _) O O ‹_› rfl) O ?_
 refine Aj O O (WT v T u ws t R _ h D C hR.symm) ?_
 rintro _ w ⟨d,m,ms,rfl,S,vm⟩
 have B:=B.bs d
 have h:=h.bs d
 have D:=D.bs d
 have C:=C.bs d
 have f:=f.bs d
 have E:=E.bs d
 have j:=j.bs d
 have I:=I.bs d
 have N:=N.bs d
 have g:=g.bs d
 have o:=o.bs d
 have y:=y.bs d
 have F:=F.bs d
 have K:=K.bs d
 have L:=L.bs d
 have M:=M.bs d
 have U:=U.bs d
 refine Ac O<|Aa (As (i:=0) O O) O<|Aa (As (i:=1) O O) O<|Ab O<|Ab O<|Bh<|Aa (B9 (AT _) (AP _) O O ‹_›) O ?_
 refine Aa (B9 (AT _) (AP _) O O ‹_›) O ?_
 refine Aj O O (Nk a b _ o.at F) ?_
 rintro _ w ⟨rfl,d⟩
 have B:=B.bs d
 have h:=h.bs d
 have D:=D.bs d
 have C:=C.bs d
 have f:=f.bs d
 have E:=E.bs d
 have j:=j.bs d
 have I:=I.bs d
 have N:=N.bs d
 have g:=g.bs d
 have o:=o.bs d
 have y:=y.bs d
 have F:=F.bs d
 have K:=K.bs d
 have L:=L.bs d
 have M:=M.bs d
 have U:=U.bs d
 have S:=S.bs d
 refine Aa (Ck O) O<|Ac O ?_
 have eab:(decide (a.s=b.s) && decide (a.l=b.l))=true:=by
  have e:=va.trans vb.symm
  rw [show a.s=b.s from cngA Prod.fst e,show a.l=b.l from cngA Prod.snd e];simp
 refine C5 64 (v' := .bool false) O (cngA Value.bool (by rw [eab];rfl))<|Ag (dj:=64) O O<|Ac O<|Ag (dj:=64) O O<|Ac O<|Ag (dj:=64) O O<|Aa (Cs O O) O<|Cn O<|Ac O<|C5 69 (v' := .bool false) O (cngA Value.bool (by simp))<|Ag (dj:=69) O O<|Ac O<|Ag (dj:=69) O O<|Ac O<|Ag (dj:=69) O O<|Aj O O (SZ q m ts ms _ ⟨M.sl,fun c V=>(L.each c V).at⟩ S) ?_
 rintro _ w ⟨rfl,d⟩
 have B:=B.bs d
 have h:=h.bs d
 have D:=D.bs d
 have C:=C.bs d
 have f:=f.bs d
 have E:=E.bs d
 have j:=j.bs d
 have I:=I.bs d
 have N:=N.bs d
 have g:=g.bs d
 have o:=o.bs d
 have y:=y.bs d
 have F:=F.bs d
 have K:=K.bs d
 have L:=L.bs d
 have M:=M.bs d
 have U:=U.bs d
 have S:=S.bs d
 refine Ag (dj:=69) O O<|Aa (Ck O) O<|Cn O<|Ac O<|C5 75 (v' := .bool false) O (cngA Value.bool (by rw [vl',vm];simp))<|Ag (dj:=75) O O<|Ac O<|Ag (dj:=75) O O<|Ac O<|Ag (dj:=75) O O<|Aa (Cs O O) O<|Cn O<|Ac O<|C5 80 (v' := .bool false) O (cngA Value.bool (by simp))<|Ag (dj:=80) O O<|Aa (B9 (k:=1) (FC _) (DR _) O O j) O<|Ag (dj:=80) O O<|Be underlying66 O (DR _)<|Ag (dj:=80) O O<|Aa (Eg (ds:=[v]) (FC _) (DR _) O O ‹_› rfl) O ?_
 refine Ag (dj:=80) O O<|Aj O O (Ox gv v gs T _ _ _ E h eG) ?_
 rintro _ w ⟨rfl,d⟩
 have B:=B.bs d
 have h:=h.bs d
 have D:=D.bs d
 have C:=C.bs d
 have f:=f.bs d
 have E:=E.bs d
 have j:=j.bs d
 have I:=I.bs d
 have N:=N.bs d
 have g:=g.bs d
 have o:=o.bs d
 have y:=y.bs d
 have F:=F.bs d
 have K:=K.bs d
 have L:=L.bs d
 have M:=M.bs d
 have U:=U.bs d
 have S:=S.bs d
 refine Ag (dj:=80) O O<|Aa (Ck O) O<|Cn O<|Ac O<|C5 87 (v' := .bool false) O (cngA Value.bool (rfl))<|Ag (dj:=87) O O<|Ac O<|Ag (dj:=87) O O<|Be underlying66 O (GA _)<|Ag (dj:=87) O O<|Aa (Ah (EY _) O ‹_› rfl) O ?_
 refine Ag (dj:=87) O O<|Aj O O (Ts wv u us ws _ _ _ I D eU) ?_
 rintro _ w ⟨rfl,d⟩
 have B:=B.bs d
 have h:=h.bs d
 have D:=D.bs d
 have C:=C.bs d
 have f:=f.bs d
 have E:=E.bs d
 have j:=j.bs d
 have I:=I.bs d
 have N:=N.bs d
 have g:=g.bs d
 have o:=o.bs d
 have y:=y.bs d
 have F:=F.bs d
 have K:=K.bs d
 have L:=L.bs d
 have M:=M.bs d
 have U:=U.bs d
 have S:=S.bs d
 refine Ag (dj:=87) O O<|Aa (Ck O) O<|Cn O<|Ac O<|C5 94 (v' := .bool false) O (cngA Value.bool (rfl))<|Ag (dj:=94) O O<|Aa (B9 (AT _) (AP _) O O ‹_›) O ?_
 refine Ag (dj:=94) O O<|Aa (D4 (q:=1) underlying66 O (AP _) O) O<|Ag (dj:=94) O O<|Aa (Eg (ds:=[t.x,t.y]) (AT _) (AP _) O O ‹_› rfl) O ?_
 refine Ag (dj:=94) O O<|Aj O O (JI t Z py _ _ _ C N) ?_
 rintro _ w ⟨rfl,d⟩
 have B:=B.bs d
 have h:=h.bs d
 have D:=D.bs d
 have C:=C.bs d
 have f:=f.bs d
 have E:=E.bs d
 have j:=j.bs d
 have I:=I.bs d
 have N:=N.bs d
 have g:=g.bs d
 have o:=o.bs d
 have y:=y.bs d
 have F:=F.bs d
 have K:=K.bs d
 have L:=L.bs d
 have M:=M.bs d
 have U:=U.bs d
 have S:=S.bs d
 refine Ag (dj:=94) O O<|Aa (Ck O) O<|Cn O<|Ak<|Ca O false (rfl)<|Co<|Aa (C4 (vs:=[]) (cs:=[.int .i64 0, .slice none 0 0, .slice none 0 0, .slice none 0 0, .slice none 0 0, .slice none 0 0, .slice none 0 0, .slice none 0 0, .slice none 0 0, .slice none 0 0, .slice none 0 0, .slice none 0 0, .slice none 0 0, .slice none 0 0, .slice none 0 0, .slice none 0 0]) O (by kernel_rfl)) O ?_
 have zC:=AA U
 have yb:=AH K
 refine C1 (cs:= .int .i64 0::replicate 15 (.slice none 0 0)) Y2 O O O O (fun _=>rfl) (rfl) ?_
 rintro A w eA_k b_k d zhn
 have zk:=d.size
 have B:=B.bs d
 have h:=h.bs d
 have D:=D.bs d
 have C:=C.bs d
 have f:=f.bs d
 have E:=E.bs d
 have j:=j.bs d
 have I:=I.bs d
 have N:=N.bs d
 have g:=g.bs d
 have o:=o.bs d
 have y:=y.bs d
 have F:=F.bs d
 have K:=K.bs d
 have L:=L.bs d
 have M:=M.bs d
 have U:=U.bs d
 have S:=S.bs d
 have Q:=XA b_k
 have zw:=AA B
 obtain ⟨n1,e1⟩:∃n,n=0+2*(gs.length:Int)+1:=⟨_,rfl⟩
 obtain ⟨n2,e2⟩:∃n,n=n1+2*(us.length:Int)+1:=⟨_,rfl⟩
 obtain ⟨n3,e3⟩:∃n,n=n2+2:=⟨_,rfl⟩
 obtain ⟨n4,e4⟩:∃n,n=n3+2:=⟨_,rfl⟩
 have lowG:=P5 E (show tG≤A by omega)
 have H:=Ro I (show Y≤A by omega)
 have G:=Rx kk kl (show _≤A by omega)
 have gI:=E.all.kin (n:=0) (Int.le_refl 0) (by omega) fun c V=>by have:=ge c V;omega
 have gD:=FV.one (n:=n1) (.inl E.own) (fun b e=>(E.rb b e).2) (by omega) (by omega) (by omega)
 obtain ⟨uI,uN⟩:=I.all.kin (n:=n1) (by omega) (by omega) fun c V=>by have:=ue c V;omega
 have uT:=FV.one (n:=n2) (.inl I.own) (fun b e=>(I.rb b e).2) (by omega) (by omega) (by omega)
 have hp:=N.held
 have pI:=FV.one (n:=n2+1) hp.rx (fun b e=>(hp.bx b e).2) (by omega) (by omega) (show t.s.length≤16777216 by omega)
 have pN:=FV.one (n:=n3) hp.ry (fun b e=>(hp.by' b e).2) (by omega) (by omega) (show t.l.length≤16777216 by omega)
 have aI:=FV.one (n:=n3+1) o.rx (fun b e=>(o.bx b e).2) (by omega) (by omega) few_a.1
 have aN:=FV.one (n:=n4) o.ry (fun b e=>(o.by' b e).2) (by omega) (by omega) few_a.2
 obtain ⟨lI,lN⟩:=kk.kin (n:=n4) (by omega) (by omega) few_l
 have lT:=FV.one (n:=n4+2*(ts.length:Int)+1) kl (fun b e=>(kl.lt b e).2) (by omega) (by omega) (by omega)
 have lI:=lI.bs U
 have lN:=lN.bs U
 have lT:=lT.bs U
 have KI:=(((((gI.app uI (by omega) (by omega) (by omega)).app pI (by omega) (by omega) (by omega)).app aI (by omega) (by omega) (by omega)).app lI (by omega) (by omega) (by omega))).wide (show W.heap.size≤_ by omega) (show _≤A by omega)
 have KN:=(((uN.app pN (by omega) (by omega) (by omega)).app aN (by omega) (by omega) (by omega)).app lN (by omega) (by omega) (by omega)).wide (show W.heap.size≤_ by omega) (show _≤A by omega)
 have KT:=(uT.app lT (by omega) (by omega) (by omega)).wide (show W.heap.size≤_ by omega) (show _≤A by omega)
 have KD:=gD.wide (show W.heap.size≤_ by omega) (show _≤A by omega)
 have Y:=I.tens
 have tL:CN w q ts:=⟨M.sl,fun c V=>(L.each c V).at⟩
 have X:=hp.at
 have J:=o.at
 have pl:T4.low A ⟨Z,py,t.s,t.l⟩:=⟨fun b e=>by have:=hp.bx b e;omega,fun b e=>by have:=hp.by' b e;omega⟩
 have al:T4.low A a:=⟨fun b e=>by have:=o.bx b e;omega,fun b e=>by have:=o.by' b e;omega⟩
 clear gI gD uI uN uT pI pN aI aN lI lN lT kk kl
 refine Bl<|Aa (B9 (k:=1) (FC _) (DR _) O O j) O<|Aj O O (OS w A A 0 _ _ _ _ _ _ _ _ _ _ gv gs Q E.gn lowG.1 lowG.2 (by omega)) ?_
 rintro _ w ⟨rfl,d,_,_,Q⟩
 rw [← e1] at Q
 have B:=B.trans (d.mono (show W.heap.size≤A by omega))
 have KI:=KI.below d (AX _)
 have KN:=KN.below d (AX _)
 have KT:=KT.below d (AX _)
 have KD:=KD.below d (AX _)
 have Y:=EP Y H.1 H.2 d
 have tL:=EP tL G.1 G.2 d
 have X:(⟨Z,py,t.s,t.l⟩:T4).at w:=⟨CU X.1 pl.1 d,CU X.2 pl.2 d⟩
 have J:a.at w:=⟨CU J.1 al.1 d,CU J.2 al.2 d⟩
 have g:=g.keep (d.block A_p (by omega))
 have y:=y.keep (d.block A_a (by omega))
 refine Bl<|Ac O<|Aj O O (IW w A A n1 _ _ _ _ _ _ _ _ _ _ wv us Q Y H.1 H.2 (by omega)) ?_
 rintro _ w ⟨rfl,d,_,_,_,Q⟩
 rw [← e2] at Q
 have B:=B.trans (d.mono (show W.heap.size≤A by omega))
 have KI:=KI.below d (AX _)
 have KN:=KN.below d (AX _)
 have KT:=KT.below d (AX _)
 have KD:=KD.below d (AX _)
 have Y:=EP Y H.1 H.2 d
 have tL:=EP tL G.1 G.2 d
 have X:(⟨Z,py,t.s,t.l⟩:T4).at w:=⟨CU X.1 pl.1 d,CU X.2 pl.2 d⟩
 have J:a.at w:=⟨CU J.1 al.1 d,CU J.2 al.2 d⟩
 have g:=g.keep (d.block A_p (by omega))
 have y:=y.keep (d.block A_a (by omega))
 refine Bl<|Aa (B9 (AT _) (AP _) O O ‹_›) O ?_
 refine Aj O O (HL w A A n2 _ _ _ _ _ _ _ _ _ _ Z py _ _ _ _ Q X.1 X.2 pl.2 (by omega)) ?_
 rintro _ w ⟨rfl,d,_,_,Q⟩
 rw [← e3] at Q
 have B:=B.trans (d.mono (show W.heap.size≤A by omega))
 have KI:=KI.below d (AX _)
 have KN:=KN.below d (AX _)
 have KT:=KT.below d (AX _)
 have KD:=KD.below d (AX _)
 have Y:=EP Y H.1 H.2 d
 have tL:=EP tL G.1 G.2 d
 have X:(⟨Z,py,t.s,t.l⟩:T4).at w:=⟨CU X.1 pl.1 d,CU X.2 pl.2 d⟩
 have J:a.at w:=⟨CU J.1 al.1 d,CU J.2 al.2 d⟩
 have g:=g.keep (d.block A_p (by omega))
 have y:=y.keep (d.block A_a (by omega))
 refine Bl<|Aa (B9 (AT _) (AP _) O O ‹_›) O ?_
 refine Aj O O (HL w A A n3 _ _ _ _ _ _ _ _ _ _ a.x a.y _ _ _ _ Q J.1 J.2 al.2 (by omega)) ?_
 rintro _ w ⟨rfl,d,_,_,Q⟩
 rw [← e4] at Q
 have B:=B.trans (d.mono (show W.heap.size≤A by omega))
 have KI:=KI.below d (AX _)
 have KN:=KN.below d (AX _)
 have KT:=KT.below d (AX _)
 have KD:=KD.below d (AX _)
 have Y:=EP Y H.1 H.2 d
 have tL:=EP tL G.1 G.2 d
 have X:(⟨Z,py,t.s,t.l⟩:T4).at w:=⟨CU X.1 pl.1 d,CU X.2 pl.2 d⟩
 have J:a.at w:=⟨CU J.1 al.1 d,CU J.2 al.2 d⟩
 have g:=g.keep (d.block A_p (by omega))
 have y:=y.keep (d.block A_a (by omega))
 refine Bl<|Ac O<|Aj O O (IW w A A n4 _ _ _ _ _ _ _ _ _ _ q ts Q tL G.1 G.2 (by omega)) ?_
 rintro _ w ⟨rfl,d,_,_,_,Q⟩
 have B:=B.trans (d.mono (show W.heap.size≤A by omega))
 have KI:=KI.below d (AX _)
 have KN:=KN.below d (AX _)
 have KT:=KT.below d (AX _)
 have KD:=KD.below d (AX _)
 have Y:=EP Y H.1 H.2 d
 have tL:=EP tL G.1 G.2 d
 have X:(⟨Z,py,t.s,t.l⟩:T4).at w:=⟨CU X.1 pl.1 d,CU X.2 pl.2 d⟩
 have J:a.at w:=⟨CU J.1 al.1 d,CU J.2 al.2 d⟩
 have g:=g.keep (d.block A_p (by omega))
 have y:=y.keep (d.block A_a (by omega))
 refine Bl<|Aj O O (Uo w A A W.heap.size _ _ _ _ _ _ _ _ _ _ _ Q (E4 _ _ _ _ _) KI KN KT KD (by omega)) ?_
 rintro _ w ⟨rfl,d⟩
 exact Ab rfl<|Bc<|Ax rfl rfl<|⟨rfl,B.trans d⟩
def R2:DataW Unit→Array Value
 | .agg l=>(l.map fun d=>match d with| .lit (.int k n)=>Value.int k n|_=>Value.bool false).toArray
 |_=> #[]
noncomputable def MI (os:Os):World:=
 {World.holding prog os ⟨#[], #[],[]⟩ with heap:=Rows.meansRunRow.laid.foldl (fun h x=>h.modify ((Tryz.prog.globalNamed x.1).getD 0) fun| .cells _ t fz=> .cells (R2 x.2) t fz|o=>o) (World.holding prog os ⟨#[], #[],[]⟩).heap}
theorem Tu (os:Os) (args:Array Value):laidMetH prog Rows.meansRunRow.laid ((MI os).forCall (fun _ _=>0) ⟨#[],args,[]⟩).memory:=
 laidMetH_of_parts (laidMet_of_run' 8 (by kernel_rfl) (by kernel_rfl)) (by kernel_rfl)
set_option maxRecDepth 100000 in
set_option maxHeartbeats 2000000 in
theorem KK (os:Os) (a:os.Started) (H:Type) (enc:TypeId×Value→H):
  ReturnsInHanded {} Tryz.checked os 4 .any (fun w args=>(Rows.meansRunSpec.pre enc prog Tryz.f4 Rows.meansRunRow.domain false w args∧laidMetH prog Rows.meansRunRow.laid w)∧sizedMet enc prog Tryz.f4 (OpenSpec.ofChange Rows.meansRunSpec) false w args) (Rows.meansRunSpec.post enc prog Tryz.f4 false true false false):=by
 refine returnsInHanded_of_change_and (C:=Tryz.checked) (X:=fun w _=>laidMetH prog Rows.meansRunRow.laid w) (fun _ _ _ R h=>h.of_heap R) own a (by kernel_rfl) func4
  (ChangeSpec.witness_at (enc:=enc) (C:=Tryz.checked) (os:=os) (X:=fun w _=>laidMetH prog Rows.meansRunRow.laid w) false (MI os) #[.agg #[.slice none 0 0, .slice none 0 0, .slice none 0 0, .slice none 0 0]] 8 rfl (by kernel_rfl) (by kernel_rfl) (by kernel_rfl) (by kernel_rfl) (by kernel_rfl) (Tu os _)) ?_
 intro W base args ds J k b s A d _ _
 have c:∀(j:Nat) t v,Tryz.f4.params[j]? =some t→args[j]? =some v→Value.okWide prog W .any base t v:=b
 have o:=s
 obtain ⟨p,q,g,hV,rfl,hfz,S⟩:=s
 have z:DataW.TrodAll enc prog W 0 (fun _=>true) true Tryz.f4.params.toList args.toList ds p:=g
 have f:(DataW.weightsEach prog (Tryz.f4.params.toList++Rows.meansRunSpec.plain.varTypes prog) (ds++J)).all (·≤reachBytes)=true:=d
 rw [Tryz.params4] at z c f
 obtain ⟨B,vs0,d0,E,Z,q0,n,rfl,rfl,r,I⟩:=trodAll_cons z
 obtain ⟨rfl,rfl,rfl⟩:=trodAll_nil I
 obtain rfl:args= #[B]:=by cases args;simp_all
 obtain ⟨rfl,rfl⟩:=trodVars_none hV
 have y:=r
 have l:∀x ∈ Z,x.block<W.heap.size:=by obtain ⟨m,U⟩:=y;exact DataW.trod_lt m _ _ _ U
 have N:=Y5 (j:=0) (t:=66) f rfl rfl r
 have Y:=c 0 66 B rfl rfl
 clear g b d f
 obtain ⟨v,u,F,ws,t,rfl,K,D,T,G,M,V,L,Q⟩:=RQ Y N
 refine (R1 (P6 v u F ws t W K D T G M V L Q)).mono fun e W' ⟨he,i⟩=> ?_
 subst he
 exact ⟨_,rfl,_,_,_,[],_,[],o,trodAll_mk1 (shut_bool YR _),(trodAll_cons_mk (Below.trod Vu (by kernel_rfl) (AD (by kernel_rfl)) y i l) trodAll_mk0),rfl,i.frame _,fun h=>by cases h⟩
theorem L9:Rows.MeansRunSaid:=
 OpenClaim.holds_of_wide 4 Tryz.f4 rfl rfl rfl rfl rfl rfl rfl ⟨rfl,rfl,rfl,rfl,rfl⟩ rfl rfl rfl rfl rfl (by kernel_rfl) func4 (by kernel_rfl)
  (AD (by kernel_rfl)) (by unfold Func.isWrapper;first|(rw [if_pos (by decide+kernel)];kernel_rfl)|(rw [if_neg (by decide+kernel)];exact ⟨rfl,rfl⟩))
  (fun os a H enc _=>KK os a H enc)
theorem meansRun_proved:Rows.MeansRunCardSaid:=
 Claim7.holds_tied_plain_at .later [] [.data, .data, .data] true (true, "12f6ff630a68dfb2284c7fd28044138ea90098ab6f1849db645fccf93891bb26") false
  L9 (fun _ h=>by cases h) (by kernel_rfl) (fun _ h=>by cases h) meansRun_row_tie rfl ⟨rfl,rfl⟩ (by kernel_rfl) rfl
  (fun f d c a=>by
   obtain rfl : f = 4 := Option.some.inj ((show Tryz.prog.funcNamed "drydock/drydocklaw13.MeansRun" = some 4 by kernel_rfl).symm.trans c) |>.symm
   obtain rfl:d=Tryz.f4:=(Option.some.inj (Tryz.func4.symm.trans a)).symm
   refine ⟨by kernel_rfl,fun j t b=> ?_⟩
   rw [Tryz.params4] at b
   have g:t ∈ [66]:=mem_of_getElem? (by simpa using b)
   have e:([66]:List TypeId).all (fun t=>Tryz.prog.wantsStandIn t==false)=true:=by kernel_rfl
   exact eq_of_beq (List.all_eq_true.1 e t g))
  (by kernel_rfl)
#print axioms meansRun_proved
end Go.Proofs.YtmipoeanpnnjoaaGreatDoor
