/- Texts of this proof, one behind the other: MdlOf, BackOf, TxtLaid, TxtLift. -/
import Derived.Test.YtblbopcaflaldaaGreatDoorPk4
import Derived.Test.YtblbopcaflaldaaGreatDoorRows
import Derived.Test.YtblbopcaflaldaaGreatDoorPk1
import Derived.Stop.LaidErr
import Derived.Shelf.Vars
import Derived.LaidLaws
import Derived.LaidHandle
import Derived.HandedShaped
import Derived.Stop.Joined

namespace Go.Proofs.YtblbopcaflaldaaGreatDoor
open Go Go.Dd Go.RowKit Go.ChangeShapes Go.WideShapes Go.ChangeAt List Go.Proofs.Tryz
set_option maxRecDepth 100000
theorem Of {ls:List N5} {ws:List T4} (h:Te ls ws≤60000):PX ls+IM (ws.length:Int) (ws.map fun t=>JQ t.s t.l)≤60000:=by
 have d:=H3 (l:=ws.map fun t=>JQ t.s t.l) (n:=(ws.length:Int)) (fun x b=>by
  obtain ⟨a,c,rfl⟩:=List.mem_map.1 b
  have:=IL a.s a.l;omega)
 unfold Te at h
 split at h<;>omega
theorem OJ {H:Type} {enc:TypeId×Value→H} {w:World} {base:Nat} {z:Value} (k:Value.okWide prog w .any base 27 z) (h:In enc prog w 27 z.cells.toList):
  ∃(v u:Value) (ls:List N5) (ws:List T4),z= .agg [v,u].toArray∧GN w v ls∧ls.length≤1125899906842624∧(∀t ∈ ls,t.few)∧EI w u ws∧ws.length≤1125899906842624∧(∀t ∈ ws,MK t):=by
 obtain ⟨cs,rfl,e⟩:=MT underlying27 k h
 obtain ⟨c,d⟩:=e.struct underlying27
 have s:Tryz.prog.cellsOf 27=2:=by kernel_rfl
 have q:Tryz.prog.cellsOf 24=1:=by kernel_rfl
 have o:Tryz.prog.cellsOf 25=1:=by kernel_rfl
 rw [s] at c
 obtain ⟨a,b,rfl⟩:∃a b,cs=[a,b]:=by
  match cs,c with
  |[a,b],_=>exact ⟨a,b,rfl⟩
 have i:In enc prog w 24 (([a,b].drop 0).take (Tryz.prog.cellsOf 24)):=d 0 _ rfl
 have g:In enc prog w 25 (([a,b].drop 1).take (Tryz.prog.cellsOf 25)):=d 1 _ rfl
 rw [q] at i
 rw [o] at g
 obtain ⟨v,ev,ls,n,r,p⟩:=PW i
 obtain ⟨u,f,ws,m,j,l⟩:=Rh g
 simp at ev f
 subst ev f
 exact ⟨_,_,ls,ws,rfl,n,r,p,m,j,l⟩

set_option maxHeartbeats 4000000 in
theorem KL (v u:Value) (ls:List N5) (ws:List T4) (W:World) (C:IK W) (h:GN W v ls) (hl:ls.length≤1125899906842624) (hf:∀t ∈ ls,t.few) (o:EI W u ws) (lw:ws.length≤1125899906842624) (fw:∀t ∈ ws,MK t):
  AO prog 6 [.agg [v,u].toArray] W (fun r w' =>r= .bool true∧Below W.heap.size W w'):=by
 have p:=Below.refl W.heap.size W
 obtain ⟨E,hE⟩:∃E,E=LB ls ws:=⟨_,rfl⟩
 obtain ⟨R,hR⟩:∃R,R=Jz ls ws:=⟨_,rfl⟩
 have R1:=PB ls ws
 rw [← hR] at R1
 refine A5 (n:=115) func6 O<|Ak<|Cv (cs:=[v,u]) O O O ?_
 rintro A_m w eA_m f b -
 have p:=p.bs b
 have h:=h.bs b
 have o:=o.bs b
 have C:=C.bs b
 refine Ab O<|Bc<|Ai O O (NA _ C) ?_
 rintro _ w ⟨rfl,b⟩
 have p:=p.bs b
 have h:=h.bs b
 have o:=o.bs b
 have C:=C.bs b
 have f:=f.bs b
 refine Aa (Cy O) O<|Ad O<|Co 12 (v' := .bool false) O (cngA Value.bool (rfl))<|Aj (dj:=12) O O<|Aa (Ch (k:=2) (Hb _) (GM _) O O f) O<|Aj (dj:=12) O O<|Ai O O (LA v u ls ws _ h hl hf o lw fw) ?_
 rintro _ w ⟨rfl,b⟩
 have p:=p.bs b
 have h:=h.bs b
 have o:=o.bs b
 have C:=C.bs b
 have f:=f.bs b
 refine Aj (dj:=12) O O<|Aa (C6 O O) O<|Cl O<|Al<|An O ?_ ?_
 ·intro gm
  refine Ak<|Ai O O (NA _ C) ?_
  rintro _ w ⟨rfl,b⟩
  have p:=p.bs b
  have h:=h.bs b
  have o:=o.bs b
  have C:=C.bs b
  have f:=f.bs b
  exact Ab rfl<|Bx<|Am rfl rfl<|⟨rfl,p⟩
 intro gm
 have gm:Te ls ws≤60000:=by have:=AE gm;omega
 have hm:ls.length≤1000000:=by
  have G0:=Of gm
  have N0:=H3 (l:=ls.map Jx) (n:=(ls.length:Int)) (fun x hx=>by
   obtain ⟨a,_,rfl⟩:=List.mem_map.1 hx
   have:=IR a;omega)
  have T0:=H3 (l:=ws.map fun t=>JQ t.s t.l) (n:=(ws.length:Int)) (fun x hx=>by
   obtain ⟨a,_,rfl⟩:=List.mem_map.1 hx
   have:=IL a.s a.l;omega)
  have eg:PX ls=1+IM (ls.length:Int) (ls.map Jx):=rfl
  omega
 clear gm hf fw
 refine Cf<|Aa (Ch (k:=2) (Hb _) (GM _) O O f) O<|Ai O O (Ss v u ls ws E R _ h o hE.symm hR.symm) ?_
 rintro _ d ⟨b,x,rfl,B⟩
 have p:=p.bs b
 have h:=h.bs b
 have o:=o.bs b
 have C:=C.bs b
 have f:=f.bs b
 refine Ad O<|Aa (A3 (i:=0) O O) O<|Aa (A3 (i:=1) O O) O<|Ab O<|Ab O<|Al<|Aq ?_
 refine D8 (St:=Bool) (fun z=>[(1, .pointer (some ⟨A_m,0,none⟩)),(3,x),(4, .int .i64 E),(5, .bool z)]) (fun z w' =>z=((FF ls).isSome && decide ((F2 ls).length=ws.length))∧Below d.heap.size d w') ?_ ?_
 ·have hu:=o.1.shp
  refine Cw.any mixed (fun w2 m _=> ?_)
  refine Da (fun w' =>Below d.heap.size d w') (fun H=> ?_) (m)
  refine B1 Bj<|Ah 0 O (fun d c=>Cm underlying27 O (BT _)) O<|Ah 1 O (fun d c=>D7 (ds:=[v]) (EX _) (BT _) O O (AN.bs ‹_› c) O) O<|Bn ?_
  refine AJ.only ‹_› (i:=2) (by kernel_rfl) O ?_
  refine Ai O O (HW v ls w2 (h.bs m)) ?_
  rintro _ w3 ⟨b,rfl⟩
  have m:=bt m b
  refine AJ.back<|B1 Bj<|Ah 3 O (fun d c=>Bt O) O<|Bn ?_
  refine F4 26 O ?_ ?_
  ·intro g
   refine Br (i:=4) (dj:=26) Bj O O O (by kernel_rfl) (by kernel_rfl) (by kernel_rfl) (fun d c=>Cm underlying27 O (BT _)) O<|Br (i:=5) (dj:=26) Bj O O O (by kernel_rfl) (by kernel_rfl) (by kernel_rfl) (fun d c=>D7 (ds:=[v]) (EX _) (BT _) O O (AN.bs ‹_› c) O) O<|Br (i:=8) (dj:=26) Bj O O O (by kernel_rfl) (by kernel_rfl) (by kernel_rfl) (fun d c=>Cm underlying27 O (DC _)) O<|Br (i:=9) (dj:=26) Bj O O O (by kernel_rfl) (by kernel_rfl) (by kernel_rfl) (fun d c=>Ap (FO _) O (AN.bs ‹_› c) O) O<|Br (i:=10) (dj:=26) Bj O O O (by kernel_rfl) (by kernel_rfl) (by kernel_rfl) (fun d c=>D6 CR O hu) O<|AJ.only ‹_› (i:=6) (by kernel_rfl) O ?_
   refine Aj (dj:=26) O O<|Ai O O (FY v ls w3 (h.bs m) hm) ?_
   rintro q w4 ⟨b,kq⟩
   have m:=bt m b
   have N:=kq.slT.shp
   refine AJ.back<|Br (i:=7) (dj:=26) Bj O O O (by kernel_rfl) (by kernel_rfl) (by kernel_rfl) (fun d c=>D6 AH O N) O<|Br (i:=11) (dj:=26) Bj O O O (by kernel_rfl) (by kernel_rfl) (by kernel_rfl) (fun d c=>Cn O O) O<|B1 Bj<|Ah 12 O (fun d c=>Db O O) O<|Ah 13 O (fun d c=>Bq O) O<|Bn<|AJ.done ‹_› (by kernel_rfl) ?_
   exact B5 ((decide (((CM ls).length:Int)=(ws.length:Int)))) ⟨rfl,rfl,rfl,rfl,trivial⟩ (⟨by rw [g,R6,Bool.true_and];exact decide_eq_decide.2 Int.ofNat_inj,m⟩)
  intro g
  refine Bl (i:=4) (dj:=26) Bj O O O O (by kernel_rfl) (by kernel_rfl) (by kernel_rfl) O<|Bl (i:=5) (dj:=26) Bj O O O O (by kernel_rfl) (by kernel_rfl) (by kernel_rfl) O<|Bl (i:=6) (dj:=26) Bj O O O O (by kernel_rfl) (by kernel_rfl) (by kernel_rfl) O<|Bl (i:=7) (dj:=26) Bj O O O O (by kernel_rfl) (by kernel_rfl) (by kernel_rfl) O<|Bl (i:=8) (dj:=26) Bj O O O O (by kernel_rfl) (by kernel_rfl) (by kernel_rfl) O<|Bl (i:=9) (dj:=26) Bj O O O O (by kernel_rfl) (by kernel_rfl) (by kernel_rfl) O<|Bl (i:=10) (dj:=26) Bj O O O O (by kernel_rfl) (by kernel_rfl) (by kernel_rfl) O<|Bl (i:=11) (dj:=26) Bj O O O O (by kernel_rfl) (by kernel_rfl) (by kernel_rfl) O<|B1 Bj<|Ah 12 O (fun d c=>Dm O O) O<|Ah 13 O (fun d c=>Bq O) O<|Bn<|AJ.done ‹_› (by kernel_rfl) ?_
  exact B5 (false) ⟨rfl,rfl,rfl,rfl,trivial⟩ (⟨by rw [g];rfl,m⟩)
 rintro z w2 ⟨ez,m⟩
 refine Aq<|Ak<|Ab O<|Al<|Ax ?_
 refine B2 (S:=(Bool×Nat)) (fun y=>[(1, .pointer (some ⟨A_m,0,none⟩)),(3,x),(4, .int .i64 E),(5, .bool y.1),(6, .int .i64 (y.2:Int))]) (fun y w' =>y.2≤ws.length∧Below d.heap.size d w' ∧(y.1=true→(FF ls).isSome=true∧(F2 ls).length=ws.length∧∀j,j<y.2→LW ls ws j=true)∧(y.1=false→EF ls ws=false)) (fun y=>ws.length - y.2) ((z,0)) ⟨rfl,rfl,rfl,rfl,rfl,trivial⟩ ?_ ?_
 ·refine ⟨Nat.zero_le _,m,fun e=> ?_,fun e=> ?_⟩
  ·have e:z=true:=e
   rw [ez,Bool.and_eq_true,decide_eq_true_eq] at e
   exact ⟨e.1,e.2,fun j J=>absurd J (Nat.not_lt_zero j)⟩
  ·have e:z=false:=e
   cases hm:EF ls ws with
   |false=>rfl
   |true=>
    obtain ⟨k1,k2, -⟩:=KN.1 hm
    rw [ez,k1,k2,decide_eq_true rfl] at e
    cases e
 clear m ez
 rintro ⟨may,i⟩ w3 ⟨hi,m,hy,b⟩
 dsimp only at hi m hy b ⊢
 have U:=(o.bs m).1
 have sm:=f.bs m
 refine Aq<|Ak<|Ad O<|Ad O ?_
 refine Cc 37 O ?_ ?_
 ·intro g
  refine Aj (dj:=37) O O<|Ad O<|Aj (dj:=37) O O<|Bb underlying27 O (DC _)<|Aj (dj:=37) O O<|Aa (Ap (FO _) O ‹_› rfl) O ?_
  refine Aj (dj:=37) O O<|Aa (Au CR O ‹_›) O ?_
  refine Aj (dj:=37) O O<|B9 O<|Bv O<|Al<|An O ?_ ?_
  ·intro gi
   have s:i<ws.length:=by have:=AF gi;omega
   obtain ⟨h1,h2,h3⟩:=hy g
   have J:i<(CM ls).length:=by rw [← R6];omega
   obtain ⟨k,hk,ek,hF,eF⟩:=Mm J
   obtain ⟨a,ha,ham,c1,c2⟩:=K9 s
   have eJ:=Rn s ha hF eF
   have Y:LW ls ws i=false→EF ls ws=false:=fun e=>by
    cases hm2:EF ls ws with
    |false=>rfl
    |true=>rw [(KN.1 hm2).2.2 i s] at e;cases e
   have L:=(o.bs m).2 a ham
   have hv3:=h.bs m
   have uad:=(o.bs m).ad s
   have vad:=h.ad hk
   have e0:ls.getD k default=ls[k]:=Hn hk
   have hck:=(h.cell hk).2
   have hs:=((h.each _ (getElem_mem hk)).s).bs m
   refine B4<|Aq<|Ax ?_
   refine Cw.any mixed (fun w4 H _=> ?_)
   refine Da (fun w' =>Below w3.heap.size w3 w') (fun H=> ?_) (H)
   refine B1 (Ao (Af (Af (Ao (Af A8)))))<|Ah 0 O (fun d c=>Cm underlying27 O (DC _)) O<|Ah 1 O (fun d c=>Ap (FO _) O (AN.bs ‹_› c) O) O<|Ah 2 O (fun d c=>Bt O) O<|Ah 3 O (fun d c=>C5 CR O O (U.bs c) i O s) O<|Ah 4 O (fun d c=>D0 (cs:=[a.x,a.y]) (Ih _) (HA _) O (U.bs c) O (by decide) (Hh c1 c2)) O<|Bn<|AJ.only ‹_› (i:=5) (by kernel_rfl) O ?_
   refine Ai O O (Lo a.x a.y a.s a.l w4 (L.bs H).1 (L.bs H).2) ?_
   rintro _ w5 ⟨rfl,hn5⟩
   have H:=bt H hn5
   refine AJ.back<|B1 (Ao (Af (Af (Ao (Af A8)))))<|Ah 6 O (fun d c=>Bt O) O<|Bn ?_
   refine F4 52 O ?_ ?_
   ·intro g2
    refine Br (i:=7) (dj:=52) (Ao (Af (Af (Ao (Af A8))))) O O O (by kernel_rfl) (by kernel_rfl) (by kernel_rfl) (fun d c=>Cm underlying27 O (DC _)) O<|Br (i:=8) (dj:=52) (Ao (Af (Af (Ao (Af A8))))) O O O (by kernel_rfl) (by kernel_rfl) (by kernel_rfl) (fun d c=>Ap (FO _) O (AN.bs ‹_› c) O) O<|Br (i:=9) (dj:=52) (Ao (Af (Af (Ao (Af A8))))) O O O (by kernel_rfl) (by kernel_rfl) (by kernel_rfl) (fun d c=>Bt O) O<|Br (i:=10) (dj:=52) (Ao (Af (Af (Ao (Af A8))))) O O O (by kernel_rfl) (by kernel_rfl) (by kernel_rfl) (fun d c=>C5 CR O O (U.bs c) i O s) O<|Br (i:=11) (dj:=52) (Ao (Af (Af (Ao (Af A8))))) O O O (by kernel_rfl) (by kernel_rfl) (by kernel_rfl) (fun d c=>Dp (q:=0) underlying75 O (BK _) O uad) O<|Br (i:=12) (dj:=52) (Ao (Af (Af (Ao (Af A8))))) O O O (by kernel_rfl) (by kernel_rfl) (by kernel_rfl) (fun d c=>F0 (AV _) O (U.bs c) c1) O<|Br (i:=13) (dj:=52) (Ao (Af (Af (Ao (Af A8))))) O O O (by kernel_rfl) (by kernel_rfl) (by kernel_rfl) (fun d c=>Cm underlying27 O (BT _)) O<|Br (i:=14) (dj:=52) (Ao (Af (Af (Ao (Af A8))))) O O O (by kernel_rfl) (by kernel_rfl) (by kernel_rfl) (fun d c=>Cm underlying24 O (BY _)) O<|Br (i:=15) (dj:=52) (Ao (Af (Af (Ao (Af A8))))) O O O (by kernel_rfl) (by kernel_rfl) (by kernel_rfl) (fun d c=>Ap (DF _) O (AN.bs ‹_› c) O) O<|Br (i:=16) (dj:=52) (Ao (Af (Af (Ao (Af A8))))) O O O (by kernel_rfl) (by kernel_rfl) (by kernel_rfl) (fun d c=>Cm underlying27 O (BT _)) O<|Br (i:=17) (dj:=52) (Ao (Af (Af (Ao (Af A8))))) O O O (by kernel_rfl) (by kernel_rfl) (by kernel_rfl) (fun d c=>D7 (ds:=[v]) (EX _) (BT _) O O (AN.bs ‹_› c) O) O<|Br (i:=19) (dj:=52) (Ao (Af (Af (Ao (Af A8))))) O O O (by kernel_rfl) (by kernel_rfl) (by kernel_rfl) (fun d c=>Bt O) O<|AJ.only ‹_› (i:=18) (by kernel_rfl) O ?_
    refine Aj (dj:=52) O O<|Ai O O (FY v ls w5 (hv3.bs H) hm) ?_
    rintro q Z ⟨hn6,kq⟩
    have F:=bt H hn6
    have V:=Below.refl Z.heap.size Z
    have sq:=kq.sl
    have sv:=(hv3.bs F).sl
    have ejj:((CM ls).map (Value.int .i64))[i*1]? =some (Value.int .i64 (k:Int)):=by
     rw [Nat.mul_one,getElem?_map,getElem?_eq_getElem J,← ek,Hn J]
     rfl
    refine AJ.back<|QT (D:=fun w' =>Below Z.heap.size Z w') (fun d c=>bt F c)<|Br (i:=20) (dj:=52) (Ao (Af (Af (Ao (Af A8))))) O O O (by kernel_rfl) (by kernel_rfl) (by kernel_rfl) (fun d c=>C5 AH O O (sq.bs c) i O J) O<|Br (i:=21) (dj:=52) (Ao (Af (Af (Ao (Af A8))))) O O O (by kernel_rfl) (by kernel_rfl) (by kernel_rfl) (fun d c=>F0 (BD _) O (sq.bs c) ejj) O<|Br (i:=22) (dj:=52) (Ao (Af (Af (Ao (Af A8))))) O O O (by kernel_rfl) (by kernel_rfl) (by kernel_rfl) (fun d c=>C5 BV O O (sv.bs c) k O hk) O<|Br (i:=23) (dj:=52) (Ao (Af (Af (Ao (Af A8))))) O O O (by kernel_rfl) (by kernel_rfl) (by kernel_rfl) (fun d c=>Dp (q:=0) underlying79 O (BK _) O vad) O<|Br (i:=24) (dj:=52) (Ao (Af (Af (Ao (Af A8))))) O O O (by kernel_rfl) (by kernel_rfl) (by kernel_rfl) (fun d c=>F0 (AV _) O (sv.bs c) hck) O<|AJ.only ‹_› (i:=25) (by kernel_rfl) O ?_
    refine Aj (dj:=52) O O<|Ai O O (FU a.x ls[k].y a.s ls[k].s Z (L.bs F).1 (hs.bs F)) ?_
    rintro _ w7 ⟨rfl,hn7⟩
    have V:=bt V hn7
    refine AJ.back<|B1 (Ao (Af (Af (Ao (Af A8)))))<|Ah 26 O (fun d c=>Db O O) O<|Ah 27 O (fun d c=>Bq O) O<|Bn<|AJ.done ‹_› (by kernel_rfl) ?_
    refine Ba<|Ct<|Ad O<|Ce O (by omega)<|Ab O<|A9 ?_
    have eK:LW ls ws i=decide (a.s=ls[k].s):=by rw [eJ,g2,Bool.true_and,e0]
    exact Az (Bw ((decide (a.s=ls[k].s),i+1)) ⟨rfl,rfl,rfl,rfl,rfl,trivial⟩ (⟨s,bt m (bt F hn7),fun e=>⟨h1,h2,fun j J=>(Nat.lt_succ_iff_lt_or_eq.1 J).elim (h3 j) fun e2=>by rw [e2,eK];exact e⟩,fun e=>Y (by rw [eK];exact e)⟩) (by simp only;omega))
   intro g2
   refine Bl (i:=7) (dj:=52) (Ao (Af (Af (Ao (Af A8))))) O O O O (by kernel_rfl) (by kernel_rfl) (by kernel_rfl) O<|Bl (i:=8) (dj:=52) (Ao (Af (Af (Ao (Af A8))))) O O O O (by kernel_rfl) (by kernel_rfl) (by kernel_rfl) O<|Bl (i:=9) (dj:=52) (Ao (Af (Af (Ao (Af A8))))) O O O O (by kernel_rfl) (by kernel_rfl) (by kernel_rfl) O<|Bl (i:=10) (dj:=52) (Ao (Af (Af (Ao (Af A8))))) O O O O (by kernel_rfl) (by kernel_rfl) (by kernel_rfl) O<|Bl (i:=11) (dj:=52) (Ao (Af (Af (Ao (Af A8))))) O O O O (by kernel_rfl) (by kernel_rfl) (by kernel_rfl) O<|Bl (i:=12) (dj:=52) (Ao (Af (Af (Ao (Af A8))))) O O O O (by kernel_rfl) (by kernel_rfl) (by kernel_rfl) O<|Bl (i:=13) (dj:=52) (Ao (Af (Af (Ao (Af A8))))) O O O O (by kernel_rfl) (by kernel_rfl) (by kernel_rfl) O<|Bl (i:=14) (dj:=52) (Ao (Af (Af (Ao (Af A8))))) O O O O (by kernel_rfl) (by kernel_rfl) (by kernel_rfl) O<|Bl (i:=15) (dj:=52) (Ao (Af (Af (Ao (Af A8))))) O O O O (by kernel_rfl) (by kernel_rfl) (by kernel_rfl) O ?_
   refine Bl (i:=16) (dj:=52) (Ao (Af (Af (Ao (Af A8))))) O O O O (by kernel_rfl) (by kernel_rfl) (by kernel_rfl) O<|Bl (i:=17) (dj:=52) (Ao (Af (Af (Ao (Af A8))))) O O O O (by kernel_rfl) (by kernel_rfl) (by kernel_rfl) O<|Bl (i:=18) (dj:=52) (Ao (Af (Af (Ao (Af A8))))) O O O O (by kernel_rfl) (by kernel_rfl) (by kernel_rfl) O<|Bl (i:=19) (dj:=52) (Ao (Af (Af (Ao (Af A8))))) O O O O (by kernel_rfl) (by kernel_rfl) (by kernel_rfl) O<|Bl (i:=20) (dj:=52) (Ao (Af (Af (Ao (Af A8))))) O O O O (by kernel_rfl) (by kernel_rfl) (by kernel_rfl) O<|Bl (i:=21) (dj:=52) (Ao (Af (Af (Ao (Af A8))))) O O O O (by kernel_rfl) (by kernel_rfl) (by kernel_rfl) O<|Bl (i:=22) (dj:=52) (Ao (Af (Af (Ao (Af A8))))) O O O O (by kernel_rfl) (by kernel_rfl) (by kernel_rfl) O<|Bl (i:=23) (dj:=52) (Ao (Af (Af (Ao (Af A8))))) O O O O (by kernel_rfl) (by kernel_rfl) (by kernel_rfl) O<|Bl (i:=24) (dj:=52) (Ao (Af (Af (Ao (Af A8))))) O O O O (by kernel_rfl) (by kernel_rfl) (by kernel_rfl) O ?_
   refine Bl (i:=25) (dj:=52) (Ao (Af (Af (Ao (Af A8))))) O O O O (by kernel_rfl) (by kernel_rfl) (by kernel_rfl) O<|B1 (Ao (Af (Af (Ao (Af A8)))))<|Ah 26 O (fun d c=>Dm O O) O<|Ah 27 O (fun d c=>Bq O) O<|Bn<|AJ.done ‹_› (by kernel_rfl) ?_
   refine Ba<|Ct<|Ad O<|Ce O (by omega)<|Ab O<|A9 ?_
   exact Az (Bw ((false,i+1)) ⟨rfl,rfl,rfl,rfl,rfl,trivial⟩ (⟨s,bt m H,fun e=>(by cases e),fun _=>Y (by rw [eJ,g2];rfl)⟩) (by simp only;omega))
  intro gi
  have s:i=ws.length:=by have:=AE gi;omega
  have A:EF ls ws=true:=by
   obtain ⟨k1,k2,k3⟩:=hy g
   exact KN.2 ⟨k1,k2,by rw [← s];exact k3⟩
  clear hy b
  have E0:E=0:=by rw [hE];unfold LB;rw [if_pos A]
  have T:R=Hr ls ws:=by rw [hR];unfold Jz;rw [if_pos A]
  obtain ⟨gE,gR⟩:=Rl A
  rw [← T] at gE gR
  subst E0
  clear U sm C
  have h:=h.bs m
  have o:=o.bs m
  have B:=B.bs m
  have f:=f.bs m
  replace p:=bt p m
  clear m
  have nx:=B.slT.shp
  have g:may=true:=g
  subst g
  have rl:R.length=(CU ls ws).length+4:=by rw [T,HL]
  have rt:R.take (CU ls ws).length=CU ls ws:=by
   rw [T]
   have:=(Ns ls ws).1
   rwa [HL,Nat.add_sub_cancel] at this
  have X:(CU ls ws).length≤R.length:=by omega
  refine Bu<|Av<|Av<|Bf<|Az<|Cd<|Aq<|Ak<|Ad O<|Aa (Cn O O) O<|Ad O<|Aa (Ex.neqB RS O O) O<|Ad O<|Co 77 (v' := .bool false) O (cngA Value.bool (rfl))<|Aj (dj:=77) O O<|Ad O<|Aj (dj:=77) O O<|Aa (Cz O O) O<|Cl O<|Al<|Cq O false (rfl)<|Cf<|Ad O<|Ai O O (Sv x R 0 (ls.map pn,ws.map pv) _ B.slT gE (by rw [gR];rfl)) ?_
  rintro _ w ⟨b,M,Q,pns,pts,rfl,eP,hP⟩
  obtain ⟨ep1,ep2⟩:=Prod.mk.inj eP
  have K:=hP.gn
  have I:=hP.tens
  have oP:[M,Q].all (·.oneCell')=true:=by rw [all_cons,all_cons,K.sl.one',I.1.one'];rfl
  clear hP eP
  have p:=p.bs b
  have h:=h.bs b
  have o:=o.bs b
  have f:=f.bs b
  have B:=B.bs b
  refine Ad O<|Aa (A3 (i:=0) O O) O<|Aa (A3 (i:=1) O O) O<|C1 (cs:=[M,Q]) LK O O O O (fun _=>rfl) (oP) ?_
  rintro A_x w eA_x G b -
  have p:=p.bs b
  have h:=h.bs b
  have o:=o.bs b
  have f:=f.bs b
  have B:=B.bs b
  have K:=K.bs b
  have I:=I.bs b
  refine Ab O<|A0<|Ad O<|Aa (D6 AL O nx) O<|Aa (Ex.as (D5 O O (by omega)) (cngA (Value.int .i64) (show (R.length:Int) - 4=((CU ls ws).length:Int) by omega))) O<|Ab O<|A0<|Ad O<|Aa (Cn O O) O<|Ad O<|Co 102 (v' := .bool true) O (cngA Value.bool (rfl))<|Aj (dj:=102) O O<|Aa (Ch (k:=2) (Hb _) (GM _) O O G) O<|Aj (dj:=102) O O<|Aa (Ch (k:=2) (Hb _) (GM _) O O f) O<|Aj (dj:=102) O O<|Ai O O (Ls M v Q u pns ls pts ws _ K h I o) ?_
  rintro _ w ⟨rfl,b⟩
  have p:=p.bs b
  have h:=h.bs b
  have o:=o.bs b
  have f:=f.bs b
  have B:=B.bs b
  have K:=K.bs b
  have I:=I.bs b
  have G:=G.bs b
  refine Bv O<|Ad O<|Co 107 (v' := .bool true) O (cngA Value.bool (by rw [ep1,ep2];simp))<|Aj (dj:=107) O O<|Ad O<|Aj (dj:=107) O O<|Ad O<|Aj (dj:=107) O O<|Aa (Es (j:=(CU ls ws).length) AL O O B.slT X) O<|Aj (dj:=107) O O<|Ai O O (Lp (cut x 1 0 (CU ls ws).length) (R.take (CU ls ws).length) _ (BB.take B.slT X) (by rw [length_take];omega)) ?_
  rintro q w ⟨b,o_q⟩
  have N:BB b8 w q _:=AM o_q
  have p:=p.bs b
  have h:=h.bs b
  have o:=o.bs b
  have f:=f.bs b
  have B:=B.bs b
  have K:=K.bs b
  have I:=I.bs b
  have G:=G.bs b
  refine Aj (dj:=107) O O<|Ad O<|Aj (dj:=107) O O<|Ai O O (Lu q x _ R _ N B.slT) ?_
  rintro _ w ⟨rfl,b⟩
  refine Bv O<|Ab O<|As<|Am O O ?_
  refine ⟨?_,bt p b⟩
  have e3:Pf (R.take (CU ls ws).length)=R:=by rw [rt,T];rfl
  rw [decide_eq_true e3]
 intro g
 have g:may=false:=g
 subst g
 have A:=b rfl
 clear hy b
 have E0:E=1:=by rw [hE];unfold LB;rw [A];rfl
 have T:R=[]:=by rw [hR];unfold Jz;rw [A];rfl
 subst E0
 subst T
 have B:=B.bs m
 replace p:=bt p m
 have nx:=B.slT.shp
 exact Ae (dj:=37) rfl rfl rfl rfl<|Ae (dj:=37) rfl rfl rfl rfl<|Ae (dj:=37) rfl rfl rfl rfl<|Ae (dj:=37) rfl rfl rfl rfl<|Ae (dj:=37) rfl rfl rfl rfl<|Cl rfl<|Al<|Fo rfl<|Bu<|Av<|Av<|Bf<|Az<|Cd<|Aq<|Ak<|Ad rfl<|Aa (Cn rfl rfl) rfl<|Ad rfl<|Aa (Ex.neqB RS rfl rfl) rfl<|Ad rfl<|Co 77 (v' := .bool false) rfl (cngA Value.bool (rfl))<|Aj (dj:=77) rfl rfl<|Ad rfl<|Aj (dj:=77) rfl rfl<|Aa (Cz rfl rfl) rfl<|Cl rfl<|Al<|Cq rfl true (rfl)<|Ak<|Ad rfl<|Aa (Cn rfl rfl) rfl<|Ad rfl<|Co 83 (v' := .bool true) rfl (cngA Value.bool (rfl))<|Aj (dj:=83) rfl rfl<|Ad rfl<|Aj (dj:=83) rfl rfl<|Aa (Cy rfl) rfl<|Bv rfl<|Ad rfl<|Co 87 (v' := .bool true) rfl (cngA Value.bool (rfl))<|Aj (dj:=87) rfl rfl<|Ad rfl<|Aj (dj:=87) rfl rfl<|Aa (D6 AL rfl nx) rfl<|Aj (dj:=87) rfl rfl<|Aa (Cn rfl rfl) rfl<|Bv rfl<|Ab rfl<|Bx<|Am rfl rfl<|⟨rfl,p⟩
end Go.Proofs.YtblbopcaflaldaaGreatDoor

namespace Go.Proofs.YtblbopcaflaldaaGreatDoor
open Go Go.Dd Go.RowKit Go.ChangeShapes List Go.Proofs.Tryz
set_option maxRecDepth 100000
def Qq:DataW Unit→List Value
 | .lit (.int k n)=>[.int k n]
 | .lit (.bool b)=>[.bool b]
 |_=>[]
def TH:DataW Unit→List Value
 | .agg l=>l.flatMap Qq
 |d=>Qq d
def TG:DataW Unit→List Value
 | .agg l=>l.flatMap TH
 |d=>Qq d
noncomputable def T1:Nat:=(World.holding prog default ⟨#[], #[],[]⟩).heap.size
noncomputable def J6 (os:Os):World:=
 let w0:=World.holding prog os ⟨#[.cells #[st [118,97,108,117,101,32,111,117,116,32,111,102,32,114,97,110,103,101]] 356, .cells #[st [105,110,118,97,108,105,100,32,115,121,110,116,97,120]] 356], #[],[]⟩
 {w0 with heap:=((Rows.modelsTextRow.laid.foldl (fun h x=>h.modify ((Tryz.prog.globalNamed x.1).getD 0) fun
   | .cells _ t fz=> .cells (TG x.2).toArray t fz
   |o=>o) w0.heap).modify 5 fun
   | .cells _ t fz=> .cells #[.iface 354 (.pointer (some ⟨T1,0,none⟩))] t fz
   |o=>o).modify 4 fun
   | .cells _ t fz=> .cells #[.iface 354 (.pointer (some ⟨T1+1,0,none⟩))] t fz
   |o=>o}
theorem Oo (os:Os) (args:Array Value):laidMetH prog Rows.modelsTextRow.laid ((J6 os).forCall (fun _ _=>0) ⟨#[],args,[]⟩).memory:=
 laidMetH_of_parts (laidMet_of_run' 8 (by kernel_rfl) (by kernel_rfl)) (by kernel_rfl)
theorem Nm (u : TypeId) (h : Tryz.prog.typeName? 3 u = some "*errors.errorString") : u = 354 :=
 typeName_ptr_named (nm := "errors.errorString") (by kernel_rfl) (by kernel_rfl) (by decide) u h
theorem LQ {W:World} (n:laidMetH prog Rows.modelsTextRow.laid W) (c:W.ShapedOpen prog):IK W:=by
 have h:laidMet prog Rows.modelsTextRow.laid W:=n
 have f:=h.tail.tail
 have i:=f.tail.tail
 have l:=i.tail
 obtain ⟨a,s,k, -⟩:=laid_sentinel i (g:=5) (by kernel_rfl) (ti:=129) (by kernel_rfl) underlying129 Nm underlying354 underlying356 rfl rfl Ll (by kernel_rfl) (by kernel_rfl)
 obtain ⟨b,u,j, -⟩:=laid_sentinel l (g:=4) (by kernel_rfl) (ti:=129) (by kernel_rfl) underlying129 Nm underlying354 underlying356 rfl rfl Ll (by kernel_rfl) (by kernel_rfl)
 have d:W.cell? ⟨5,0,none⟩=some (.iface 354 (.pointer (some a))):=by simpa using World.var?_cell (g:=5) (by kernel_rfl) k 0
 have m:W.cell? ⟨4,0,none⟩=some (.iface 354 (.pointer (some b))):=by simpa using World.var?_cell (g:=4) (by kernel_rfl) j 0
 refine ⟨cell_of_shapedOpen_int c (g:=0) (t:=3) (zero:= #[.int .i64 0]) (AF (by kernel_rfl)) (by kernel_rfl) O (by kernel_rfl) (by kernel_rfl) H2,Lib.tabIs_of_head (g:=1) (by kernel_rfl) (by kernel_rfl) underlying332 OT (by kernel_rfl) (by kernel_rfl) f,⟨_,_,m⟩,⟨_,_,d⟩, ?_⟩
 rcases Nat.lt_or_ge 5 W.heap.size with e|e
 ·exact e
 ·rw [show W.cell? ⟨5,0,none⟩=none by simp [World.cell?,Array.getElem?_eq_none e]] at d
  cases d
end Go.Proofs.YtblbopcaflaldaaGreatDoor

namespace Go.Proofs.YtblbopcaflaldaaGreatDoor
open Go Go.Dd Go.RowKit Go.ChangeShapes List
set_option maxRecDepth 100000
theorem Om {H:Type} {enc:TypeId×Value→H} {a:Assume} {C:Checked} {os:Os} {f:FuncId} {p:Func} {s:ChangeSpec} {o:List PathCond} {b m h k:Bool} {l:List (String×DataW Unit)}
  (own:ownKnob C.prog.godebug=none) (n:os.Started) (q:C.prog.inits.idxOf? f=none) (B:C.prog.funcs[f]? =some p)
  (J:∃(w:World) (c:Tape) (i:Input),w.os=os∧(w.forCall c i).Shaped C.prog∧i.vars=[]∧Input.okWide C.prog (w.forCall c i) .any w.heap.size f i∧
   ((s.pre enc C.prog p o b (w.forCall c i).memory i.args∧laidMetH C.prog l (w.forCall c i).memory)∧sizedMet enc C.prog p (OpenSpec.ofChange s) b (w.forCall c i).memory i.args)∧a.holds C.prog (lone (Frame.enter C.prog f i.args .normal) [] (w.forCall c i)))
  (u:∀(W:World) (base:Nat) (args:Array Value) (ds y:List (DataW H)) (d:List MemPlace),(∀(j:Nat) t v,p.params[j]? =some t→args[j]? =some v→Value.okWide C.prog W .any base t v)→
   DataW.Whole enc C.prog p.params.toList s.vars b W args.toList ds y d→(DataW.weightsEach C.prog (p.params.toList++s.plain.varTypes C.prog) (ds++y)).all (·≤reachBytes)=true→laidMetH C.prog l W→W.ShapedOpen C.prog→
   Calls C.prog f args W fun e E=>∃v,e= .returned v∧s.post enc C.prog p b m h k W args v E):
  ReturnsInHanded a C os f .any (fun w args=>(s.pre enc C.prog p o b w args∧laidMetH C.prog l w)∧sizedMet enc C.prog p (OpenSpec.ofChange s) b w args) (s.post enc C.prog p b m h k):=
 returnsInHanded_of_calls own n q J fun w c i _ A _ z x _=>by
  obtain ⟨_,_,_,g,F,_,_,_,_,r⟩:=z
  cases B.symm.trans F
  obtain ⟨⟨⟨ds,y,d,D,_⟩,G⟩,I⟩:=x
  refine (u _ _ _ ds y d r (DataW.Whole.of_heap (w' :=w.forCall c i) (by rfl) D) (I.weights D) (laidMetH.of_heap (w' :=w.forCall c i) (by rfl) G) A).mono ?_
  rintro e E ⟨v,rfl,K⟩
  exact ChangeSpec.post_blind K
end Go.Proofs.YtblbopcaflaldaaGreatDoor
