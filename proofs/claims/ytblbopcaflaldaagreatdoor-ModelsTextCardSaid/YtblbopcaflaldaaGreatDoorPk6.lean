/- Texts of this proof, one behind the other: TxtOf, TxtLaid, TxtLift. -/
import Derived.Test.YtblbopcaflaldaaGreatDoorPk4
import Derived.Test.YtblbopcaflaldaaGreatDoorPk5
import Derived.Test.YtblbopcaflaldaaGreatDoorPk3
import Derived.Test.YtblbopcaflaldaaGreatDoorRows
import Derived.Stop.LaidErr
import Derived.Shelf.Vars
import Derived.LaidLaws
import Derived.LaidHandle
import Derived.HandedShaped
import Derived.Stop.Joined

namespace Go.Proofs.YtblbopcaflaldaaGreatDoor
open Go Go.Dd Go.RowKit Go.ChangeShapes Go.WideShapes Go.ChangeAt List Go.Proofs.Tryz
set_option maxRecDepth 100000
-- dd: text
structure SM (w:World) (a d:Nat) (n:Int) (v:Value) (ls:List N5):Prop where
 ki:FV w a d 3 1 (MQ n ls)
 kd:FV w a d 79 5 [CP v ls.length (FR N5.cells ls) (n+2*ls.length+1)]
 gn:GN w v ls
 vl:∀b,v.ownBlock=some b→b<d
 lsl:∀t ∈ ls,t.low d
theorem SM.below {w w' :World} {a d B:Nat} {n:Int} {v:Value} {ls:List N5} (h:SM w a d n v ls) (g:Below B w w') (c:d≤B):SM w' a d n v ls:=
 have b:Below d w w' :=g.mono c
 ⟨h.ki.below b (AX _),h.kd.below b (AX _),NQ h.gn h.vl h.lsl b,h.vl,h.lsl⟩
theorem SM.wide {w:World} {a d f g:Nat} {n:Int} {v:Value} {ls:List N5} (h:SM w a d n v ls) (i:f≤a) (c:d≤g):SM w f g n v ls:=
 ⟨h.ki.wide i c,h.kd.wide i c,h.gn,fun b e=>by have:=h.vl b e;omega,fun t m=>KJ (h.lsl t m) c⟩
theorem O4 {w:World} {a d:Nat} {v:Value} {ls:List N5} (h:GR w a d ls) (k:AT w a 79 5 v ls.length (FR N5.cells ls)) (f:∀b,v.ownBlock=some b→b<d) (i:ls.length≤32) (F:∀c ∈ ls,c.i.length≤16777216∧c.s.length≤16777216) {n:Int} (g:0≤n) (j:n≤3000000):SM w a d n v ls:=
 ⟨h.kin (n:=n) g (by omega) F,FV.one k f (by omega) (by omega) (by omega),⟨k.sl,fun t m=>(h.each t m).at⟩,f,fun t m=>⟨fun b e=>((h.each t m).bx b e).2,fun b e=>((h.each t m).by' b e).2⟩⟩
theorem PQ {w:World} {a c:Nat} {v:Value} {ls:List N5} (h:DL w a c v ls) (d:ls.length≤900000) (F:∀x ∈ ls,x.i.length≤16777216∧x.s.length≤16777216):SM w a c 0 v ls:=
 ⟨h.all.kin (n:=0) (Int.le_refl 0) (by omega) F,FV.one (.inl h.own) (fun b e=>(h.rb b e).2) (by omega) (by omega) (by omega),h.gn,fun b e=>(h.rb b e).2,
  fun t m=>⟨fun b e=>(h.all.each t m).bx b e|>.2,fun b e=>(h.all.each t m).by' b e|>.2⟩⟩
theorem H1 (w:World) (b A:Nat) (n:Int) (k l o j c:List Hd) (e q un f p v:Value) (ls:List N5) (a d:Nat) (h:Bm w b A n k l o j c e q un f p) (I:SM w a d n v ls) (m:d≤b) (s:n+2*ls.length≤3999980):
  AJ prog 31 [.pointer (some ⟨A,0,none⟩), .agg [v].toArray] w (fun r w' =>r= .tuple #[]∧Below b w w' ∧∃i g,Bm w' b A (n+2*ls.length+1) k (l++MQ n ls) o j (c++[CP v ls.length (FR N5.cells ls) (n+2*ls.length+1)]) e i un f g):=by
 have J:=I.wide (AX _) m
 exact ML w b A n k l o j c e q un f p v ls h J.gn J.vl J.lsl s
theorem Sy (v:Value) (ls:List N5) (R:List UInt8) (E:Int) (W:World) (c:Jr W) (h:GN W v ls) (b:FZ ls=R) (a:G4 ls=E):AJ prog 25 [.agg [v].toArray] W (fun r w' =>Below W.heap.size W w' ∧r= .tuple #[st R, .int .i64 E]):=by
 subst b a
 exact Sz v ls W c h
theorem Sg (v:Value) (ls:List N5) (R:List UInt8) (E:Int) (W:World) (h:GN W v ls) (b:FZ ls=R) (a:G4 ls=E):AJ prog 26 [.agg [v].toArray] W (fun r w' =>Below W.heap.size W w' ∧r= .tuple #[st R, .int .i64 E]):=by
 subst b a
 exact Sh v ls W h
theorem O0 (s:List UInt8) (a e:Int) (P:List PN) (W:World) (g:Jr W) (d:Jp s=a) (c:Hs s=e) (f:GW s=P):AJ prog 27 [st s] W (fun r w' =>Below W.heap.size W w' ∧∃b ls,r= .tuple #[.agg [b].toArray, .int .i64 a, .int .i64 e]∧ls.map pn=P∧GR w' W.heap.size w'.heap.size ls∧AT w' W.heap.size 79 5 b ls.length (FR N5.cells ls)):=by
 subst d c f
 exact Ss s W g
theorem Qx (s:List UInt8) (a e:Int) (P:List PN) (W:World) (hs:s.length≤100000) (d:Jp s=a) (c:Hs s=e) (f:GW s=P):AJ prog 28 [st s] W (fun r w' =>Below W.heap.size W w' ∧∃b ls,r= .tuple #[.agg [b].toArray, .int .i64 a, .int .i64 e]∧ls.map pn=P∧GN w' b ls):=by
 subst d c f
 exact Qy s W hs
set_option maxHeartbeats 4000000 in
theorem Lo (v:Value) (ls:List N5) (s:List UInt8) (W:World) (p:Jr W) (h:GN W v ls) (hl:ls.length≤1125899906842624) (hf:∀t ∈ ls,t.few):
  AJ prog 4 [.agg [v].toArray,st s] W (fun r w' =>r= .bool true∧Below W.heap.size W w'):=by
 have l:=Below.refl W.heap.size W
 obtain ⟨R,hR⟩:∃R,R=FZ ls:=⟨_,rfl⟩
 obtain ⟨E,hE⟩:∃E,E=G4 ls:=⟨_,rfl⟩
 obtain ⟨pa,S⟩:∃x,x=Jp s:=⟨_,rfl⟩
 obtain ⟨pe,Q⟩:∃x,x=Hs s:=⟨_,rfl⟩
 obtain ⟨P,V⟩:∃x,x=GW s:=⟨_,rfl⟩
 refine Bd (n:=102) func4 O<|Ah<|C0 (cs:=[v]) O O O ?_
 rintro A_m w eA_m g d -
 have l:=l.bs d
 have h:=h.bs d
 have p:=p.bs d
 refine Ab O<|Bj<|Aa (Cj (DW _) (DV _) O O ‹_›) O ?_
 refine An O O (S9 v ls _ h hl hf) ?_
 rintro _ w ⟨rfl,d⟩
 have l:=l.bs d
 have h:=h.bs d
 have p:=p.bs d
 have g:=g.bs d
 refine Aa (Da O O) O<|Ad O ?_
 refine Bx 23 O ?_ ?_
 ·intro gm
  exact Ae (dj:=23) rfl rfl rfl rfl<|Ae (dj:=23) rfl rfl rfl rfl<|Ae (dj:=23) rfl rfl rfl rfl<|Bu rfl<|Aj<|B3 rfl<|Ah<|Ab rfl<|Bz<|Ax rfl rfl<|⟨rfl,l⟩
 intro gm
 have gm:Vc ls≤20000:=by have:=AB gm;omega
 refine Af (dj:=23) O O<|Ad O<|Af (dj:=23) O O<|Aa (Dw FC O) O<|Af (dj:=23) O O<|Aa (Da O O) O<|B4 O<|Aj<|Ao O ?_ ?_
 ·intro _
  exact Ah<|Ab rfl<|Bz<|Ax rfl rfl<|⟨rfl,l⟩
 intro gb
 have gb:s.length≤100000:=by have:=AB gb;omega
 have np:∀x ∈ ls.map JP,0≤x:=fun x hx=>by
  obtain ⟨a,_,rfl⟩:=List.mem_map.1 hx
  have:=Ll a;omega
 have N0:=J8 (n:=(ls.length:Int)) np
 have eg:Vc ls=1+K3 (ls.length:Int) (ls.map JP):=rfl
 have ne:∀a ∈ ls,a.i.length≤4194304∧a.s.length≤4194304:=fun a N=>by
  have h1:=LO (n:=(ls.length:Int)) np (by omega) (JP a) (List.mem_map.2 ⟨a,N,rfl⟩)
  have h2:=T6 (a:=a) (m:=60000) (by omega) (by decide)
  omega
 clear np
 refine Cp<|Aa (Cj (k:=1) (DW _) (DV _) O O g) O<|An O O (LM v ls _ h ne (by omega)) ?_
 rintro _ w ⟨d,U,K,rfl,u,eG⟩
 obtain ⟨tU,htU⟩:∃n,n=w.heap.size:=⟨_,rfl⟩
 rw [← htU] at u
 have t0:=AA l
 have zU:=d.size
 have l:=l.bs d
 have h:=h.bs d
 have p:=p.bs d
 have g:=g.bs d
 have lgs:K.length=ls.length:=by have:=cngA length eG;simpa using this
 have ge:∀a ∈ K,a.i.length≤16777216∧a.s.length≤16777216:=fun a N=>by
  have:nl a ∈ ls.map nl:=by rw [← eG];exact mem_map_of_mem N
  obtain ⟨c,hc,e⟩:=List.mem_map.1 this
  simp only [nl,Prod.mk.injEq] at e
  rw [← e.2.1,← e.2.2.1];have:=ne c hc;omega
 obtain ⟨eR,eE⟩:=RZ (us:=K) (ls:=ls) eG
 rw [← hR] at eR
 rw [← hE] at eE
 have oM:[U].all (·.oneCell')=true:=by rw [all_cons,(AG u.own).one'];rfl
 refine Cv (cs:=[U]) Jh O O O O (fun _=>rfl) (oM) ?_
 rintro T w eA_t f d G
 have zt:=d.size
 have l:=l.bs d
 have h:=h.bs d
 have p:=p.bs d
 have g:=g.bs d
 have u:=u.bs d
 refine Bg<|Aa (Cj (k:=1) (DW _) (DV _) O O f) O<|An O O (Sy U K R E _ p u.gn eR eE) ?_
 rintro _ w ⟨d,rfl⟩
 have zx:=d.size
 have l:=l.bs d
 have h:=h.bs d
 have p:=p.bs d
 have g:=g.bs d
 have u:=u.bs d
 have f:=f.bs d
 refine Ad O<|Aa (Ex.extract (i:=0) O O) O<|Aa (Ex.extract (i:=1) O O) O<|Ab O<|Ab O<|Bg<|Aa (Cj (k:=1) (DW _) (DV _) O O g) O<|An O O (Sg v ls R E _ h hR.symm hE.symm) ?_
 rintro _ w ⟨d,rfl⟩
 have zy:=d.size
 have l:=l.bs d
 have h:=h.bs d
 have p:=p.bs d
 have g:=g.bs d
 have u:=u.bs d
 have f:=f.bs d
 refine Ad O<|Aa (Ex.extract (i:=0) O O) O<|Aa (Ex.extract (i:=1) O O) O<|Ab O<|Ab O<|Bg<|Ad O<|An O O (O0 s pa pe P _ p S.symm Q.symm V.symm) ?_
 rintro _ w ⟨d,xv,xs,rfl,eX,A,y⟩
 obtain ⟨tX,htX⟩:∃n,n=w.heap.size:=⟨_,rfl⟩
 have Vx:=fun b e=>(y.lt b e).2
 rw [← htX] at A Vx
 have zX:=d.size
 have l:=l.bs d
 have h:=h.bs d
 have p:=p.bs d
 have g:=g.bs d
 have u:=u.bs d
 have f:=f.bs d
 have oX:[xv].all (·.oneCell')=true:=by rw [all_cons,y.sl.one'];rfl
 obtain ⟨x1,x2⟩:=O1 (eX.trans V)
 refine Ad O<|Aa (Ex.extract (i:=0) O O) O<|Aa (Ex.extract (i:=1) O O) O<|Aa (Ex.extract (i:=2) O O) O<|Cv (cs:=[xv]) Jh O O O O (fun _=>rfl) (oX) ?_
 rintro M w eA_x j d G
 have zXb:=d.size
 have l:=l.bs d
 have h:=h.bs d
 have p:=p.bs d
 have g:=g.bs d
 have u:=u.bs d
 have f:=f.bs d
 have A:=A.bs d
 have y:=y.bs d
 refine Ab O<|Ab O<|Bg<|Ad O<|An O O (O0 s pa pe P _ p S.symm Q.symm V.symm) ?_
 rintro _ w ⟨d,yv,ys,rfl,eY,D,C⟩
 obtain ⟨tY,htY⟩:∃n,n=w.heap.size:=⟨_,rfl⟩
 have Vy:=fun b e=>(C.lt b e).2
 rw [← htY] at D Vy
 have zY:=d.size
 have l:=l.bs d
 have h:=h.bs d
 have p:=p.bs d
 have g:=g.bs d
 have u:=u.bs d
 have f:=f.bs d
 have A:=A.bs d
 have y:=y.bs d
 have j:=j.bs d
 have oY:[yv].all (·.oneCell')=true:=by rw [all_cons,C.sl.one'];rfl
 obtain ⟨y1,y2⟩:=O1 (eY.trans V)
 refine Ad O<|Aa (Ex.extract (i:=0) O O) O<|Aa (Ex.extract (i:=1) O O) O<|Aa (Ex.extract (i:=2) O O) O<|Cv (cs:=[yv]) Jh O O O O (fun _=>rfl) (oY) ?_
 rintro L w eA_y o d G
 have zYb:=d.size
 have l:=l.bs d
 have h:=h.bs d
 have p:=p.bs d
 have g:=g.bs d
 have u:=u.bs d
 have f:=f.bs d
 have A:=A.bs d
 have y:=y.bs d
 have j:=j.bs d
 have D:=D.bs d
 have C:=C.bs d
 refine Ab O<|Ab O<|Bg<|Ad O<|An O O (Qx s pa pe P _ gb S.symm Q.symm V.symm) ?_
 rintro _ w ⟨d,rv,rs,rfl,eS,F⟩
 have zR:=d.size
 have l:=l.bs d
 have h:=h.bs d
 have p:=p.bs d
 have g:=g.bs d
 have u:=u.bs d
 have f:=f.bs d
 have A:=A.bs d
 have y:=y.bs d
 have j:=j.bs d
 have D:=D.bs d
 have C:=C.bs d
 have o:=o.bs d
 have oS:[rv].all (·.oneCell')=true:=by rw [all_cons,F.sl.one'];rfl
 refine Ad O<|Aa (Ex.extract (i:=0) O O) O<|Aa (Ex.extract (i:=1) O O) O<|Aa (Ex.extract (i:=2) O O) O<|Cv (cs:=[rv]) Jh O O O O (fun _=>rfl) (oS) ?_
 rintro A_s w eA_s z d G
 have zRb:=d.size
 have l:=l.bs d
 have h:=h.bs d
 have p:=p.bs d
 have g:=g.bs d
 have u:=u.bs d
 have f:=f.bs d
 have A:=A.bs d
 have y:=y.bs d
 have j:=j.bs d
 have D:=D.bs d
 have C:=C.bs d
 have o:=o.bs d
 have F:=F.bs d
 have ex:xs.map pn=rs.map pn:=eX.trans eS.symm
 have ey:ys.map pn=rs.map pn:=eY.trans eS.symm
 refine Ab O<|Ab O<|Bj<|Ad O<|Ad O<|Aa (Dz O O) O<|Ad O<|Cm 61 (v' := .bool false) O (cngA Value.bool (by simp))<|Af (dj:=61) O O<|Ad O<|Af (dj:=61) O O<|Ad O<|Af (dj:=61) O O<|Aa (Cn O O) O<|B4 O<|Ad O<|Cm 66 (v' := .bool false) O (cngA Value.bool (by simp))<|Af (dj:=66) O O<|Aa (Cj (k:=1) (DW _) (DV _) O O j) O<|Af (dj:=66) O O<|Aa (Cj (k:=1) (DW _) (DV _) O O z) O<|Af (dj:=66) O O<|An O O (Jc xv rv xs rs _ ⟨y.sl,fun a N=>(A.each a N).at⟩ F) ?_
 rintro _ w ⟨rfl,d⟩
 have l:=l.bs d
 have h:=h.bs d
 have p:=p.bs d
 have g:=g.bs d
 have u:=u.bs d
 have f:=f.bs d
 have A:=A.bs d
 have y:=y.bs d
 have j:=j.bs d
 have D:=D.bs d
 have C:=C.bs d
 have o:=o.bs d
 have F:=F.bs d
 have z:=z.bs d
 refine Af (dj:=66) O O<|Aa (Co O) O<|B4 O<|Ad O<|Cm 72 (v' := .bool false) O (cngA Value.bool (by rw [ex];simp))<|Af (dj:=72) O O<|Aa (Cj (k:=1) (DW _) (DV _) O O o) O<|Af (dj:=72) O O<|Aa (Cj (k:=1) (DW _) (DV _) O O z) O<|Af (dj:=72) O O<|An O O (Jc yv rv ys rs _ ⟨C.sl,fun a N=>(D.each a N).at⟩ F) ?_
 rintro _ w ⟨rfl,d⟩
 have l:=l.bs d
 have h:=h.bs d
 have p:=p.bs d
 have g:=g.bs d
 have u:=u.bs d
 have f:=f.bs d
 have A:=A.bs d
 have y:=y.bs d
 have j:=j.bs d
 have D:=D.bs d
 have C:=C.bs d
 have o:=o.bs d
 have F:=F.bs d
 have z:=z.bs d
 refine Af (dj:=72) O O<|Aa (Co O) O<|B4 O<|Ad O<|Cm 78 (v' := .bool false) O (cngA Value.bool (by rw [ey];simp))<|Af (dj:=78) O O<|Ad O<|Af (dj:=78) O O<|Ad O<|Af (dj:=78) O O<|Aa (Cn O O) O<|B4 O<|Ad O<|Cm 83 (v' := .bool false) O (cngA Value.bool (by simp))<|Af (dj:=83) O O<|Ad O<|Af (dj:=83) O O<|Ad O<|Af (dj:=83) O O<|Aa (Cn O O) O<|B4 O<|Ad O<|Cm 88 (v' := .bool false) O (cngA Value.bool (by simp))<|Af (dj:=88) O O<|Aa (Cj (k:=1) (DW _) (DV _) O O f) O<|Af (dj:=88) O O<|Aa (Cj (k:=1) (DW _) (DV _) O O g) O<|Af (dj:=88) O O<|An O O (Mo U v K ls _ _ _ u h eG) ?_
 rintro _ w ⟨rfl,d⟩
 have l:=l.bs d
 have h:=h.bs d
 have p:=p.bs d
 have g:=g.bs d
 have u:=u.bs d
 have f:=f.bs d
 have A:=A.bs d
 have y:=y.bs d
 have j:=j.bs d
 have D:=D.bs d
 have C:=C.bs d
 have o:=o.bs d
 have F:=F.bs d
 have z:=z.bs d
 refine Af (dj:=88) O O<|Aa (Co O) O<|B4 O<|Aj<|Bv O false (rfl)<|Cp<|Aa (Cc (vs:=[]) (cs:=[.int .i64 0, .slice none 0 0, .slice none 0 0, .slice none 0 0, .slice none 0 0, .slice none 0 0, .slice none 0 0, .slice none 0 0, .slice none 0 0, .slice none 0 0, .slice none 0 0, .slice none 0 0, .slice none 0 0, .slice none 0 0, .slice none 0 0, .slice none 0 0]) O (by kernel_rfl)) O ?_
 have zC:=AA l
 have yt:=BL f
 have yx:=BL j
 have yy:=BL o
 have ys2:=BL z
 refine Cv (cs:= .int .i64 0::replicate 15 (.slice none 0 0)) UF O O O O (fun _=>rfl) (rfl) ?_
 rintro q w eA_k b_k d G
 have zk:=d.size
 have l:=l.bs d
 have h:=h.bs d
 have p:=p.bs d
 have g:=g.bs d
 have u:=u.bs d
 have f:=f.bs d
 have A:=A.bs d
 have y:=y.bs d
 have j:=j.bs d
 have D:=D.bs d
 have C:=C.bs d
 have o:=o.bs d
 have F:=F.bs d
 have z:=z.bs d
 have B:=Ud b_k
 have zw:=AA l
 obtain ⟨n1,e1⟩:∃n,n=0+2*(K.length:Int)+1:=⟨_,rfl⟩
 obtain ⟨n2,e2⟩:∃n,n=n1+2*(xs.length:Int)+1:=⟨_,rfl⟩
 have I:=PQ u (by omega) ge
 have H:=O4 A y Vx x1 x2 (n:=n1) (by omega) (by omega)
 have J:=O4 D C Vy y1 y2 (n:=n2) (by omega) (by omega)
 have Y:tU≤q:=by omega
 have Z:tX≤q:=by omega
 have X:tY≤q:=by omega
 clear u A y D C
 refine Bg<|Aa (Cj (k:=1) (DW _) (DV _) O O f) O<|An O O (H1 w q q 0 _ _ _ _ _ _ _ _ _ _ U K _ _ B I Y (by omega)) ?_
 rintro _ w ⟨rfl,d,_,_,B⟩
 rw [← e1] at B
 have l:=l.trans (d.mono (show W.heap.size≤q by omega))
 have I:=I.below d Y
 have H:=H.below d Z
 have J:=J.below d X
 have f:=f.keep (d.block T (by omega))
 have j:=j.keep (d.block M (by omega))
 have o:=o.keep (d.block L (by omega))
 refine Bg<|Aa (Cj (k:=1) (DW _) (DV _) O O j) O<|An O O (H1 w q q n1 _ _ _ _ _ _ _ _ _ _ xv xs _ _ B H Z (by omega)) ?_
 rintro _ w ⟨rfl,d,_,_,B⟩
 rw [← e2] at B
 have l:=l.trans (d.mono (show W.heap.size≤q by omega))
 have I:=I.below d Y
 have H:=H.below d Z
 have J:=J.below d X
 have f:=f.keep (d.block T (by omega))
 have j:=j.keep (d.block M (by omega))
 have o:=o.keep (d.block L (by omega))
 refine Bg<|Aa (Cj (k:=1) (DW _) (DV _) O O o) O<|An O O (H1 w q q n2 _ _ _ _ _ _ _ _ _ _ yv ys _ _ B J X (by omega)) ?_
 rintro _ w ⟨rfl,d,_,_,B⟩
 have l:=l.trans (d.mono (show W.heap.size≤q by omega))
 have I:=I.below d Y
 have H:=H.below d Z
 have J:=J.below d X
 have f:=f.keep (d.block T (by omega))
 have j:=j.keep (d.block M (by omega))
 have o:=o.keep (d.block L (by omega))
 refine Bg ?_
 have KI:=((I.ki.app H.ki (by omega) (by omega) (by omega)).app J.ki (by omega) (by omega) (by omega)).wide (show W.heap.size≤_ by omega) (show _≤q by omega)
 have KD:=((I.kd.app H.kd (by omega) (by omega) (by omega)).app J.kd (by omega) (by omega) (by omega)).wide (show W.heap.size≤_ by omega) (show _≤q by omega)
 rw [← e1,← e2] at KD
 refine An O O (R4 w q q W.heap.size _ _ _ _ _ _ _ _ _ _ _ B (Fk _ _ _ _ _) KI (Fk _ _ _ _ _) (Fk _ _ _ _ _) KD (by omega)) ?_
 rintro _ w ⟨rfl,d⟩
 exact Ab rfl<|Ay<|Ax rfl rfl<|⟨rfl,l.trans d⟩
end Go.Proofs.YtblbopcaflaldaaGreatDoor

namespace Go.Proofs.YtblbopcaflaldaaGreatDoor
open Go Go.Dd Go.RowKit Go.ChangeShapes List Go.Proofs.Tryz
set_option maxRecDepth 100000
def Rx:DataW Unit→List Value
 | .lit (.int k n)=>[.int k n]
 | .lit (.bool b)=>[.bool b]
 |_=>[]
def UJ:DataW Unit→List Value
 | .agg l=>l.flatMap Rx
 |d=>Rx d
def UI:DataW Unit→List Value
 | .agg l=>l.flatMap UJ
 |d=>Rx d
noncomputable def U9:Nat:=(World.holding prog default ⟨#[], #[],[]⟩).heap.size
noncomputable def Ka (os:Os):World:=
 let w0:=World.holding prog os ⟨#[.cells #[st [118,97,108,117,101,32,111,117,116,32,111,102,32,114,97,110,103,101]] 356, .cells #[st [105,110,118,97,108,105,100,32,115,121,110,116,97,120]] 356], #[],[]⟩
 {w0 with heap:=((Rows.modelsTextRow.laid.foldl (fun h x=>h.modify ((Tryz.prog.globalNamed x.1).getD 0) fun
   | .cells _ t fz=> .cells (UI x.2).toArray t fz
   |o=>o) w0.heap).modify 5 fun
   | .cells _ t fz=> .cells #[.iface 354 (.pointer (some ⟨U9,0,none⟩))] t fz
   |o=>o).modify 4 fun
   | .cells _ t fz=> .cells #[.iface 354 (.pointer (some ⟨U9+1,0,none⟩))] t fz
   |o=>o}
theorem Pn (os:Os) (args:Array Value):laidMetH prog Rows.modelsTextRow.laid ((Ka os).forCall (fun _ _=>0) ⟨#[],args,[]⟩).memory:=
 laidMetH_of_parts (laidMet_of_run' 8 (by kernel_rfl) (by kernel_rfl)) (by kernel_rfl)
theorem Oy (u : TypeId) (h : Tryz.prog.typeName? 3 u = some "*errors.errorString") : u = 354 :=
 typeName_ptr_named (nm := "errors.errorString") (by kernel_rfl) (by kernel_rfl) (by decide) u h
theorem M5 {W:World} (n:laidMetH prog Rows.modelsTextRow.laid W) (c:W.ShapedOpen prog):Jr W:=by
 have h:laidMet prog Rows.modelsTextRow.laid W:=n
 have f:=h.tail.tail
 have i:=f.tail.tail
 have l:=i.tail
 obtain ⟨a,s,k, -⟩:=laid_sentinel i (g:=5) (by kernel_rfl) (ti:=129) (by kernel_rfl) underlying129 Oy underlying354 underlying356 rfl rfl FC (by kernel_rfl) (by kernel_rfl)
 obtain ⟨b,u,j, -⟩:=laid_sentinel l (g:=4) (by kernel_rfl) (ti:=129) (by kernel_rfl) underlying129 Oy underlying354 underlying356 rfl rfl FC (by kernel_rfl) (by kernel_rfl)
 have d:W.cell? ⟨5,0,none⟩=some (.iface 354 (.pointer (some a))):=by simpa using World.var?_cell (g:=5) (by kernel_rfl) k 0
 have m:W.cell? ⟨4,0,none⟩=some (.iface 354 (.pointer (some b))):=by simpa using World.var?_cell (g:=4) (by kernel_rfl) j 0
 refine ⟨cell_of_shapedOpen_int c (g:=0) (t:=3) (zero:= #[.int .i64 0]) (AC (by kernel_rfl)) (by kernel_rfl) O (by kernel_rfl) (by kernel_rfl) K2,Lib.tabIs_of_head (g:=1) (by kernel_rfl) (by kernel_rfl) underlying332 PP (by kernel_rfl) (by kernel_rfl) f,⟨_,_,m⟩,⟨_,_,d⟩, ?_⟩
 rcases Nat.lt_or_ge 5 W.heap.size with e|e
 ·exact e
 ·rw [show W.cell? ⟨5,0,none⟩=none by simp [World.cell?,Array.getElem?_eq_none e]] at d
  cases d
end Go.Proofs.YtblbopcaflaldaaGreatDoor

namespace Go.Proofs.YtblbopcaflaldaaGreatDoor
open Go Go.Dd Go.RowKit Go.ChangeShapes List
set_option maxRecDepth 100000
theorem Pl {H:Type} {enc:TypeId×Value→H} {a:Assume} {C:Checked} {os:Os} {f:FuncId} {p:Func} {s:ChangeSpec} {o:List PathCond} {b m h k:Bool} {l:List (String×DataW Unit)}
  (own:ownKnob C.prog.godebug=none) (n:os.Started) (q:C.prog.inits.idxOf? f=none) (B:C.prog.funcs[f]? =some p)
  (J:∃(w:World) (c:Tape) (i:Input),w.os=os∧(w.forCall c i).Shaped C.prog∧i.vars=[]∧Input.okWide C.prog (w.forCall c i) .any w.heap.size f i∧
   ((s.pre enc C.prog p o b (w.forCall c i).memory i.args∧laidMetH C.prog l (w.forCall c i).memory)∧sizedMet enc C.prog p (OpenSpec.ofChange s) b (w.forCall c i).memory i.args)∧a.holds C.prog (lone (Frame.enter C.prog f i.args .normal) [] (w.forCall c i)))
  (u:∀(W:World) (base:Nat) (args:Array Value) (ds y:List (DataW H)) (d:List MemPlace),(∀(j:Nat) t v,p.params[j]? =some t→args[j]? =some v→Value.okWide C.prog W .any base t v)→
   DataW.Whole enc C.prog p.params.toList s.vars b W args.toList ds y d→(DataW.weightsEach C.prog (p.params.toList++s.plain.varTypes C.prog) (ds++y)).all (·≤reachBytes)=true→laidMetH C.prog l W→W.ShapedOpen C.prog→
   Calls C.prog f args W fun e E=>∃v,e= .returned v∧s.post enc C.prog p b m h k W args v E):
  ReturnsInHanded a C os f .any (fun w args=>(s.pre enc C.prog p o b w args∧laidMetH C.prog l w)∧sizedMet enc C.prog p (OpenSpec.ofChange s) b w args) (s.post enc C.prog p b m h k):=
 returnsInHanded_of_calls own n q J fun w c i _ A _ z x _=>by
  obtain ⟨_,_,_,g,F,_,_,_,_,r⟩:=z
  cases B.symm.trans F
  obtain ⟨⟨⟨ds,y,d,D,_⟩,G⟩,I⟩:=x
  refine (u _ _ _ ds y d r (DataW.Whole.of_heap (w' :=w.forCall c i) (by rfl) D) (I.weights D) (laidMetH.of_heap (w' :=w.forCall c i) (by rfl) G) A).mono ?_
  rintro e E ⟨v,rfl,K⟩
  exact ChangeSpec.post_blind K
end Go.Proofs.YtblbopcaflaldaaGreatDoor
