/- Texts of this proof, one behind the other: MdlSame, MdlTwin, BackPl, TxtGot, UnlPl, RefProducts, WinOf, Win2, WinPool, RefWin, Pl, RefMoves, RefGraph, RefShapes, RefMdl, RefChk, RefMput, RefGet4, RefMget, MdlKin, BookArg, MdlOf, UnlOf, TurnArg, TxtLaid, TxtLift. -/
import Derived.Test.YtblbopcaflaldaaGreatDoorPk3
import Derived.Test.YtblbopcaflaldaaGreatDoorPk2
import Derived.Test.YtblbopcaflaldaaGreatDoorPk4
import Derived.Test.YtblbopcaflaldaaGreatDoorPk1
import Derived.Test.YtblbopcaflaldaaGreatDoorCards
import Derived.Test.YtblbopcaflaldaaGreatDoorTie
import Derived.SevenTiedAt
import Derived.LaidLaws
import Derived.LaidHandle
import Derived.JoinedOf
import Derived.Test.YtblbopcaflaldaaGreatDoorRows
import Derived.Stop.LaidErr
import Derived.Shelf.Vars
import Derived.HandedShaped
import Derived.Stop.Joined

namespace Go.Proofs.YtblbopcaflaldaaGreatDoor
open Go Go.Dd Go.RowKit List Go.Proofs.Tryz
set_option maxRecDepth 100000
theorem TA (a b:N5):decide (pn a=pn b)=(decide (a.k=b.k) && (decide (a.i=b.i) && (decide (a.s=b.s) && (decide (a.n=b.n) && decide (a.p=b.p))))):=by
 unfold pn
 simp only [Prod.mk.injEq,Bool.decide_and]
theorem Nz (a b:N5) (W:World) (d:N5.at W a) (c:N5.at W b):AN prog 212 [a.v,b.v] W (fun r w' =>r= .bool (decide (pn a=pn b))∧Below W.heap.size W w'):=by
 have h:=Below.refl W.heap.size W
 rw [TA]
 refine A4 (n:=38) func212 O<|Ai<|Cl (cs:=a.cells) O O O ?_
 rintro t w q f e -
 have h:=h.bs e
 have d:=d.bs e
 have c:=c.bs e
 refine Cl (cs:=b.cells) O O O ?_
 rintro u w p i e -
 have h:=h.bs e
 have d:=d.bs e
 have c:=c.bs e
 have f:=f.bs e
 refine Ab O<|A3<|A9 underlying79 O (FK _)<|Aa (Ao (He _) O ‹_› rfl) O ?_
 refine A9 underlying79 O (FK _)<|Aa (Ao (He _) O ‹_› rfl) O ?_
 refine Aa (Db O O) O<|Ad O ?_
 refine Cc 10 O ?_ ?_
 ·intro g
  have j:=d.i
  have m:=c.i
  refine Aj (dj:=10) O O<|A9 underlying79 O (BL _)<|Aj (dj:=10) O O<|Aa (Ao (AY _) O ‹_› rfl) O ?_
  refine Aj (dj:=10) O O<|A9 underlying79 O (BL _)<|Aj (dj:=10) O O<|Aa (Ao (AY _) O ‹_› rfl) O ?_
  refine Aj (dj:=10) O O<|Ah O O (HR a.x b.x a.i b.i w d.i c.i) ?_
  rintro _ s ⟨rfl,e⟩
  replace h:=bt h e
  have d:=d.bs e
  have c:=c.bs e
  have f:=f.bs e
  have i:=i.bs e
  clear e j m
  rw [g]
  refine Bt O<|Ad O ?_
  refine Cc 17 O ?_ ?_
  ·intro k
   refine Aj (dj:=17) O O<|A9 underlying79 O (BL _)<|Aj (dj:=17) O O<|Aa (Ao (AY _) O ‹_› rfl) O ?_
   refine Aj (dj:=17) O O<|A9 underlying79 O (BL _)<|Aj (dj:=17) O O<|Aa (Ao (AY _) O ‹_› rfl) O ?_
   refine Aj (dj:=17) O O<|Ah O O (HR a.y b.y a.s b.s s d.s c.s) ?_
   rintro _ v ⟨rfl,e⟩
   replace h:=bt h e
   have f:=f.bs e
   have i:=i.bs e
   rw [k]
   refine Bt O<|Ad O ?_
   refine Cc 24 O ?_ ?_
   ·intro o
    rw [o]
    refine Aj (dj:=24) O O<|A9 underlying79 O (BZ _)<|Aj (dj:=24) O O<|Aa (Ao (BD _) O ‹_› rfl) O ?_
    refine Aj (dj:=24) O O<|A9 underlying79 O (BZ _)<|Aj (dj:=24) O O<|Aa (Ao (BD _) O ‹_› rfl) O ?_
    refine Aj (dj:=24) O O<|Aa (Cn O O) O<|Bt O<|Ad O ?_
    refine Cc 31 O ?_ ?_
    ·intro l
     rw [l]
     refine Aj (dj:=31) O O<|A9 underlying79 O (BZ _)<|Aj (dj:=31) O O<|Aa (Ao (BD _) O ‹_› rfl) O ?_
     refine Aj (dj:=31) O O<|A9 underlying79 O (BZ _)<|Aj (dj:=31) O O<|Aa (Ao (BD _) O ‹_› rfl) O ?_
     exact Aj (dj:=31) rfl rfl<|Aa (Cn rfl rfl) rfl<|Bt rfl<|Ab rfl<|As<|Al rfl rfl<|⟨rfl,h⟩
    intro l
    rw [l]
    exact Ae (dj:=31) rfl rfl rfl rfl<|Ae (dj:=31) rfl rfl rfl rfl<|Ae (dj:=31) rfl rfl rfl rfl<|Ae (dj:=31) rfl rfl rfl rfl<|Ae (dj:=31) rfl rfl rfl rfl<|Co rfl<|Ab rfl<|As<|Al rfl rfl<|⟨rfl,h⟩
   intro o
   rw [o]
   exact Ae (dj:=24) rfl rfl rfl rfl<|Ae (dj:=24) rfl rfl rfl rfl<|Ae (dj:=24) rfl rfl rfl rfl<|Ae (dj:=24) rfl rfl rfl rfl<|Ae (dj:=24) rfl rfl rfl rfl<|Co rfl<|Ad rfl<|Ae (dj:=31) rfl rfl rfl rfl<|Ae (dj:=31) rfl rfl rfl rfl<|Ae (dj:=31) rfl rfl rfl rfl<|Ae (dj:=31) rfl rfl rfl rfl<|Ae (dj:=31) rfl rfl rfl rfl<|Co rfl<|Ab rfl<|As<|Al rfl rfl<|⟨rfl,h⟩
  intro k
  rw [k]
  exact Ae (dj:=17) rfl rfl rfl rfl<|Ae (dj:=17) rfl rfl rfl rfl<|Ae (dj:=17) rfl rfl rfl rfl<|Ae (dj:=17) rfl rfl rfl rfl<|Ae (dj:=17) rfl rfl rfl rfl<|Co rfl<|Ad rfl<|Ae (dj:=24) rfl rfl rfl rfl<|Ae (dj:=24) rfl rfl rfl rfl<|Ae (dj:=24) rfl rfl rfl rfl<|Ae (dj:=24) rfl rfl rfl rfl<|Ae (dj:=24) rfl rfl rfl rfl<|Co rfl<|Ad rfl<|Ae (dj:=31) rfl rfl rfl rfl<|Ae (dj:=31) rfl rfl rfl rfl<|Ae (dj:=31) rfl rfl rfl rfl<|Ae (dj:=31) rfl rfl rfl rfl<|Ae (dj:=31) rfl rfl rfl rfl<|Co rfl<|Ab rfl<|As<|Al rfl rfl<|⟨rfl,h⟩
 intro g
 rw [g]
 exact Ae (dj:=10) rfl rfl rfl rfl<|Ae (dj:=10) rfl rfl rfl rfl<|Ae (dj:=10) rfl rfl rfl rfl<|Ae (dj:=10) rfl rfl rfl rfl<|Ae (dj:=10) rfl rfl rfl rfl<|Co rfl<|Ad rfl<|Ae (dj:=17) rfl rfl rfl rfl<|Ae (dj:=17) rfl rfl rfl rfl<|Ae (dj:=17) rfl rfl rfl rfl<|Ae (dj:=17) rfl rfl rfl rfl<|Ae (dj:=17) rfl rfl rfl rfl<|Co rfl<|Ad rfl<|Ae (dj:=24) rfl rfl rfl rfl<|Ae (dj:=24) rfl rfl rfl rfl<|Ae (dj:=24) rfl rfl rfl rfl<|Ae (dj:=24) rfl rfl rfl rfl<|Ae (dj:=24) rfl rfl rfl rfl<|Co rfl<|Ad rfl<|Ae (dj:=31) rfl rfl rfl rfl<|Ae (dj:=31) rfl rfl rfl rfl<|Ae (dj:=31) rfl rfl rfl rfl<|Ae (dj:=31) rfl rfl rfl rfl<|Ae (dj:=31) rfl rfl rfl rfl<|Co rfl<|Ab rfl<|As<|Al rfl rfl<|⟨rfl,h⟩
theorem Mn (u v:Value) (xs f:List N5) (W:World) (p:GN W u xs) (w:GN W v f):AN prog 130 [u,v] W (fun r w' =>r= .bool (decide (xs.map pn=f.map pn))∧Below W.heap.size W w'):=by
 have x:=p.1
 have C:=w.1
 have R:=p.1.le
 refine A4 (n:=27) func130 O<|Ai<|Ab O<|A8<|Ad O<|Aa (Aq BM O ‹_›) O ?_
 refine Ad O<|Aa (Aq BM O ‹_›) O ?_
 refine Aa (C0 O O) O<|Ak<|Am O ?_ ?_
 ·intro g
  have B:¬xs.length=f.length:=fun e=>by rw [e] at g;simp at g
  refine Ai<|Ab O<|Bw<|Al O O ?_
  exact ⟨by rw [decide_eq_false fun e=>B (by have:=cngA length e;simpa using this)],Below.refl _ _⟩
 intro g
 have B:xs.length=f.length:=by simp at g;omega
 refine B1<|Ap<|Ai<|Ab O<|Ak<|Ar ?_
 refine Bu (S:=Nat) (fun i=>[(0,u),(1,v),(5, .int .i64 (i:Int))]) (fun i w' =>i≤xs.length∧(xs.take i).map pn=(f.take i).map pn∧Below W.heap.size W w') (fun i=>xs.length - i) (0) ⟨rfl,rfl,rfl,trivial⟩ ?_ ?_
 ·exact ⟨Nat.zero_le _,rfl,Below.refl _ _⟩
 rintro i d ⟨T,D,m⟩
 have x:=p.1.bs m
 have C:=w.1.bs m
 refine Ap<|Ai<|Ad O<|Ad O<|Aa (Aq BM O ‹_›) O ?_
 refine B8 O<|Ak<|Am O ?_ ?_
 ·intro h
  have c:i<xs.length:=by have:=AE h;omega
  have k:i<f.length:=by omega
  obtain ⟨a,t⟩:∃a,a=xs[i]:=⟨_,rfl⟩
  obtain ⟨b,s⟩:∃b,b=f[i]:=⟨_,rfl⟩
  have F:=p.cells c
  have G:=w.cells k
  rw [← t] at F
  rw [← s] at G
  have A:=(p.2 a (t ▸ getElem_mem c)).bs m
  have y:=(w.2 b (s ▸ getElem_mem k)).bs m
  have M:(xs.take (i+1)).map pn=(xs.take i).map pn++[pn a]:=by rw [take_succ_eq_append_getElem c,map_append,← t];rfl
  have J:(f.take (i+1)).map pn=(f.take i).map pn++[pn b]:=by rw [take_succ_eq_append_getElem k,map_append,← s];rfl
  refine B1<|Ap<|Ar<|Ap ?_
  refine Cw.any mixed (fun N o _=> ?_)
  refine C5 (fun w' =>Below d.heap.size d w') (fun Q=> ?_) (o)
  refine Bz (Av (Bp (Av (Av (Bp (Av Bh))))))<|Af 0 O (fun d j=>Bl O) O<|Af 1 O (fun d j=>Bl O) O<|Af 2 O (fun d j=>C6 BM O O (x.bs j) i O c) O<|Af 3 O (fun d j=>Dx (cs:=a.cells) (Hc _) (GY _) O (x.bs j) O (by decide) F) O<|Af 4 O (fun d j=>Bl O) O<|Af 5 O (fun d j=>Bl O) O<|Af 6 O (fun d j=>C6 BM O O (C.bs j) i O k) O<|Af 7 O (fun d j=>Dx (cs:=b.cells) (Hc _) (GY _) O (C.bs j) O (by decide) G) O<|Bj<|AK.only ‹_› (i:=8) (by kernel_rfl) O ?_
  refine Ah O O (Nz a b N (A.bs o) (y.bs o)) ?_
  rintro _ I ⟨rfl,L⟩
  have z:Below d.heap.size d I:=o.trans (L.mono o.size)
  have q:=m.trans (z.mono (AA m))
  refine AK.back<|Bz (Av (Bp (Av (Av (Bp (Av Bh))))))<|Af 9 O (fun d j=>Cz O) O<|Bj<|AK.done ‹_› (by kernel_rfl) ?_
  refine Ay<|B9<|Am O ?_ ?_
  ·intro l
   have l:¬pn a=pn b:=by simpa using l
   refine Ai<|Ab O<|As<|Bd<|A0<|A0<|Bd<|A0<|Al O O ?_
   refine ⟨?_,q⟩
   rw [decide_eq_false fun e=>l ?_]
   have E:(xs.map pn)[i]? =some (pn a):=by rw [getElem?_map,getElem?_eq_getElem c,← t];rfl
   have H:(f.map pn)[i]? =some (pn b):=by rw [getElem?_map,getElem?_eq_getElem k,← s];rfl
   rw [e,H] at E
   exact (Option.some.inj E).symm
  intro l
  have l:pn a=pn b:=by simpa using l
  refine Cj<|Ba<|Cr<|Ad O<|Ca O (by omega)<|Ab O<|A7 ?_
  exact Ay (Br (i+1) ⟨rfl,rfl,rfl,trivial⟩ (⟨c,by rw [M,J,D,l],q⟩) (by omega))
 intro h
 have c:i=xs.length:=by have:=AD h;omega
 subst c
 have K:f.take xs.length=f:=by rw [B,take_length]
 rw [take_length,K] at D
 exact Bq<|Au<|Au<|Bc<|Cf<|Ab rfl<|As<|Al rfl rfl<|⟨by rw [decide_eq_true D],m⟩
theorem Jd (u v:Value) (xs f:List N5) (W:World) (d:GN W u xs) (c:GN W v f):AN prog 29 [.agg [u].toArray, .agg [v].toArray] W (fun r w' =>r= .bool (decide (xs.map pn=f.map pn))∧Below W.heap.size W w'):=by
 have e:=Below.refl W.heap.size W
 refine A4 (n:=10) func29 O<|Ai<|Cl (cs:=[u]) O O O ?_
 rintro k w g b a -
 have e:=e.bs a
 have d:=d.bs a
 have c:=c.bs a
 refine Cl (cs:=[v]) O O O ?_
 rintro i w h j a -
 have e:=e.bs a
 have d:=d.bs a
 have c:=c.bs a
 have b:=b.bs a
 refine Ab O<|A3<|A9 underlying24 O (CB _)<|Aa (Ao (DQ _) O ‹_› rfl) O ?_
 refine A9 underlying24 O (CB _)<|Aa (Ao (DQ _) O ‹_› rfl) O ?_
 refine Ah O O (Mn u v xs f w d c) ?_
 rintro _ l ⟨rfl,a⟩
 exact Ab rfl<|As<|Al rfl rfl<|⟨rfl,bt e a⟩
theorem Sg (a b:T4) (W:World) (c:a.at W) (d:b.at W):AN prog 165 [a.v,b.v] W (fun r w' =>r= .bool (decide (pv a=pv b))∧Below W.heap.size W w'):=by
 have i:=Below.refl W.heap.size W
 have v:decide (pv a=pv b)=(decide (a.s=b.s) && decide (a.l=b.l)):=by
  rw [← Bool.decide_and]
  exact decide_eq_decide.2 ⟨fun h=>⟨cngA (·.1) h,cngA (·.2) h⟩,fun ⟨q,p⟩=>by unfold pv;rw [q,p]⟩
 rw [v]
 refine A4 (n:=17) func165 O<|Ai<|Cl (cs:=[a.x,a.y]) O O O ?_
 rintro t w m f e -
 have i:=i.bs e
 have c:=c.bs e
 have d:=d.bs e
 refine Cl (cs:=[b.x,b.y]) O O O ?_
 rintro u w l j e -
 have i:=i.bs e
 have c:=c.bs e
 have d:=d.bs e
 have f:=f.bs e
 refine Ab O<|A3<|A9 underlying75 O (BL _)<|Aa (Ao (AY _) O ‹_› rfl) O ?_
 refine A9 underlying75 O (BL _)<|Aa (Ao (AY _) O ‹_› rfl) O ?_
 have x:=c.1
 have s:=c.2
 refine Ah O O (HR a.x b.x a.s b.s w c.1 d.1) ?_
 rintro _ o ⟨rfl,e⟩
 have f:=f.bs e
 have j:=j.bs e
 have i:=bt i e
 have c:=c.bs e
 have d:=d.bs e
 refine Ad O ?_
 refine Cc 10 O ?_ ?_
 ·intro g
  refine Aj (dj:=10) O O<|A9 underlying75 O (FY _)<|Aj (dj:=10) O O<|Aa (Ao (GG _) O ‹_› rfl) O ?_
  refine Aj (dj:=10) O O<|A9 underlying75 O (FY _)<|Aj (dj:=10) O O<|Aa (Ao (GG _) O ‹_› rfl) O ?_
  refine Aj (dj:=10) O O<|Ah O O (K5 a.y b.y a.l b.l o c.2 d.2) ?_
  rintro _ y ⟨rfl,k⟩
  exact Bt rfl<|Ab rfl<|As<|Al rfl rfl<|⟨by rw [g,Bool.true_and],bt i k⟩
 intro g
 refine Ae (dj:=10) O O O O<|Ae (dj:=10) O O O O<|Ae (dj:=10) O O O O<|Ae (dj:=10) O O O O<|Ae (dj:=10) O O O O<|Co O<|Ab O<|As<|Al O O ?_
 exact ⟨by rw [g];rfl,i⟩
theorem Qy (u v:Value) (xs f:List T4) (W:World) (s:DR W u xs) (D:DR W v f):AN prog 67 [u,v] W (fun r w' =>r= .bool (decide (xs.map pv=f.map pv))∧Below W.heap.size W w'):=by
 have w:=s.1
 have B:=D.1
 have R:=s.1.le
 refine A4 (n:=27) func67 O<|Ai<|Ab O<|A8<|Ad O<|Aa (Aq BY O ‹_›) O ?_
 refine Ad O<|Aa (Aq BY O ‹_›) O ?_
 refine Aa (C0 O O) O<|Ak<|Am O ?_ ?_
 ·intro g
  have A:¬xs.length=f.length:=fun e=>by rw [e] at g;simp at g
  refine Ai<|Ab O<|Bw<|Al O O ?_
  exact ⟨by rw [decide_eq_false fun e=>A (by have:=cngA length e;simpa using this)],Below.refl _ _⟩
 intro g
 have A:xs.length=f.length:=by simp at g;omega
 refine B1<|Ap<|Ai<|Ab O<|Ak<|Ar ?_
 refine Bu (S:=Nat) (fun i=>[(0,u),(1,v),(5, .int .i64 (i:Int))]) (fun i w' =>i≤xs.length∧(xs.take i).map pv=(f.take i).map pv∧Below W.heap.size W w') (fun i=>xs.length - i) (0) ⟨rfl,rfl,rfl,trivial⟩ ?_ ?_
 ·exact ⟨Nat.zero_le _,rfl,Below.refl _ _⟩
 rintro i d ⟨T,C,m⟩
 have w:=s.1.bs m
 have B:=D.1.bs m
 refine Ap<|Ai<|Ad O<|Ad O<|Aa (Aq BY O ‹_›) O ?_
 refine B8 O<|Ak<|Am O ?_ ?_
 ·intro h
  have c:i<xs.length:=by have:=AE h;omega
  have k:i<f.length:=by omega
  obtain ⟨a,t⟩:∃a,a=xs[i]:=⟨_,rfl⟩
  obtain ⟨b,q⟩:∃b,b=f[i]:=⟨_,rfl⟩
  have F:=JF c
  have G:=JF k
  rw [← t] at F
  rw [← q] at G
  have z:=(s.2 a (t ▸ getElem_mem c)).bs m
  have x:=(D.2 b (q ▸ getElem_mem k)).bs m
  have M:(xs.take (i+1)).map pv=(xs.take i).map pv++[pv a]:=by rw [take_succ_eq_append_getElem c,map_append,← t];rfl
  have J:(f.take (i+1)).map pv=(f.take i).map pv++[pv b]:=by rw [take_succ_eq_append_getElem k,map_append,← q];rfl
  refine B1<|Ap<|Ar<|Ap ?_
  refine Cw.any mixed (fun N o _=> ?_)
  refine C5 (fun w' =>Below d.heap.size d w') (fun Q=> ?_) (o)
  refine Bz (Av (Bp (Av (Av (Bp (Av Bh))))))<|Af 0 O (fun d j=>Bl O) O<|Af 1 O (fun d j=>Bl O) O<|Af 2 O (fun d j=>C6 BY O O (w.bs j) i O c) O<|Af 3 O (fun d j=>Dx (cs:=[a.x,a.y]) (IB _) (Ig _) O (w.bs j) O (by decide) F) O<|Af 4 O (fun d j=>Bl O) O<|Af 5 O (fun d j=>Bl O) O<|Af 6 O (fun d j=>C6 BY O O (B.bs j) i O k) O<|Af 7 O (fun d j=>Dx (cs:=[b.x,b.y]) (IB _) (Ig _) O (B.bs j) O (by decide) G) O<|Bj<|AK.only ‹_› (i:=8) (by kernel_rfl) O ?_
  refine Ah O O (Sg a b N (z.bs o) (x.bs o)) ?_
  rintro _ I ⟨rfl,L⟩
  have y:Below d.heap.size d I:=o.trans (L.mono o.size)
  have p:=m.trans (y.mono (AA m))
  refine AK.back<|Bz (Av (Bp (Av (Av (Bp (Av Bh))))))<|Af 9 O (fun d j=>Cz O) O<|Bj<|AK.done ‹_› (by kernel_rfl) ?_
  refine Ay<|B9<|Am O ?_ ?_
  ·intro l
   have l:¬pv a=pv b:=by simpa using l
   refine Ai<|Ab O<|As<|Bd<|A0<|A0<|Bd<|A0<|Al O O ?_
   refine ⟨?_,p⟩
   rw [decide_eq_false fun e=>l ?_]
   have E:(xs.map pv)[i]? =some (pv a):=by rw [getElem?_map,getElem?_eq_getElem c,← t];rfl
   have H:(f.map pv)[i]? =some (pv b):=by rw [getElem?_map,getElem?_eq_getElem k,← q];rfl
   rw [e,H] at E
   exact (Option.some.inj E).symm
  intro l
  have l:pv a=pv b:=by simpa using l
  refine Cj<|Ba<|Cr<|Ad O<|Ca O (by omega)<|Ab O<|A7 ?_
  exact Ay (Br (i+1) ⟨rfl,rfl,rfl,trivial⟩ (⟨c,by rw [M,J,C,l],p⟩) (by omega))
 intro h
 have c:i=xs.length:=by have:=AD h;omega
 subst c
 have K:f.take xs.length=f:=by rw [A,take_length]
 rw [take_length,K] at C
 exact Bq<|Au<|Au<|Bc<|Cf<|Ab rfl<|As<|Al rfl rfl<|⟨by rw [decide_eq_true C],m⟩
theorem Mo (u v j k:Value) (xs m:List N5) (ts us:List T4) (W:World) (h:GN W u xs) (i:GN W v m) (d:DR W j ts) (e:DR W k us):AN prog 17 [.agg [u,j].toArray, .agg [v,k].toArray] W (fun r w' =>r= .bool (decide (xs.map pn=m.map pn) && decide (ts.map pv=us.map pv))∧Below W.heap.size W w'):=by
 have c:=Below.refl W.heap.size W
 refine A4 (n:=17) func17 O<|Ai<|Cl (cs:=[u,j]) O O O ?_
 rintro t w o b a -
 have c:=c.bs a
 have h:=h.bs a
 have i:=i.bs a
 have d:=d.bs a
 have e:=e.bs a
 refine Cl (cs:=[v,k]) O O O ?_
 rintro s w p f a -
 have c:=c.bs a
 have h:=h.bs a
 have i:=i.bs a
 have d:=d.bs a
 have e:=e.bs a
 have b:=b.bs a
 refine Ab O<|A3<|A9 underlying27 O (BP _)<|Aa (Dy (ds:=[u]) (ER _) (BP _) O O ‹_› rfl) O ?_
 refine A9 underlying27 O (BP _)<|Aa (Dy (ds:=[v]) (ER _) (BP _) O O ‹_› rfl) O ?_
 refine Ah O O (Jd u v xs m w h i) ?_
 rintro _ q ⟨rfl,a⟩
 replace c:=bt c a
 have d:=d.bs a
 have e:=e.bs a
 have b:=b.bs a
 have f:=f.bs a
 refine Ad O ?_
 refine Cc 10 O ?_ ?_
 ·intro g
  refine Aj (dj:=10) O O<|A9 underlying27 O (CZ _)<|Aj (dj:=10) O O<|Aa (Ao (FH _) O ‹_› rfl) O ?_
  refine Aj (dj:=10) O O<|A9 underlying27 O (CZ _)<|Aj (dj:=10) O O<|Aa (Ao (FH _) O ‹_› rfl) O ?_
  refine Aj (dj:=10) O O<|Ah O O (Qy j k ts us q d e) ?_
  rintro _ x ⟨rfl,l⟩
  rw [g]
  exact Bt rfl<|Ab rfl<|As<|Al rfl rfl<|⟨rfl,bt c l⟩
 intro g
 rw [g]
 exact Ae (dj:=10) rfl rfl rfl rfl<|Ae (dj:=10) rfl rfl rfl rfl<|Ae (dj:=10) rfl rfl rfl rfl<|Ae (dj:=10) rfl rfl rfl rfl<|Ae (dj:=10) rfl rfl rfl rfl<|Co rfl<|Ab rfl<|As<|Al rfl rfl<|⟨rfl,c⟩
end Go.Proofs.YtblbopcaflaldaaGreatDoor

namespace Go.Proofs.YtblbopcaflaldaaGreatDoor
open Go Go.Dd Go.RowKit Go.ChangeShapes Go.WideShapes List Go.Proofs.Tryz
set_option maxRecDepth 100000
theorem Un {w:World} {A:Nat} {T:TypeId} {cs:List Value} {a:Addr} {u:Value} (k:AP w A T cs) (h:w.cell? a=some u) (e:a.block=A):u ∈ cs:=by
 unfold World.cell? at h
 rw [e,k] at h
 simp only at h
 split at h
 ·cases h
 ·rw [getElem?_toArray] at h
  exact mem_of_getElem? h
theorem CT.by {w w' :World} {s u A:Nat} {r:Value} {us:List T4} {T:TypeId} {cs:List Value} (h:CT w s u r us) (g:w.grownBy w' (some A)) (b:AP w A T cs) (l:3≠T) (i:21≠T) (K:75≠T) (D:Value.int .i64 77 ∉ cs):CT w' s u r us:=by
 have j:∀{e:TypeId} {sz n:Nat} {v:Value} {xs:List Value} {B:Nat},e≠T→w.ownsRow B e sz v n xs→w'.ownsRow B e sz v n xs:=fun f p=>Mu p b f g
 have t:∀d,(some A:Option Nat)=some d→∃cs,AP w d T cs:=fun d e=>by cases e;exact ⟨cs,b⟩
 obtain ⟨m,⟨d,cap,e,p⟩,x⟩:=h.m
 refine ⟨h.all.other g t l i,fun c q=> ?_,⟨m,⟨d,cap,e,j K p⟩, ?_⟩,h.rb⟩
 ·obtain ⟨E,⟨y,G,L,H⟩,⟨J,I,o,F⟩⟩:=h.tw c q
  exact ⟨E.other g t l i,⟨y,G,L,j l H⟩,⟨J,I,o,j i F⟩⟩
 ·refine x.keep fun k z e=>g.block k z fun o=>D ?_
  cases o
  obtain ⟨_,C,cap,rfl,_,_,_,q⟩:=x
  cases C with
  |none=>cases e
  |some a=>exact Un b (q a rfl 0 _ rfl) (by rw [GH];exact Option.some.inj e)
theorem CT.wide {w:World} {i j a d:Nat} {r:Value} {us:List T4} (h:CT w i j r us) (f:a≤i) (g:j≤d):CT w a d r us:=by
 obtain ⟨m,⟨b,cap,e,o⟩,n⟩:=h.m
 have u:AM w a d us:=by
  cases hu:us with
  |nil=>have:=h.all;rw [hu] at this;exact Nat.le_trans f (Nat.le_trans this g)
  |cons c cs=>
   have:=h.all
   rw [hu] at this
   obtain ⟨l,k,q,v,s,p⟩:=this
   exact ⟨l,k,Nat.le_trans f q,v,s,AM.topM p g⟩
 exact ⟨u,fun c t=>(h.tw c t).wide f g,⟨m,⟨b,cap,e,CR o f⟩,n⟩,fun b e=>by have:=h.rb b e;omega⟩
theorem RA (x y:Value) (f:x.cells=[x].toArray) (c:y.cells=[y].toArray):Tryz.prog.built 27 [(0, .agg [x].toArray),(1,y)]=some [x,y].toArray:=by
 have d:Tryz.prog.info? 27=some Tryz.t27:=by kernel_rfl
 have a:Tryz.prog.info? 24=some Tryz.t24:=by kernel_rfl
 have e:Tryz.prog.info? 22=some Tryz.t22:=by kernel_rfl
 have b:Tryz.prog.info? 25=some Tryz.t25:=by kernel_rfl
 simp [Program.built,d,underlying27,underlying24,a,e,b,Instr.fill,f,c]
 rfl
theorem Mj (v u:Value) (ls:List N5) (ws:List T4) (W:World) (h:GN W v ls) (X:∀t ∈ ls,t.i.length≤4194304∧t.s.length≤4194304) (hl:ls.length≤2097152) (y:DR W u ws) (Y:∀t ∈ ws,t.s.length≤4194304∧t.l.length≤4194304) (Z:ws.length≤2097152):
  AN prog 10 [.agg [v,u].toArray] W (fun r w' =>Below W.heap.size W w' ∧∃a b D us z,r= .agg [a,b].toArray∧CV w' W.heap.size z a D∧CT w' z w'.heap.size b us∧D.map nl=ls.map nl∧us.map vl=ws.map vl):=by
 have m:=Below.refl W.heap.size W
 refine A4 (n:=10) func10 O<|Ai<|Cl (cs:=[v,u]) O O O ?_
 rintro G w S d c -
 have m:=m.bs c
 have h:=h.bs c
 have y:=y.bs c
 have yx:=AW d
 refine Da La O ?_
 rintro T w R s c -
 have m:=m.bs c
 have h:=h.bs c
 have y:=y.bs c
 have d:=d.bs c
 refine Ak<|Ap ?_
 have z0:=AA m
 have yr:=AW s
 rename World=>p
 refine Cw.any mixed (fun w2 C _=> ?_)
 have A:=d.bs C
 refine C5 (fun w' =>AP w' G 27 [v,u]) (fun hC=> ?_) (A)
 refine Bz (Av Bh)<|Af 0 O (fun p o=>Ch underlying27 O (BP _)) O<|Af 1 O (fun p o=>Dy (ds:=[v]) (ER _) (BP _) O O o O) O<|Af 3 O (fun p o=>Ch underlying27 O (CZ _)) O<|Af 4 O (fun p o=>Ao (FH _) O o O) O<|Bj<|AK.only ‹_› (i:=2) (by kernel_rfl) O ?_
 refine Ah O O (Mk v ls w2 (h.bs C) X hl) ?_
 rintro _ V ⟨c,B,D,rfl,hG,eG⟩
 have zD:=C.size
 have z3:=c.size
 have g:=bt C c
 have N:=d.bs g
 refine AK.back<|AK.only ‹_› (i:=5) (by kernel_rfl) O ?_
 refine Ah O O (OW u ws V (y.bs g) Y Z) ?_
 rintro E U ⟨c,us,L,eU⟩
 have z4:=c.size
 have q:=hG.bs c
 have j:=bt g c
 have f:=s.bs j
 have x:=d.bs j
 have M:=AG q.own
 have Q:=AG L.own
 refine AK.back<|Bz (Av Bh)<|Af 6 O (fun p o=>Bi (cs:=[B,E]) O (RA B E M.one Q.one)) O<|Bj<|AK.only ‹_› (i:=7) (by kernel_rfl) O ?_
 refine A6 (Ck (cs:=[B,E]) (k:=2) (by kernel_rfl) O O O (by rw [all_cons,all_cons,M.one',Q.one'];rfl) f O) ?_
 rintro w5 ⟨J,l,hz⟩
 have z5:=l.size
 have K:=x.by l (by intro e;have:=Option.some.inj e;omega)
 have I:=(bt m j).grown l (by omega) (by rintro _ e;have:=Option.some.inj e;omega)
 have F:=(q.by l f (by decide) (by decide)).wide (show W.heap.size≤_ by omega) (AU _)
 have H:=(L.by l f (by decide) (by decide) (by decide) (by intro h;simp at h)).wide (AU _) (show U.heap.size≤w5.heap.size from l.size)
 refine AK.back<|AK.done ‹_› (by kernel_rfl) ?_
 refine Ay<|B9<|Dq<|D9 O O ‹_› underlying27 O O O ?_
 exact ⟨I,B,E,D,us,_,rfl,F,H,eG,eU⟩
def U0 (ls:List N5) (ws:List T4):Int:=if 1+Rl ls≤1048576 then 1+Rl ls+Ic (ws.length:Int) (ws.map fun t=>Jp t.s t.l) else 1+Rl ls
theorem Jh (v u:Value) (ls:List N5) (ws:List T4) (W:World) (h:GN W v ls) (s:ls.length≤1125899906842624) (o:∀t ∈ ls,t.few) (e:DR W u ws) (q:ws.length≤1125899906842624) (p:∀t ∈ ws,MO t):
  AN prog 9 [.agg [v,u].toArray] W (fun r w' =>r= .int .i64 (U0 ls ws)∧Below W.heap.size W w'):=by
 have d:=Below.refl W.heap.size W
 have z:=Lx (l:=ls.map Jg) (n:=(ls.length:Int)) (m:=4503599627370496) (fun x f=>by
  obtain ⟨a,i,rfl⟩:=List.mem_map.1 f
  exact L9 (o a i)) (by decide)
 have B:=GM (l:=ls.map Jg) (n:=(ls.length:Int)) (fun x f=>by
  obtain ⟨a,i,rfl⟩:=List.mem_map.1 f
  have:=J0 a;omega)
 have C:=Lx (l:=ws.map fun t=>Jp t.s t.l) (n:=(ws.length:Int)) (m:=4503599627370496) (fun x f=>by
  obtain ⟨a,i,rfl⟩:=List.mem_map.1 f
  exact Ol (p a i)) (by decide)
 have F:=GM (l:=ws.map fun t=>Jp t.s t.l) (n:=(ws.length:Int)) (fun x f=>by
  obtain ⟨a,i,rfl⟩:=List.mem_map.1 f
  have:=Jw a.s a.l;omega)
 have D:Rl ls=1+Ic (ls.length:Int) (ls.map Jg):=rfl
 refine A4 (n:=19) func9 O<|Ai<|Cl (cs:=[v,u]) O O O ?_
 rintro y w k c b -
 have d:=d.bs b
 have h:=h.bs b
 have e:=e.bs b
 refine Ab O<|A3<|Ab O<|A8<|Ad O<|Aa (Ef O O) O<|Ak<|Cq O true (by decide)<|A5<|Ad O<|A9 underlying27 O (BP _)<|Aa (Dy (ds:=[v]) (ER _) (BP _) O O ‹_› rfl) O ?_
 refine Ah O O (S8 v ls _ h s o) ?_
 rintro _ E ⟨rfl,b⟩
 have d:=d.bs b
 have h:=h.bs b
 have e:=e.bs b
 have c:=c.bs b
 refine Ca O (by omega)<|Ab O<|A8<|Ad O<|Aa (Ef O O) O<|Ak<|Am O ?_ ?_
 ·intro g
  have g:1+Rl ls≤1048576:=AE g
  refine A5<|Ad O<|A9 underlying27 O (CZ _)<|Aa (Ao (FH _) O ‹_› rfl) O ?_
  refine Ah O O (Qg u ws _ e q p) ?_
  rintro _ A ⟨rfl,b⟩
  have d:=d.bs b
  have h:=h.bs b
  have e:=e.bs b
  have c:=c.bs b
  have j:U0 ls ws=1+Rl ls+Ic (ws.length:Int) (ws.map fun t=>Jp t.s t.l):=if_pos g
  refine Ca O (by omega)<|Ab O<|A3<|Ad O<|Ab O<|As<|Al O O ?_
  exact ⟨by rw [j],d⟩
 intro g
 have g:¬1+Rl ls≤1048576:=AD g
 have j:U0 ls ws=1+Rl ls:=if_neg g
 exact Ci<|Ad rfl<|Ab rfl<|As<|Al rfl rfl<|⟨by rw [j],d⟩
theorem Of:∀(ws:List PV) (xs a:List N5),xs.map (·.s)=a.map (·.s)→Lq ws xs=Lq ws a
 |[],[],[],_=>rfl
 |[],_::_,_::_,_=>rfl
 |_::_,[],[],_=>rfl
 |w::ws,x::xs,y::a,h=>by
  have b:x.s=y.s:=(List.cons.inj h).1
  have c:=Of ws xs a (List.cons.inj h).2
  unfold Lq
  rw [b,c]
 |[],[],_::_,h=>by cases h
 |[],_::_,[],h=>by cases h
 |_::_,[],_::_,h=>by cases h
 |_::_,_::_,[],h=>by cases h
theorem Su {us ls:List N5} {ts ws:List T4} (e:us.map pn=ls.map pn) (b:ts.map pv=ws.map pv):DB us ts=DB ls ws:=by
 have d:EK us=EK ls:=by rw [← FN us,← FN ls,e]
 have a:(F2 us).map (·.s)=(F2 ls).map (·.s):=by rw [← HY us,← HY ls,e]
 have f:(F2 us).length=(F2 ls).length:=by have:=cngA length a;simpa using this
 have c:ts.length=ws.length:=by have:=cngA length b;simpa using this
 unfold DB
 rw [d,f,c,b,Of _ _ _ a]
def TL (p:PN):List (BitVec 8):=p.1::(BA p.2.1++BA p.2.2.1++[BitVec.ofInt 8 p.2.2.2.1,BitVec.ofInt 8 p.2.2.2.2])
theorem KV (ls:List N5):CK ls=((ls.map pn).map TL).flatten:=by
 unfold CK
 rw [map_map]
 rfl
theorem My (ws:List T4):CS ws=((ws.map pv).map fun p=>BQ p.2).flatten:=by
 unfold CS
 rw [map_map]
 rfl
theorem MX {us ls:List N5} {ts ws:List T4} (e:us.map pn=ls.map pn) (a:ts.map pv=ws.map pv):FE us ts=FE ls ws:=by
 have b:us.length=ls.length:=by have:=cngA length e;simpa using this
 unfold FE
 rw [KV,KV,My,My,e,a,b]
end Go.Proofs.YtblbopcaflaldaaGreatDoor

namespace Go.Proofs.YtblbopcaflaldaaGreatDoor
open Go Go.Dd Go.RowKit List
set_option maxRecDepth 100000
structure Oe (x:N5):Prop where
 il:x.i.length≤4
 sl:x.s.length≤4
 ii:∀j ∈ x.i,0≤j∧j<256
 ss:∀j ∈ x.s,0≤j∧j<256
 nn:0≤x.n∧x.n<256
 pp:0≤x.p∧x.p<256
theorem Sn {s:List Int} (h:HK s=true) (c:s.length≤4):∀d ∈ s,0≤d∧d<256:=fun d b=>by
 obtain ⟨j,a,rfl⟩:=List.mem_iff_getElem.1 b
 have:=IM h a
 rw [getD_eq_getElem?_getD,getElem?_eq_getElem a] at this
 simp only [Option.getD_some] at this
 omega
theorem S3 {x:N5} (h:DK x.k x.i x.s x.n x.p=true):∀d ∈ x.s,0≤d∧d<256:=by
 unfold DK at h
 cases g:CQ x.k with
 |none=>rw [g] at h;cases h
 |some r=>
  obtain ⟨_,_,j⟩:=J1 g
  obtain ⟨a,b,c,d,e,f,rfl⟩:=Ny j
  rw [g] at h
  obtain ⟨-,i⟩:=GC.1 h
  split at i
  ·intro d g
   rw [eq_nil_of_length_eq_zero (AE i)] at g
   cases g
  ·split at i
   ·intro d g
    have:=((Shapes.ok_iff _).1 i).2.1 d g
    omega
   ·rw [Km,Bool.and_eq_true,decide_eq_true_eq] at i
    exact Sn i.2 i.1
theorem PF {ls:List N5} (h:(EK ls).isSome=true):∀x ∈ ls,Oe x:=by
 obtain ⟨f,n⟩:=Kl h
 obtain ⟨d,c⟩:=Option.isSome_iff_exists.1 h
 have g:DX [] ls=some d:=by
  unfold EK at c
  split at c
  ·cases c
  ·split at c
   ·split at c
    ·rename_i e _;cases c;exact e
    ·cases c
   ·cases c
 have key:∀(l:List N5) (a:List (List Int)),(∃d,DX a l=some d)→a.length+l.length≤32→∀x ∈ l,(∀j ∈ x.i,0≤j∧j<256):=by
  intro l
  induction l with
  |nil=>intro _ _ _ x b;cases b
  |cons y l ih=>
   rintro a ⟨d,h⟩ k x b
   unfold DX at h
   cases e:KJ a y with
   |none=>rw [e] at h;cases h
   |some s=>
    rw [e] at h
    simp only [length_cons] at k
    rcases List.mem_cons.1 b with rfl|b
    ·unfold KJ at e
     split at e
     ·rename_i i
      simp only [Bool.and_eq_true,Bool.not_eq_true'] at i
      intro j m
      have:=i.1.2
      unfold P8 at this
      have:=List.any_eq_false.1 this j m
      simp at this
      omega
     ·cases e
    ·exact ih (a++[s]) ⟨d,h⟩ (by rw [length_append,length_singleton];omega) x b
 intro x b
 have l:=n x b
 exact ⟨l.il.2,l.sl,key ls [] ⟨d,g⟩ (by simpa using f) x b,S3 (Iy ls [] d g x b),⟨l.nn.1,by have:=l.nn.2;omega⟩,⟨l.pp.1,by have:=l.pp.2;omega⟩⟩
theorem Hq {i:Int} (h:0≤i) (a:i<256):((BitVec.ofInt 8 i).toNat:Int)=i:=by
 rw [BitVec.toNat_ofInt]
 have:(i % ((2 ^ 8:Nat):Int))=i:=Int.emod_eq_of_lt h (by simpa using a)
 rw [this];omega
theorem JK {s:List Int} (h:∀j ∈ s,0≤j∧j<256) (d:s.length≤4) (r:Bs):HI (BA s++r)=some (s,r):=by
 have b:(BitVec.ofInt 8 (s.length:Int)).toNat=(s.map (BitVec.ofInt 8)).length:=by
  have:=Hq (i:=(s.length:Int)) (by omega) (by omega)
  rw [length_map]
  omega
 show (if (BitVec.ofInt 8 (s.length:Int)).toNat≤(s.map (BitVec.ofInt 8)++r).length then some (EF ((s.map (BitVec.ofInt 8)++r).take (BitVec.ofInt 8 (s.length:Int)).toNat),(s.map (BitVec.ofInt 8)++r).drop (BitVec.ofInt 8 (s.length:Int)).toNat) else none)=_
 rw [b,if_pos (by rw [length_append];omega),take_left,drop_left]
 have c:EF (s.map (BitVec.ofInt 8))=s:=by
  unfold EF
  rw [map_map]
  conv=>rhs;rw [← List.map_id s]
  exact map_congr_left fun y a=>Hq (h y a).1 (h y a).2
 rw [c]
theorem M4 {x:N5} (h:Oe x) (r:Bs):FD (HM x++r)=some (pn x,r):=by
 have e:HM x++r=x.k::(BA x.i++(BA x.s++(BitVec.ofInt 8 x.n::BitVec.ofInt 8 x.p::r))):=by simp [HM]
 rw [e]
 unfold FD
 simp only [HT]
 rw [JK h.ii h.il]
 simp only
 rw [JK h.ss h.sl]
 simp only
 rw [Hq h.nn.1 h.nn.2,Hq h.pp.1 h.pp.2]
 rfl
theorem HL:∀{ls:List N5} (r:Bs),(∀x ∈ ls,Oe x)→CP ls.length (CK ls++r)=some (ls.map pn,r)
 |[],_,_=>rfl
 |x::ls,r,h=>by
  have e:CK (x::ls)++r=HM x++(CK ls++r):=by simp [CK]
  rw [e,length_cons]
  unfold CP
  rw [M4 (h x (by simp))]
  simp only
  rw [HL r fun y a=>h y (by simp [a])]
  rfl
theorem OR {t:T4} (h:K4 t.s t.l=true) (r:Bs):Og t.s (BQ t.l++r)=some (pv t,r):=by
 obtain ⟨a,b⟩:=Nq h
 have e:4*(Shapes.size t.s).toNat=(BQ t.l).length:=by rw [CW,b]
 unfold Og
 rw [e,if_pos ⟨a,by rw [length_append];omega⟩,take_left,drop_left,JT]
 rfl
theorem J9:∀{ws:List T4} (r:Bs),(∀t ∈ ws,K4 t.s t.l=true)→ET (ws.map (·.s)) (CS ws++r)=some (ws.map pv,r)
 |[],_,_=>rfl
 |t::ws,r,h=>by
  have e:CS (t::ws)++r=BQ t.l++(CS ws++r):=by simp [CS]
  rw [e,map_cons]
  unfold ET
  rw [OR (h t (by simp))]
  simp only
  rw [J9 r fun y a=>h y (by simp [a])]
  rfl
theorem O3 {ls:List N5} {ws:List T4} (h:DB ls ws=true):Ls (ls.map pn)=ws.map (·.s)∧∀t ∈ ws,K4 t.s t.l=true:=by
 obtain ⟨-,a,d⟩:=M7 h
 have e:=(FX (ws:=ws.map pv) (xs:=F2 ls) (by rw [length_map,a])).1 d
 have key:∀i (b:i<ws.length),K4 ws[i].s ws[i].l=true∧ws[i].s=((F2 ls)[i]'(by omega)).s:=fun i b=>by
  have:=e i (by omega)
  rw [getD_eq_getElem?_getD,getElem?_map,getElem?_eq_getElem b] at this
  unfold Js at this
  rw [Bool.and_eq_true,decide_eq_true_eq] at this
  exact this
 refine ⟨?_,fun t c=> ?_⟩
 ·rw [HY]
  refine ext_getElem (by simp [a]) fun i f a=> ?_
  rw [getElem_map,getElem_map]
  exact (key i (by simpa using a)).2.symm
 ·obtain ⟨i,b,rfl⟩:=List.mem_iff_getElem.1 c
  exact (key i b).1
theorem O5 {ls:List N5} {ws:List T4} (h:DB ls ws=true):(EK ls).isSome=true:=by
 unfold DB at h
 simp only [Bool.and_eq_true] at h
 exact h.1
theorem PS {ls:List N5} {ws:List T4} (h:DB ls ws=true):GZ (FE ls ws)=some (ls.map pn,ws.map pv):=by
 obtain ⟨b,d⟩:=O3 h
 have a:=O5 h
 have e:=PF a
 have g:=(UL h).few
 have c:(BitVec.ofInt 8 (ls.length:Int)).toNat=ls.length:=by
  have:=Hq (i:=(ls.length:Int)) (by omega) (by omega)
  omega
 have f:DO (FE ls ws)=some (ls.map pn,ws.map pv,[]):=by
  unfold DO FE
  simp only [HT]
  rw [c,HL _ e]
  simp only
  rw [b]
  have:=J9 [] d
  rw [append_nil] at this
  rw [this]
  rfl
 unfold GZ
 rw [f]
 simp only
 rw [if_pos ⟨trivial,by rw [FN];exact a⟩]
theorem Ro (x:BitVec 32):gf (Crc.four x)=x:=Ke x
theorem Ir (ls:List N5) (ws:List T4):(ED ls ws).length=(FE ls ws).length+4:=by unfold ED;rw [length_append];rfl
theorem Sr (ls:List N5) (ws:List T4):(ED ls ws).take ((ED ls ws).length - 4)=FE ls ws∧(ED ls ws).drop ((ED ls ws).length - 4)=Crc.four (Crc.of (FE ls ws)):=by
 rw [Ir,Nat.add_sub_cancel]
 unfold ED
 exact ⟨take_left,drop_left⟩
theorem OE {ls:List N5} {ws:List T4} (h:DB ls ws=true):KE (ED ls ws)=0∧NP (ED ls ws)=some (ls.map pn,ws.map pv):=by
 obtain ⟨c,b⟩:=Sr ls ws
 have d:=Ir ls ws
 unfold KE NP
 rw [c,b,Ro,PS h]
 simp only [ne_eq,not_true_eq_false,if_false]
 have a:¬(ED ls ws).length<4:=by omega
 rw [if_neg a,if_neg a]
 exact ⟨rfl,rfl⟩
def SA (ls:List N5) (ws:List T4) (j:Nat):Bool:=Js ((ws.map pv).getD j ([],[])) ((F2 ls).getD j default).s
theorem I2 {α:Type} {l:List α} {d:α} {j:Nat} (h:j<l.length):l.getD j d=l[j]:=by rw [getD_eq_getElem?_getD,getElem?_eq_getElem h,Option.getD_some]
theorem O4 {ls:List N5} {ws:List T4}:DB ls ws=true↔(EK ls).isSome=true∧(F2 ls).length=ws.length∧∀j,j<ws.length→SA ls ws j=true:=by
 unfold DB
 rw [Bool.and_eq_true,Bool.and_eq_true,decide_eq_true_eq]
 refine and_congr_right fun _=>and_congr_right fun h=> ?_
 rw [FX (by rw [length_map,h])]
 refine ⟨fun k j a=> ?_,fun k j a=> ?_⟩
 ·have:=k j (by omega)
  unfold SA
  rw [I2 (show j<(F2 ls).length by omega)]
  exact this
 ·have:=k j (by omega)
  unfold SA at this
  rw [I2 a] at this
  exact this
theorem DR.ad {w:World} {u:Value} {ws:List T4} (h:DR w u ws) {i:Nat} (d:i<ws.length):∃ad c k,u= .slice (some ad) c k:=by
 obtain ⟨_,a,cap,rfl,_,_,b,_⟩:=h.1
 cases a with
 |none=>have:=b rfl;omega
 |some ad=>exact ⟨_,_,_,rfl⟩
theorem Od.gn {w:World} {e f:Nat} {v u:Value} {ls:List N5} {ts:List T4} (h:Od w e f v u ls ts):GN w v ls:=by
 obtain ⟨c,d, -⟩:=h.nodes
 exact ⟨h.nv.sl,fun a b=>(d.each a b).at⟩

theorem Qj {us ls:List N5} (e:us.map pn=ls.map pn):BX us=BX ls:=by
 have k:∀l:List N5,BX l=((l.map pn).map fun p=>Jj (un p)).flatten:=fun l=>by
  unfold BX
  rw [map_map]
  rfl
 rw [k us,k ls,e]

theorem O2 {ls us:List N5} {ws ts:List T4} (d:DB ls ws=true) (c:DB us ts=true):ED ls ws=ED us ts↔(ls.map pn=us.map pn∧ws.map pv=ts.map pv):=by
 constructor
 ·intro e
  have k:=(OE d).2
  rw [e,(OE c).2] at k
  obtain ⟨a,b⟩:=Prod.mk.inj (Option.some.inj k)
  exact ⟨a.symm,b.symm⟩
 ·rintro ⟨a,b⟩
  unfold ED
  rw [MX a b]
theorem Qi {ls us:List N5} (a:(EK ls).isSome=true) (b:(EK us).isSome=true):BX ls=BX us↔ls.map pn=us.map pn:=by
 constructor
 ·intro e
  have k:=(JP a (.inl rfl)).1
  rw [e,(JP b (.inl rfl)).1] at k
  exact k.symm
 ·exact Qj
def Ho (us:List T4) (k:Nat) (hk:k<us.length) (l:List (BitVec 32)):List T4:=us.set k ⟨us[k].x,us[k].y,us[k].s,l⟩
theorem Hn (us:List T4) (k:Nat) (a:k<us.length) (l:List (BitVec 32)):(Ho us k a l).length=us.length:=length_set ..
theorem L1 (us:List T4) (k:Nat) (a:k<us.length) (l:List (BitVec 32)):(Ho us k a l).map pv=(us.map pv).set k (us[k].s,l):=by unfold Ho;rw [map_set];rfl
theorem LP (ts:List T4) (k:Nat) (a:k<ts.length) (l:List (BitVec 32)):cellsOf (Ho ts k a l)=cellsOf ts:=by
 unfold Ho
 induction ts generalizing k with
 |nil=>rfl
 |cons t ts ih=>
  cases k with
  |zero=>rfl
  |succ k=>simp only [List.set_cons_succ,cellsOf,List.getElem_cons_succ,ih k (by simpa using a)]
theorem QO {ls:List N5} {us:List T4} {k:Nat} (a:k<us.length) {l:List (BitVec 32)} (i:l.length=us[k].l.length) (h:DB ls us=true):DB ls (Ho us k a l)=true:=by
 obtain ⟨n,m,o⟩:=O4.1 h
 refine O4.2 ⟨n,by rw [Hn];exact m,fun j b=> ?_⟩
 rw [Hn] at b
 have q:=o j b
 unfold SA at q ⊢
 have d:j<(us.map pv).length:=by rw [length_map];exact b
 have f:j<((Ho us k a l).map pv).length:=by rw [length_map,Hn];exact b
 rw [I2 d] at q
 rw [I2 f]
 by_cases e:j=k
 ·subst e
  have c:((Ho us j a l).map pv)[j]=(us[j].s,l):=by simp only [L1,getElem_set_self]
  rw [c]
  rw [getElem_map] at q
  unfold Js at q ⊢
  have g:(K4 us[j].s us[j].l && decide (us[j].s=((F2 ls).getD j default).s))=true:=q
  show (K4 us[j].s l && decide (us[j].s=((F2 ls).getD j default).s))=true
  rw [Bool.and_eq_true] at g ⊢
  exact ⟨RW g.1 i,g.2⟩
 ·have c:((Ho us k a l).map pv)[j]=(us.map pv)[j]:=by simp only [L1,getElem_set_ne (Ne.symm e)]
  rw [c]
  exact q
theorem KT:∀{ts us:List T4},ts.map (fun t=>t.l.length)=us.map (fun t=>t.l.length)→(CS ts).length=(CS us).length
 |[],[],_=>rfl
 |[],_::_,h=>by cases h
 |_::_,[],h=>by cases h
 |t::ts,u::us,h=>by
  obtain ⟨b,c⟩:=List.cons.inj h
  have e:∀(a:T4) (l:List T4),CS (a::l)=BQ a.l++CS l:=fun _ _=>rfl
  rw [e,e,length_append,length_append,CW,CW,KT c]
  have b:t.l.length=u.l.length:=b
  rw [b]
theorem KB (ls:List N5) (us:List T4) {k:Nat} (a:k<us.length) {l:List (BitVec 32)} (b:l.length=us[k].l.length):(ED ls (Ho us k a l)).length=(ED ls us).length:=by
 have e:(Ho us k a l).map (fun t=>t.l.length)=us.map (fun t=>t.l.length):=by
  unfold Ho
  rw [map_set]
  refine ext_getElem (by simp) fun j d c=> ?_
  rw [getElem_set]
  split
  ·rename_i e
   subst e
   rw [getElem_map]
   exact b
  ·rfl
 have:=KT e
 rw [Ir,Ir]
 unfold FE
 simp only [length_cons,length_append,this]
theorem Pa (us:List T4) {k i:Nat} (b:k<us.length) (f:i<us[k].l.length) (x:BitVec 32):(Ho us k b (us[k].l.set i (us[k].l[i] ^^^ x))).map pv=us.map pv↔x=0#32:=by
 rw [L1]
 constructor
 ·intro e
  have a:=cngA (fun l:List PV=>l[k]?) e
  simp only [getElem?_map,getElem?_eq_getElem b] at a
  rw [getElem?_set_self (by rw [length_map];exact b)] at a
  have d:us[k].l.set i (us[k].l[i] ^^^ x)=us[k].l:=cngA Prod.snd (Option.some.inj a)
  have c:=cngA (fun l:List (BitVec 32)=>l[i]?) d
  simp only [getElem?_eq_getElem f] at c
  rw [getElem?_set_self f] at c
  have g:=cngA (fun y=>us[k].l[i] ^^^ y) (Option.some.inj c)
  simpa only [← BitVec.xor_assoc,BitVec.xor_self,BitVec.zero_xor] using g
 ·rintro rfl
  rw [BitVec.xor_zero,set_getElem_self]
  refine ext_getElem (by simp) fun j a d=> ?_
  rw [getElem_set]
  split
  ·rename_i e
   subst e
   rw [getElem_map]
   rfl
  ·rfl
theorem AM.yyU:∀{w:World} {cs:List T4} {base a:Nat},AM w base a cs→cs.Pairwise fun c d=>IF c.y d.y
 |_,[],_,_,_=>List.Pairwise.nil
 |_,c::cs,_,_,⟨_,_,_,_,h3,h4⟩=>List.Pairwise.cons (fun d e b g f=>by
  have:=h3.by' b g
  have:=(h4.each d e).by' b f
  omega) h4.yyU
theorem Nn {w w' :World} {i s:Nat} {r:Value} {us:List T4} (d:CT w i s r us) {k:Nat} (c:k<us.length) {f:List (BitVec 32)} (g:w.grownBy w' us[k].y.ownBlock) (n:w'.ownsRow i 21 1 us[k].y f.length (f.map i32)):DR w' r (Ho us k c f):=by
 have h:∀b,us[k].y.ownBlock=some b→∃cs,AP w b 21 cs:=fun b e=>L7 (d.tw _ (getElem_mem c)).ty.own e
 refine ⟨?_,fun x t=> ?_⟩
 ·rw [Hn,LP]
  exact AG (CH d.own g h (by decide))
 ·obtain ⟨j,p,rfl⟩:=List.mem_iff_getElem.1 t
  have a:j<us.length:=by rwa [Hn] at p
  have m:(Ho us k c f)[j]=if k=j then ⟨us[k].x,us[k].y,us[k].s,f⟩ else us[j]:=by simp only [Ho,getElem_set]
  rw [m]
  split
  ·exact ⟨AL (CH (d.tw _ (getElem_mem c)).tx.own g h (by decide)),AL n⟩
  ·rename_i e
   have l:IF us[k].y us[j].y:=by
    have:=List.pairwise_iff_getElem.1 d.all.yyU
    rcases Nat.lt_or_gt_of_ne e with e|e
    ·exact this k j c a e
    ·exact (this j k a c e).symm
   have q:=AL (d.tw _ (getElem_mem a)).ty.own
   refine ⟨AL (CH (d.tw _ (getElem_mem a)).tx.own g h (by decide)),Sl.by q g ?_⟩
   cases e2:us[j].y.ownBlock with
   |none=>exact .inl rfl
   |some b=>exact .inr fun o=>l b o.symm e2


end Go.Proofs.YtblbopcaflaldaaGreatDoor

namespace Go.Dd
open Go Go.RowKit List
end Go.Dd

namespace Go.Proofs.YtblbopcaflaldaaGreatDoor
open Go Go.Dd Go.RowKit List
set_option maxRecDepth 100000

def RP (A:Nat) (x:Value) (B:Nat) (w1:World) (F:Nat→BitVec 32) (n:Nat) (w' :World):Prop:=
 ∃lv,AP w' A 75 [x,lv]∧w'.ownsRow B 21 1 lv n (((List.range n).map F).map i32)∧Below B w1 w'
theorem RP.bel {A B n:Nat} {x:Value} {a w' :World} {F:Nat→BitVec 32} (h:RP A x B a F n w'):Below B a w' :=by obtain ⟨_,_,_,h⟩:=h;exact h
end Go.Proofs.YtblbopcaflaldaaGreatDoor

namespace Go.Dd
open Go Go.RowKit
open List
namespace Shapes
end Shapes
open Shapes
def pl (s:List Int) (l:List (BitVec 32)) (p:List Int):BitVec 32:=l.getD (idx s p).toNat default
def mk (s:List Int) (f:List Int→BitVec 32):List (BitVec 32):=(List.range (Hf s).toNat).map fun i:Nat=>f (Ms s (i:Int))
def Rh (k:Nat) (j:Int) (q:List Int):List Int:=q.take k++j::q.drop k
def Ic (l:List (BitVec 32)):BitVec 32:=sm l.length fun i=>l.getD i default
end Go.Dd

namespace Go.Proofs.YtblbopcaflaldaaGreatDoor
open Go Go.Dd Go.RowKit List
set_option maxRecDepth 100000







abbrev Vn:TypeId:=114
structure Tj (W w:World) (A:Nat) (v:Value) (l:Bs) (bad:Bool):Prop where
 sl:BE b8 W v l
 bel:Below W.heap.size W w
 lo:W.heap.size≤A
 cell:AP w A Vn [v, .bool bad]
theorem Tj.bs {W w w' :World} {A:Nat} {v:Value} {l:Bs} {a:Bool} (h:Tj W w A v l a) (g:Below w.heap.size w w'):Tj W w' A v l a:=⟨h.sl,bt h.bel g,h.lo,h.cell.bs g⟩
theorem Tj.grow {W w w' :World} {A:Nat} {v:Value} {l:Bs} {a:Bool} {r:Option Nat} (h:Tj W w A v l a) (g:w.grownBy w' r) (c:∀b,r=some b→W.heap.size≤b∧b≠A):Tj W w' A v l a:=
 ⟨h.sl,h.bel.grown g (AA h.bel) fun b e=>(c b e).1,h.lo,h.cell.by g fun e=>(c A e.symm).2 rfl⟩
structure Dt (W x:World) (A M R:Nat) (rest:Bs) (bad:Bool) (ls:List N5) (vn:Value) (ts:List T4) (vw:Value):Prop where
 bel:Below W.heap.size W x
 res:AP x R 27 [.slice none 0 0, .slice none 0 0]
 m:AP x M 27 [vn,vw]
 g:∃v,Tj W x A v rest bad
 gb:bad=true→rest=[]
 o:x.ownsRow W.heap.size 79 5 vn ls.length (GI N5.cells ls)
 u:x.ownsRow W.heap.size 75 2 vw ts.length (cellsOf ts)
 en:∀c ∈ ls,AQ x W.heap.size 3 1 c.x c.i.length (c.i.map (Value.int .i64))∧AQ x W.heap.size 3 1 c.y c.s.length (c.s.map (Value.int .i64))
 et:∀t ∈ ts,AQ x W.heap.size 3 1 t.x t.s.length (t.s.map (Value.int .i64))∧AQ x W.heap.size 21 1 t.y t.l.length (t.l.map i32)
theorem Dt.bs {W x y:World} {A M R:Nat} {a:Bs} {d:Bool} {ls:List N5} {e:Value} {ts:List T4} {f:Value} (h:Dt W x A M R a d ls e ts f) (g:Below x.heap.size x y):Dt W y A M R a d ls e ts f:=by
 obtain ⟨v',r⟩:=h.g
 exact ⟨bt h.bel g,h.res.bs g,h.m.bs g,⟨v',r.bs g⟩,h.gb,AF h.o g,AF h.u g,fun c b=>⟨(h.en c b).1.bs g,(h.en c b).2.bs g⟩,fun c b=>⟨(h.et c b).1.bs g,(h.et c b).2.bs g⟩⟩
theorem Dt.gn {W x:World} {A M R:Nat} {b:Bs} {c:Bool} {ls:List N5} {d:Value} {ts:List T4} {f:Value} (h:Dt W x A M R b c ls d ts f):GN x d ls:=⟨AG h.o,fun a e=>⟨(h.en a e).1.slT,(h.en a e).2.slT⟩⟩
theorem Dt.tn {W x:World} {A M R:Nat} {b:Bs} {c:Bool} {ls:List N5} {f:Value} {ts:List T4} {e:Value} (h:Dt W x A M R b c ls f ts e):DR x e ts:=⟨AG h.u,fun a d=>⟨(h.et a d).1.slT,(h.et a d).2.slT⟩⟩
theorem Dt.ch {W x y:World} {A M R B:Nat} {k a:Bs} {n d:Bool} {ls:List N5} {q:Value} {ts:List T4} {m:Value} {U:TypeId} {cs:List Value} (h:Dt W x A M R k n ls q ts m) (g:x.grownBy y (some B)) (z:W.heap.size≤B) (v:AP x B U cs)
  (o:3≠U) (s:21≠U) (j:79≠U∨q.ownBlock≠some B) (i:75≠U∨m.ownBlock≠some B) (t:B≠M) (w:B≠R) (r:∃v',Tj W y A v' a d) (u:d=true→a=[]):Dt W y A M R a d ls q ts m:=by
 have f:∀b,some B=some b→∃cs,AP x b U cs:=fun b e=>by cases e;exact ⟨_,v⟩
 refine ⟨h.bel.grown g (AA h.bel) (fun b e=>by cases e;exact z),h.res.by g (fun e=>w (Option.some.inj e).symm),h.m.by g (fun e=>t (Option.some.inj e).symm),r,u, ?_, ?_,fun c l=>⟨AC (h.en c l).1 g f o,AC (h.en c l).2 g f o⟩,fun c l=>⟨AC (h.et c l).1 g f o,AC (h.et c l).2 g f s⟩⟩
 ·rcases j with j|j
  ·exact CH h.o g f j
  ·exact AR h.o fun b e=>g.block b (AB h.o b e).2 fun p=>j (by rw [e,p])
 ·rcases i with i|i
  ·exact CH h.u g f i
  ·exact AR h.u fun b e=>g.block b (AB h.u b e).2 fun p=>i (by rw [e,p])
theorem Dt.ob {W x y:World} {A M R B:Nat} {a:Bs} {c:Bool} {ls:List N5} {f:Value} {ts:List T4} {d:Value} {U:TypeId} {cs:List Value} (h:Dt W x A M R a c ls f ts d) (g:x.grownBy y (some B)) (i:W.heap.size≤B) (m:AP x B U cs)
  (n:3≠U) (j:21≠U) (p:79≠U∨f.ownBlock≠some B) (l:75≠U∨d.ownBlock≠some B) (o:B≠A) (k:B≠M) (q:B≠R):Dt W y A M R a c ls f ts d:=
 h.ch g i m n j p l k q (by obtain ⟨v',r⟩:=h.g;exact ⟨v',r.grow g fun b e=>by cases e;exact ⟨i,o⟩⟩) h.gb
end Go.Proofs.YtblbopcaflaldaaGreatDoor

namespace Go.Proofs.YtblbopcaflaldaaGreatDoor
open Go Go.Dd Go.RowKit Go.ChangeShapes Go.WideShapes List Go.Proofs.Tryz
set_option maxRecDepth 100000
theorem Od.bs {w w' :World} {b c:Nat} {v u:Value} {ls:List N5} {ts:List T4} (h:Od w b c v u ls ts) (g:Below w.heap.size w w'):Od w' b c v u ls ts:=by
 obtain ⟨⟨a,f,d⟩,i,e⟩:=h
 exact ⟨⟨a,f.bs g,d.bs g⟩,i.bs g,e.bs g⟩
structure Vs (w:World) (a d:Nat) (n:Int) (v u:Value) (ls:List N5) (ts:List T4):Prop where
 ki:PX w a d 3 1 (Vx n ls++Vw (n+2*ls.length+1) ts)
 kn:PX w a d 21 1 (Vv (n+2*ls.length+1) ts)
 kt:PX w a d 75 2 [IQ u ts.length (cellsOf ts) (n+2*ls.length+1+2*ts.length+1)]
 kd:PX w a d 79 5 [IQ v ls.length (GI N5.cells ls) (n+2*ls.length+1)]
 gn:GN w v ls
 tn:DR w u ts
 vl:∀b,v.ownBlock=some b→b<d
 ul:∀b,u.ownBlock=some b→b<d
 lsl:∀t ∈ ls,t.low d
 tsl:∀t ∈ ts,t.low d
theorem Vs.below {w w' :World} {a d B:Nat} {n:Int} {v u:Value} {ls:List N5} {ts:List T4} (h:Vs w a d n v u ls ts) (g:Below B w w') (c:d≤B):Vs w' a d n v u ls ts:=
 have b:Below d w w' :=g.mono c
 ⟨h.ki.below b (AU _),h.kn.below b (AU _),h.kt.below b (AU _),h.kd.below b (AU _),Uf h.gn h.vl h.lsl b,Qk h.tn h.ul h.tsl b,h.vl,h.ul,h.lsl,h.tsl⟩
theorem NA (v u:Value) (ls:List N5) (ws:List T4) (E:Int) (R:List (BitVec 8)) (W:World) (h:GN W v ls) (a:DR W u ws) (b:KA ls ws=E) (c:JX ls ws=R):
  AN prog 12 [.agg [v,u].toArray] W (fun r w' =>Below W.heap.size W w' ∧∃x,r= .tuple #[x, .int .i64 E]∧AQ w' W.heap.size 5 1 x R.length (R.map b8)):=by
 subst b c
 exact TM v u ls ws W h a
end Go.Proofs.YtblbopcaflaldaaGreatDoor

namespace Go.Proofs.YtblbopcaflaldaaGreatDoor
open Go Go.Dd Go.RowKit List Go.Proofs.Tryz
set_option maxRecDepth 100000
theorem own:ownKnob Tryz.prog.godebug=none:=by kernel_rfl
theorem LD:laidOutB prog=true:=by kernel_rfl
end Go.Proofs.YtblbopcaflaldaaGreatDoor

namespace Go.Proofs.YtblbopcaflaldaaGreatDoor
open Go Go.Dd Go.RowKit Go.ChangeShapes Go.WideShapes Go.ChangeAt List Go.Proofs.Tryz
set_option maxRecDepth 100000
theorem Ps {ls:List N5} {ws:List T4} (h:U0 ls ws≤60000):Rl ls+Ic (ws.length:Int) (ws.map fun t=>Jp t.s t.l)≤60000:=by
 have d:=GM (l:=ws.map fun t=>Jp t.s t.l) (n:=(ws.length:Int)) (fun x b=>by
  obtain ⟨a,c,rfl⟩:=List.mem_map.1 b
  have:=Jw a.s a.l;omega)
 unfold U0 at h
 split at h<;>omega
theorem Lm {H:Type} {enc:TypeId×Value→H} {w:World} {base:Nat} {z:Value} (k:Value.okWide prog w .any base 27 z) (h:In enc prog w 27 z.cells.toList):
  ∃(v u:Value) (ls:List N5) (ws:List T4),z= .agg [v,u].toArray∧GN w v ls∧ls.length≤1125899906842624∧(∀t ∈ ls,t.few)∧DR w u ws∧ws.length≤1125899906842624∧(∀t ∈ ws,MO t):=by
 obtain ⟨cs,rfl,e⟩:=K0 underlying27 k h
 obtain ⟨c,d⟩:=e.struct underlying27
 have s:Tryz.prog.cellsOf 27=2:=by kernel_rfl
 have q:Tryz.prog.cellsOf 24=1:=by kernel_rfl
 have o:Tryz.prog.cellsOf 25=1:=by kernel_rfl
 rw [s] at c
 obtain ⟨a,b,rfl⟩:∃a b,cs=[a,b]:=by
  match cs,c with
  |[a,b],_=>exact ⟨a,b,rfl⟩
 have i:In enc prog w 24 (([a,b].drop 0).take (Tryz.prog.cellsOf 24)):=d 0 _ rfl
 have g:In enc prog w 25 (([a,b].drop 1).take (Tryz.prog.cellsOf 25)):=d 1 _ rfl
 rw [q] at i
 rw [o] at g
 obtain ⟨v,ev,ls,n,r,p⟩:=Rk i
 obtain ⟨u,f,ws,m,j,l⟩:=S5 g
 simp at ev f
 subst ev f
 exact ⟨_,_,ls,ws,rfl,n,r,p,m,j,l⟩

set_option maxHeartbeats 4000000 in
theorem JW (v u v2 u2:Value) (ls C:List N5) (ws J:List T4) (q:BitVec 16) (x:BitVec 32) (W:World) (H:Jv W) (h:GN W v ls) (hl:ls.length≤1125899906842624) (hf:∀t ∈ ls,t.few) (G:DR W u ws) (lw:ws.length≤1125899906842624) (fw:∀t ∈ ws,MO t)
  (D:GN W v2 C) (hl2:C.length≤1125899906842624) (hf2:∀t ∈ C,t.few) (y:DR W u2 J) (lw2:J.length≤1125899906842624) (fw2:∀t ∈ J,MO t):
  AN prog 8 [.agg [v,u].toArray, .agg [v2,u2].toArray, .agg [u16 q,u32 x].toArray] W (fun r w' =>r= .bool true∧Below W.heap.size W w'):=by
 have B:=Below.refl W.heap.size W
 obtain ⟨E,hE⟩:∃E,E=KA ls ws:=⟨_,rfl⟩
 obtain ⟨R,hR⟩:∃R,R=JX ls ws:=⟨_,rfl⟩
 obtain ⟨F,hF⟩:∃E,E=KA C J:=⟨_,rfl⟩
 obtain ⟨S,hS⟩:∃R,R=JX C J:=⟨_,rfl⟩
 refine A4 (n:=149) func8 O<|Ai<|Cl (cs:=[v,u]) O O O ?_
 rintro A_m w eA_m d c -
 have B:=B.bs c
 have h:=h.bs c
 have G:=G.bs c
 have D:=D.bs c
 have y:=y.bs c
 have H:=H.bs c
 refine Cl (cs:=[v2,u2]) O O O ?_
 rintro A_o w eA_o o c -
 have B:=B.bs c
 have h:=h.bs c
 have G:=G.bs c
 have D:=D.bs c
 have y:=y.bs c
 have H:=H.bs c
 have d:=d.bs c
 refine Cl (cs:=[u16 q,u32 x]) O O O ?_
 rintro A_z w eA_z f c -
 have B:=B.bs c
 have h:=h.bs c
 have G:=G.bs c
 have D:=D.bs c
 have y:=y.bs c
 have H:=H.bs c
 have d:=d.bs c
 have o:=o.bs c
 refine Ab O<|A8<|Ah O O (LV _ H) ?_
 rintro _ w ⟨rfl,c⟩
 have B:=B.bs c
 have h:=h.bs c
 have G:=G.bs c
 have D:=D.bs c
 have y:=y.bs c
 have H:=H.bs c
 have d:=d.bs c
 have o:=o.bs c
 have f:=f.bs c
 refine Aa (Cz O) O<|Ad O<|Cx 22 (v' := .bool false) O (cngA Value.bool (rfl))<|Aj (dj:=22) O O<|Aa (Ce (k:=2) (FG _) (FB _) O O d) O<|Aj (dj:=22) O O<|Ah O O (Jh v u ls ws _ h hl hf G lw fw) ?_
 rintro _ w ⟨rfl,c⟩
 have B:=B.bs c
 have h:=h.bs c
 have G:=G.bs c
 have D:=D.bs c
 have y:=y.bs c
 have H:=H.bs c
 have d:=d.bs c
 have o:=o.bs c
 have f:=f.bs c
 refine Aj (dj:=22) O O<|Aa (C7 O O) O<|Co O<|Ad O ?_
 refine Cc 27 O ?_ ?_
 ·intro gm
  refine Ae (dj:=27) O O O O<|Ae (dj:=27) O O O O<|Ae (dj:=27) O O O O<|Bt O<|Ak<|B6 O<|Ai<|Ah O O (LV _ H) ?_
  rintro _ w ⟨rfl,c⟩
  have B:=B.bs c
  have h:=h.bs c
  have G:=G.bs c
  have D:=D.bs c
  have y:=y.bs c
  have H:=H.bs c
  have d:=d.bs c
  have o:=o.bs c
  have f:=f.bs c
  exact Ab rfl<|Bw<|Al rfl rfl<|⟨rfl,B⟩
 intro gm
 have gm:U0 ls ws≤60000:=by have:=AD gm;omega
 refine Aj (dj:=27) O O<|Aa (Ce (k:=2) (FG _) (FB _) O O o) O<|Aj (dj:=27) O O<|Ah O O (Jh v2 u2 C J _ D hl2 hf2 y lw2 fw2) ?_
 rintro _ w ⟨rfl,c⟩
 have B:=B.bs c
 have h:=h.bs c
 have G:=G.bs c
 have D:=D.bs c
 have y:=y.bs c
 have H:=H.bs c
 have d:=d.bs c
 have o:=o.bs c
 have f:=f.bs c
 refine Aj (dj:=27) O O<|Aa (C7 O O) O<|Co O<|Ak<|Am O ?_ ?_
 ·intro _
  refine Ai<|Ah O O (LV _ H) ?_
  rintro _ w ⟨rfl,c⟩
  have B:=B.bs c
  have h:=h.bs c
  have G:=G.bs c
  have D:=D.bs c
  have y:=y.bs c
  have H:=H.bs c
  have d:=d.bs c
  have o:=o.bs c
  have f:=f.bs c
  exact Ab rfl<|Bw<|Al rfl rfl<|⟨rfl,B⟩
 intro gm2
 clear gm2 hl2 hf2 lw2 fw2 hf fw
 have G0:=Ps gm
 have np:∀x ∈ ls.map Jg,0≤x:=fun x hx=>by
  obtain ⟨a,_,rfl⟩:=List.mem_map.1 hx
  have:=J0 a;omega
 have N0:=GM (n:=(ls.length:Int)) np
 have tp:∀x ∈ ws.map fun t=>Jp t.s t.l,0≤x:=fun x hx=>by
  obtain ⟨a,_,rfl⟩:=List.mem_map.1 hx
  have:=Jw a.s a.l;omega
 have T0:=GM (n:=(ws.length:Int)) tp
 have eg:Rl ls=1+Ic (ls.length:Int) (ls.map Jg):=rfl
 have ne:∀a ∈ ls,a.i.length≤4194304∧a.s.length≤4194304:=fun a ha=>by
  have h1:=JD (n:=(ls.length:Int)) np (by omega) (Jg a) (List.mem_map.2 ⟨a,ha,rfl⟩)
  have D:=TJ (a:=a) (m:=60000) (by omega) (by decide)
  omega
 have te:∀t ∈ ws,t.s.length≤4194304∧t.l.length≤4194304:=fun t ht=>by
  have h1:=JD (n:=(ws.length:Int)) tp (by omega) (Jp t.s t.l) (List.mem_map.2 ⟨t,ht,rfl⟩)
  have D:=RU (s:=t.s) (l:=t.l) (m:=60000) (by omega) (by decide)
  omega
 have nl2:ls.length≤2097152:=by omega
 have nw2:ws.length≤2097152:=by omega
 clear tp np G0 N0 T0 eg gm hl lw
 refine Ci<|Aa (Ce (k:=2) (FG _) (FB _) O O d) O<|Ah O O (NA v u ls ws E R _ h G hE.symm hR.symm) ?_
 rintro _ w ⟨c,a,rfl,K⟩
 obtain ⟨nA,hnA⟩:∃n,n=w.heap.size:=⟨_,rfl⟩
 have al:=fun b e=>(K.lt b e).2
 rw [← hnA] at al
 have B:=B.bs c
 have h:=h.bs c
 have G:=G.bs c
 have D:=D.bs c
 have y:=y.bs c
 have H:=H.bs c
 have d:=d.bs c
 have o:=o.bs c
 have f:=f.bs c
 refine Ad O<|Aa (Az (i:=0) O O) O<|Aa (Az (i:=1) O O) O<|Ab O<|Ab O<|A3<|Aa (Ce (k:=2) (FG _) (FB _) O O o) O ?_
 have zA:nA≤w.heap.size:=by omega
 refine Ah O O (NA v2 u2 C J F S _ D y hF.symm hS.symm) ?_
 rintro _ w7 ⟨c,b,rfl,kb⟩
 have z7:=c.size
 have B:=B.bs c
 have h:=h.bs c
 have G:=G.bs c
 have D:=D.bs c
 have y:=y.bs c
 have H:=H.bs c
 have d:=d.bs c
 have o:=o.bs c
 have f:=f.bs c
 have K:=K.bs c
 refine Ad O<|Aa (Az (i:=0) O O) O<|Aa (Az (i:=1) O O) O<|Ab O<|Ab O<|A8<|Ad O<|Aa (C0 O O) O<|Ak<|Am O ?_ ?_
 ·intro _
  exact Ai<|Ab rfl<|Bw<|Al rfl rfl<|⟨rfl,B⟩
 intro g
 have g:E=0:=by simpa using g
 have T:DB ls ws=true:=by
  cases e:DB ls ws with
  |true=>rfl
  |false=>rw [hE] at g;unfold KA at g;rw [e] at g;cases g
 have eR:R=ED ls ws:=by rw [hR];unfold JX;rw [if_pos T]
 have hgs:(EK ls).isSome=true:=O5 T
 clear g hE hR
 refine B1<|Ap<|Ap ?_
 refine D6 (St:=Unit) (fun z=>[(3, .pointer (some ⟨A_m,0,none⟩)),(4, .pointer (some ⟨A_o,0,none⟩)),(5, .pointer (some ⟨A_z,0,none⟩)),(7,a),(55, .bool false)]) (fun z w' =>Below w7.heap.size w7 w') ?_ ?_
 ·refine Cw.any mixed (fun wa p _=> ?_)
  refine C5 (fun w' =>Below w7.heap.size w7 w') (fun hC=> ?_) (p)
  refine Bz Bo<|Af 0 O (fun j A=>Bl O) O<|Af 1 O (fun j A=>Cn O O) O<|Af 2 O (fun j A=>Bl O) O<|Bj ?_
  refine G3 47 O ?_ ?_
  ·intro gf
   have gf:F=0:=AE gf
   have hm2:DB C J=true:=by
    cases e:DB C J with
    |true=>rfl
    |false=>rw [hF] at gf;unfold KA at gf;rw [e] at gf;cases gf
   have eS:S=ED C J:=by rw [hS];unfold JX;rw [if_pos hm2]
   have key:decide (R=S)=(decide (ls.map pn=C.map pn) && decide (ws.map pv=J.map pv)):=by rw [eR,eS,← Bool.decide_and];exact decide_eq_decide.2 (O2 T hm2)
   refine Cd (i:=3) (dj:=47) Bo O O O (by kernel_rfl) (by kernel_rfl) (by kernel_rfl) (fun j A=>Bl O) O<|Cd (i:=4) (dj:=47) Bo O O O (by kernel_rfl) (by kernel_rfl) (by kernel_rfl) (fun j A=>Bl O) O<|Cd (i:=6) (dj:=47) Bo O O O (by kernel_rfl) (by kernel_rfl) (by kernel_rfl) (fun j A=>Ce (k:=2) (FG _) (FB _) O O (d.bs A)) O<|Cd (i:=7) (dj:=47) Bo O O O (by kernel_rfl) (by kernel_rfl) (by kernel_rfl) (fun j A=>Ce (k:=2) (FG _) (FB _) O O (o.bs A)) O<|AK.only ‹_› (i:=5) (by kernel_rfl) O ?_
   refine Aj (dj:=47) O O<|Ah O O (Je a b R S wa (K.slT.bs p) (kb.slT.bs p)) ?_
   rintro _ wb ⟨rfl,c⟩
   have p:=bt p c
   refine AK.back<|AK.only ‹_› (i:=8) (by kernel_rfl) O ?_
   refine Aj (dj:=47) O O<|Ah O O (Mo v v2 u u2 ls C ws J wb (h.bs p) (D.bs p) (G.bs p) (y.bs p)) ?_
   rintro _ wc ⟨rfl,c⟩
   have p:=bt p c
   refine AK.back<|Cd (i:=9) (dj:=47) Bo O O O (by kernel_rfl) (by kernel_rfl) (by kernel_rfl) (fun j A=>Ex.neqB RS O O) O<|Bz Bo<|Af 10 O (fun j A=>Dc O O) O<|Bj<|AK.done ‹_› (by kernel_rfl) ?_
   exact B4 (()) ⟨rfl,rfl,rfl,rfl,cngA some (cngA Value.bool (by rw [key];simp)),trivial⟩ (p)
  intro gf
  refine Cu (i:=3) (dj:=47) Bo O O O O (by kernel_rfl) (by kernel_rfl) (by kernel_rfl) O<|Cu (i:=4) (dj:=47) Bo O O O O (by kernel_rfl) (by kernel_rfl) (by kernel_rfl) O<|Cu (i:=5) (dj:=47) Bo O O O O (by kernel_rfl) (by kernel_rfl) (by kernel_rfl) O<|Cu (i:=6) (dj:=47) Bo O O O O (by kernel_rfl) (by kernel_rfl) (by kernel_rfl) O<|Cu (i:=7) (dj:=47) Bo O O O O (by kernel_rfl) (by kernel_rfl) (by kernel_rfl) O<|Cu (i:=8) (dj:=47) Bo O O O O (by kernel_rfl) (by kernel_rfl) (by kernel_rfl) O<|Cu (i:=9) (dj:=47) Bo O O O O (by kernel_rfl) (by kernel_rfl) (by kernel_rfl) O<|Bz Bo<|Af 10 O (fun j A=>Dw O O) O<|Bj<|AK.done ‹_› (by kernel_rfl) ?_
  exact B4 (()) ⟨rfl,rfl,rfl,rfl,rfl,trivial⟩ (p)
 rintro - w8 p
 have z8:=p.size
 have h:=h.bs p
 have G:=G.bs p
 have D:=D.bs p
 have H:=H.bs p
 have K:=K.bs p
 have d:=d.bs p
 have o:=o.bs p
 have f:=f.bs p
 replace B:=bt B p
 clear p kb y hF hS
 refine Cq O false (rfl)<|Ci<|A9 underlying27 O (BP _)<|Aa (Dy (ds:=[v]) (ER _) (BP _) O O ‹_› rfl) O ?_
 refine Ah O O (LC v ls _ H h) ?_
 rintro _ w ⟨c,rfl⟩
 have z9:=c.size
 have B:=B.bs c
 have h:=h.bs c
 have G:=G.bs c
 have D:=D.bs c
 have H:=H.bs c
 have d:=d.bs c
 have o:=o.bs c
 have f:=f.bs c
 have K:=K.bs c
 refine Ad O<|Aa (Az (i:=0) O O) O<|Aa (Az (i:=1) O O) O<|Ab O<|Ab O<|A3<|A9 underlying27 O (BP _)<|Aa (Dy (ds:=[v2]) (ER _) (BP _) O O ‹_› rfl) O ?_
 refine Ah O O (LC v2 C _ H D) ?_
 rintro _ w9 ⟨c,rfl⟩
 have z10:=c.size
 have B:=B.bs c
 have h:=h.bs c
 have G:=G.bs c
 have D:=D.bs c
 have H:=H.bs c
 have d:=d.bs c
 have o:=o.bs c
 have f:=f.bs c
 have K:=K.bs c
 refine Ad O<|Aa (Az (i:=0) O O) O<|Aa (Az (i:=1) O O) O<|Ab O<|Ab O<|Ak<|Ap<|Ap ?_
 refine D6 (St:=Unit) (fun z=>[(3, .pointer (some ⟨A_m,0,none⟩)),(5, .pointer (some ⟨A_z,0,none⟩)),(7,a),(80, .bool false)]) (fun z w' =>Below w9.heap.size w9 w') ?_ ?_
 ·refine A5<|Ad O<|Aa (Cn O O) O<|Ad O ?_
  refine Cc 70 O ?_ ?_
  ·intro gt
   have gt:(EK C).isSome=true:=by
    have:=AE gt
    unfold JE at this
    cases e:(EK C).isSome with
    |true=>rfl
    |false=>rw [e] at this;cases this
   have e1:GX ls=BX ls:=by unfold GX;rw [if_pos hgs]
   have e2:GX C=BX C:=by unfold GX;rw [if_pos gt]
   have key:decide (GX ls=GX C)=decide (ls.map pn=C.map pn):=by rw [e1,e2];exact decide_eq_decide.2 (Qi hgs gt)
   refine Aj (dj:=70) O O<|Ad O<|Aj (dj:=70) O O<|Ad O<|Aj (dj:=70) O O<|Aa (Ex.eqlS O O) O<|Aj (dj:=70) O O<|A9 underlying27 O (BP _)<|Aj (dj:=70) O O<|Aa (Dy (ds:=[v]) (ER _) (BP _) O O ‹_› rfl) O ?_
   refine Aj (dj:=70) O O<|A9 underlying27 O (BP _)<|Aj (dj:=70) O O<|Aa (Dy (ds:=[v2]) (ER _) (BP _) O O ‹_› rfl) O ?_
   refine Aj (dj:=70) O O<|Ah O O (Jd v v2 ls C _ h D) ?_
   rintro _ w ⟨rfl,c⟩
   refine Aj (dj:=70) O O<|Aa (Ex.neqB RS O O) O<|Bt O<|A7 ?_
   exact B4 (()) ⟨rfl,rfl,rfl,cngA some (cngA Value.bool (by rw [← key];simp)),trivial⟩ (c)
  intro gt
  exact Ae (dj:=70) rfl rfl rfl rfl<|Ae (dj:=70) rfl rfl rfl rfl<|Ae (dj:=70) rfl rfl rfl rfl<|Ae (dj:=70) rfl rfl rfl rfl<|Ae (dj:=70) rfl rfl rfl rfl<|Ae (dj:=70) rfl rfl rfl rfl<|Ae (dj:=70) rfl rfl rfl rfl<|Ae (dj:=70) rfl rfl rfl rfl<|Ae (dj:=70) rfl rfl rfl rfl<|Co rfl<|A7<|B4 (()) ⟨rfl,rfl,rfl,rfl,trivial⟩ (Below.refl _ _)
 rintro - w10 p
 have z11:=p.size
 have h:=h.bs p
 have G:=G.bs p
 have K:=K.bs p
 have d:=d.bs p
 have f:=f.bs p
 replace B:=bt B p
 clear p D H o
 have ushp:=G.1.shp
 refine Cq O false (rfl)<|B1<|Ap<|Ai<|A9 underlying27 O (CZ _)<|Aa (Ao (FH _) O ‹_› rfl) O ?_
 refine Aa (D5 BY O ushp) O<|Aa (Cn O O) O<|Ak<|Am O ?_ ?_
 ·intro _
  exact Ai<|Ab rfl<|Bw<|Al rfl rfl<|⟨rfl,B⟩
 intro g0
 have g0:0<ws.length:=by have:=AD g0;omega
 refine Ci<|Aa (Ce (k:=2) (FG _) (FB _) O O d) O<|Ah O O (Mj v u ls ws _ h ne nl2 G te nw2) ?_
 rintro _ w ⟨c,gv,wv,Y,us,mid,rfl,hT,U,eG,eU⟩
 obtain ⟨tU,htU⟩:∃n,n=w.heap.size:=⟨_,rfl⟩
 rw [← htU] at U
 have hmid:nA≤mid:=by have:=hT.all.le;omega
 have zW:=AA B
 have hmid2:W.heap.size≤mid:=by have:=hT.all.le;omega
 clear h G
 have B:=B.bs c
 have d:=d.bs c
 have f:=f.bs c
 have K:=K.bs c
 have lus:us.length=ws.length:=by have:=cngA length eU;simpa using this
 have mU:DB Y us=true:=by rw [Su (us:=Y) (ls:=ls) eG (ts:=us) (ws:=ws) eU];exact T
 have rU:R=ED Y us:=by rw [eR];unfold ED;rw [MX (us:=Y) (ls:=ls) eG (ts:=us) (ws:=ws) eU]
 have oM:[gv,wv].all (·.oneCell')=true:=by rw [all_cons,all_cons,(AG hT.own).one',(AG U.own).one'];rfl
 have wshp:=(AG U.own).shp
 have wle:=(AG U.own).le
 obtain ⟨k,hk0⟩:∃k,k=q.toNat % us.length:=⟨_,rfl⟩
 have M:k<us.length:=by rw [hk0];exact Nat.mod_lt _ (by omega)
 have tk:K4 us[k].s us[k].l=true:=(O3 mU).2 _ (getElem_mem M)
 have lpos:0<us[k].l.length:=by
  obtain ⟨k1,k2⟩:=Nq tk
  have:0<Shapes.size us[k].s:=by simpa [Shapes.ok] using k1
  omega
 obtain ⟨i,hi0⟩:∃i,i=q.toNat % us[k].l.length:=⟨_,rfl⟩
 have hi:i<us[k].l.length:=by rw [hi0];exact Nat.mod_lt _ lpos
 have uad:=U.tens.ad M
 have ck:=(DP M).2
 have cle:=(AG (U.tw _ (getElem_mem M)).ty.own).le
 refine C2 (cs:=[gv,wv]) La O O O O (fun _=>rfl) (oM) ?_
 rintro A_t w eA_t b_t c -
 have B:=B.bs c
 have d:=d.bs c
 have f:=f.bs c
 have K:=K.bs c
 have hT:=hT.bs c
 have U:=U.bs c
 refine A3<|A9 underlying84 O (SQ _)<|Aa (Ao (Tg _) O ‹_› rfl) O ?_
 refine Aa (Fw SO Hl O) O<|A9 underlying27 O (CZ _)<|Aa (Ao (FH _) O ‹_› rfl) O ?_
 refine Aa (D5 BY O wshp) O<|Aa (Ex.remI O O (by omega) (by omega)) O<|Ab O<|Ak<|Ap<|Ey 16 (v' := .int .i64 (k:Int)) O (cngA (Value.int .i64) (by rw [hk0];rfl)) ?_
 rename World=>wT
 have sT:=(AG U.own)
 have zt:=AA B
 refine Cw.any mixed (fun wa p _=> ?_)
 refine C5 (fun w' =>Below wT.heap.size wT w') (fun hC=> ?_) (p)
 refine Bz (Av Bh)<|Af 0 O (fun j A=>Ch underlying84 O (SQ _)) O<|Af 1 O (fun j A=>Ao (Tg _) O (AP.bs ‹_› A) O) O<|Af 2 O (fun j A=>Fw SO Hl O) O<|Af 3 O (fun j A=>Ch underlying27 O (CZ _)) O<|Af 4 O (fun j A=>Ao (FH _) O (AP.bs ‹_› A) O) O<|Af 5 O (fun j A=>Bl O) O<|Af 6 O (fun j A=>C6 BY O O (sT.bs A) k O M) O<|Af 7 O (fun j A=>Df (q:=0) underlying75 O (FY _) O uad) O<|Af 8 O (fun j A=>F3 (GG _) O (sT.bs A) ck) O<|Af 9 O (fun j A=>D5 CE O (AG (U.tw _ (getElem_mem M)).ty.own).shp) O<|Af 10 O (fun j A=>Ex.remI O O (by omega) (by omega)) O<|Af 11 O (fun j A=>Bx O) O<|Bj<|AK.done ‹_› (by kernel_rfl) ?_
 refine Ay<|B9<|Ap<|Ey 17 (v' := .int .i64 (i:Int)) O (cngA (Value.int .i64) (by rw [hi0];rfl)) ?_
 have sA:=sT.bs p
 have cA:=AL ((U.tw _ (getElem_mem M)).bs p).ty.own
 have b_tA:=b_t.bs p
 have b_zA:=f.bs p
 refine Cw.tail 21 mixed (by kernel_rfl)<|Ax (fun j I=>Ch underlying27 O (CZ _)) O<|Ax (fun j I=>Ao (FH _) O (AP.bs ‹_› I) O) O ?_
 refine B5 O<|Ax (fun j I=>C6 BY O O (sA.bs I) k O M) O<|Ax (fun j I=>Df (q:=0) underlying75 O (FY _) O uad) O<|Ax (fun j I=>F3 (GG _) O (sA.bs I) ck) O<|B5 O<|Ax (fun j I=>Ch underlying27 O (CZ _)) O<|Ax (fun j I=>Ao (FH _) O (AP.bs ‹_› I) O) O ?_
 refine B5 O<|Ax (fun j I=>C6 BY O O (sA.bs I) k O M) O<|Ax (fun j I=>Df (q:=0) underlying75 O (FY _) O uad) O<|Ax (fun j I=>F3 (GG _) O (sA.bs I) ck) O<|B5 O<|Ax (fun j I=>Bb CE O O (cA.bs I) i O hi) O<|Ax (fun j I=>(Bf (MZ _) O (cA.bs I) hi).as (cngA i32 (I2 hi))) O<|Ax (fun j I=>Ch underlying84 O (KH _)) O<|Ax (fun j I=>Ao (OM _) O (AP.bs ‹_› I) O) O ?_
 refine Ax (fun j I=>E6 GW Oi O) O<|Ax (fun j I=>Ex.xori32 O O) O<|Ax (fun j I=>Bb CE O O (cA.bs I) i O hi) O ?_
 refine Qw.done (fun wb I=> ?_)
 have N:=I
 have hU2:=(U.bs p).bs N
 have hT2:=(hT.bs p).bs N
 have ow:=(hU2.tw _ (getElem_mem M)).ty.own
 have hB2:=bt (bt B p) N
 have b_tB:=b_tA.bs N
 have X:=b_zA.bs N
 have ka2:=(K.bs p).bs N
 obtain ⟨yb,hyb⟩:∃b,us[k].y.ownBlock=some b:=by
  obtain ⟨b,cap,e, -⟩:=(hU2.tw _ (getElem_mem M)).ty
  exact ⟨b,by rw [e];rfl⟩
 have ylo:=(AB ow yb hyb).1
 obtain ⟨ycs,b_y⟩:=L7 ow hyb
 refine A6 (Gf (SR _) O O O ow (by rw [length_map];exact hi)) ?_
 rintro wS ⟨o_y,hg, -⟩
 have V:=hg
 rw [hyb] at V
 have o_y2:wS.ownsRow mid 21 1 us[k].y (us[k].l.set i (us[k].l[i] ^^^ x)).length ((us[k].l.set i (us[k].l[i] ^^^ x)).map i32):=by
  rw [length_set,map_set]
  exact o_y
 have tS:=Nn hU2 M hg o_y2
 have gS:=(hT2.by V b_y (by decide) (by decide)).gn
 have Z:AP wS A_t 27 [gv,wv]:=b_tB.by V (fun e=>by cases e;exact absurd (AX b_tB b_y) (by decide))
 have b_zS:AP wS A_z 84 [u16 q,u32 x]:=X.by V (fun e=>by cases e;exact absurd (AX X b_y) (by decide))
 have sa:BE b8 wS a R:=Sl.by ka2.slT V (by
  cases e:a.ownBlock with
  |none=>exact .inl rfl
  |some b=>exact .inr fun e2=>by have:=al b e;cases e2;omega)
 replace B:Below W.heap.size W wS:=hB2.grown hg hB2.size (fun b e=>by have:=(AB ow b e).1;omega)
 clear U hT hU2 hT2 ow sA cA b_tA b_zA b_tB X K ka2 b_t f d o_y o_y2 hg V b_y p N I sT hB2
 obtain ⟨L,Q⟩:∃L,L=Ho us k M (us[k].l.set i (us[k].l[i] ^^^ x)):=⟨_,rfl⟩
 have mS:DB Y L=true:=by rw [Q];exact QO M (by rw [length_set]) mU
 have lS:(ED Y L).length=R.length:=by rw [Q,rU];exact KB Y us M (by rw [length_set])
 have key:decide (R=ED Y L)=decide (x=0#32):=by
  rw [rU]
  refine decide_eq_decide.2 ((O2 mU mS).trans ?_)
  rw [Q]
  refine Iff.trans ?_ (Pa us M hi x)
  exact ⟨fun e=>e.2.symm,fun e=>⟨rfl,e.symm⟩⟩
 rw [← Q] at tS
 refine A3<|Aa (Ce (k:=2) (FG _) (FB _) O O Z) O<|Ah O O (NA gv wv Y L 0 (ED Y L) _ gS tS (by unfold KA;rw [if_pos mS]) (by unfold JX;rw [if_pos mS])) ?_
 rintro _ w ⟨c,c2,rfl,kc⟩
 have B:=B.bs c
 have tS:=tS.bs c
 have gS:=gS.bs c
 have Z:=Z.bs c
 have b_zS:=b_zS.bs c
 have sa:=sa.bs c
 have cshp:=kc.slT.shp
 have ashp:=sa.shp
 refine Ad O<|Aa (Az (i:=0) O O) O<|Aa (Az (i:=1) O O) O<|Ab O<|Ab O<|Ak<|Ap ?_
 refine Cw.any mixed (fun wd p _=> ?_)
 refine C5 (fun w' =>Below w.heap.size w w') (fun hC=> ?_) (p)
 refine Bz (Av Bh)<|Af 0 O (fun j A=>Bl O) O<|Af 1 O (fun j A=>Cn O O) O<|Af 2 O (fun j A=>Bl O) O<|Bj<|G4 133 (v' := .bool true) O (cngA Value.bool (rfl))<|Cd (i:=3) (dj:=133) (Av Bh) O O O (by kernel_rfl) (by kernel_rfl) (by kernel_rfl) (fun j A=>Bl O) O<|Cd (i:=4) (dj:=133) (Av Bh) O O O (by kernel_rfl) (by kernel_rfl) (by kernel_rfl) (fun j A=>D5 AO O cshp) O<|Cd (i:=5) (dj:=133) (Av Bh) O O O (by kernel_rfl) (by kernel_rfl) (by kernel_rfl) (fun j A=>Bl O) O<|Cd (i:=6) (dj:=133) (Av Bh) O O O (by kernel_rfl) (by kernel_rfl) (by kernel_rfl) (fun j A=>D5 AO O ashp) O<|Cd (i:=7) (dj:=133) (Av Bh) O O O (by kernel_rfl) (by kernel_rfl) (by kernel_rfl) (fun j A=>Cn O O) O<|Bz (Av Bh)<|Af 8 O (fun j A=>Dc O O) O<|Af 9 O (fun j A=>Bl O) O<|Bj<|G4 140 (v' := .bool true) O (cngA Value.bool (by rw [lS];simp))<|Cd (i:=10) (dj:=140) (Av Bh) O O O (by kernel_rfl) (by kernel_rfl) (by kernel_rfl) (fun j A=>Bl O) O<|Cd (i:=11) (dj:=140) (Av Bh) O O O (by kernel_rfl) (by kernel_rfl) (by kernel_rfl) (fun j A=>Bl O) O<|Cd (i:=13) (dj:=140) (Av Bh) O O O (by kernel_rfl) (by kernel_rfl) (by kernel_rfl) (fun j A=>Ch underlying84 O (KH _)) O<|Cd (i:=14) (dj:=140) (Av Bh) O O O (by kernel_rfl) (by kernel_rfl) (by kernel_rfl) (fun j A=>Ao (OM _) O (AP.bs ‹_› A) O) O<|Cd (i:=15) (dj:=140) (Av Bh) O O O (by kernel_rfl) (by kernel_rfl) (by kernel_rfl) (fun j A=>Ex.eql32 O (show _=some (u32 (0#32)) from rfl)) O<|AK.only ‹_› (i:=12) (by kernel_rfl) O ?_
 refine Aj (dj:=140) O O<|Ah O O (Je a c2 R (ED Y L) wd (sa.bs p) (kc.slT.bs p)) ?_
 rintro _ we ⟨rfl,c⟩
 have p:=bt p c
 refine AK.back<|Cd (i:=16) (dj:=140) (Av Bh) O O O (by kernel_rfl) (by kernel_rfl) (by kernel_rfl) (fun j A=>Ex.eqlB RS O O) O<|Bz (Av Bh)<|Af 17 O (fun j A=>Dc O O) O<|Af 18 O (fun j A=>Bx O) O<|Bj<|AK.done ‹_› (by kernel_rfl) ?_
 refine Ay<|B9<|Dq<|Al O O ?_
 refine ⟨?_,bt B p⟩
 rw [key]
 simp

theorem RC {H:Type} {enc:TypeId×Value→H} {w:World} {base:Nat} {z:Value} (l:Value.okWide prog w .any base 84 z) (h:In enc prog w 84 z.cells.toList):
  ∃(q:BitVec 16) (x:BitVec 32),z= .agg [u16 q,u32 x].toArray:=by
 obtain ⟨cs,rfl,e⟩:=K0 underlying84 l h
 obtain ⟨c,d⟩:=e.struct underlying84
 have k:Tryz.prog.cellsOf 84=2:=by kernel_rfl
 have g:Tryz.prog.cellsOf 81=1:=by kernel_rfl
 have f:Tryz.prog.cellsOf 82=1:=by kernel_rfl
 rw [k] at c
 obtain ⟨x,y,rfl⟩:∃a b,cs=[a,b]:=by
  match cs,c with
  |[a,b],_=>exact ⟨a,b,rfl⟩
 obtain ⟨p,i⟩:=In.num (BitVec.ofInt 16) u16 (fun _ h=>Tr h) SP (d 0 _ rfl)
 obtain ⟨q,j⟩:=In.num (BitVec.ofInt 32) u32 (fun _ h=>Tq h) Ia (d 1 _ rfl)
 simp [g,f] at i j
 subst i j
 exact ⟨p,q,rfl⟩
end Go.Proofs.YtblbopcaflaldaaGreatDoor

namespace Go.Proofs.YtblbopcaflaldaaGreatDoor
open Go Go.Dd Go.RowKit Go.ChangeShapes List Go.Proofs.Tryz
set_option maxRecDepth 100000
def R5:DataW Unit→List Value
 | .lit (.int k n)=>[.int k n]
 | .lit (.bool b)=>[.bool b]
 |_=>[]
def UZ:DataW Unit→List Value
 | .agg l=>l.flatMap R5
 |d=>R5 d
def UY:DataW Unit→List Value
 | .agg l=>l.flatMap UZ
 |d=>R5 d
noncomputable def UM:Nat:=(World.holding prog default ⟨#[], #[],[]⟩).heap.size
noncomputable def Kf (os:Os):World:=
 let w0:=World.holding prog os ⟨#[.cells #[st [118,97,108,117,101,32,111,117,116,32,111,102,32,114,97,110,103,101]] 356, .cells #[st [105,110,118,97,108,105,100,32,115,121,110,116,97,120]] 356], #[],[]⟩
 {w0 with heap:=((Rows.modelsTextRow.laid.foldl (fun h x=>h.modify ((Tryz.prog.globalNamed x.1).getD 0) fun
   | .cells _ t fz=> .cells (UY x.2).toArray t fz
   |o=>o) w0.heap).modify 5 fun
   | .cells _ t fz=> .cells #[.iface 354 (.pointer (some ⟨UM,0,none⟩))] t fz
   |o=>o).modify 4 fun
   | .cells _ t fz=> .cells #[.iface 354 (.pointer (some ⟨UM+1,0,none⟩))] t fz
   |o=>o}
theorem P0 (os:Os) (args:Array Value):laidMetH prog Rows.modelsTextRow.laid ((Kf os).forCall (fun _ _=>0) ⟨#[],args,[]⟩).memory:=
 laidMetH_of_parts (laidMet_of_run' 8 (by kernel_rfl) (by kernel_rfl)) (by kernel_rfl)
theorem Ov (u : TypeId) (h : Tryz.prog.typeName? 3 u = some "*errors.errorString") : u = 354 :=
 typeName_ptr_named (nm := "errors.errorString") (by kernel_rfl) (by kernel_rfl) (by decide) u h
theorem MJ {W:World} (n:laidMetH prog Rows.modelsTextRow.laid W) (c:W.ShapedOpen prog):Jv W:=by
 have h:laidMet prog Rows.modelsTextRow.laid W:=n
 have f:=h.tail.tail
 have i:=f.tail.tail
 have l:=i.tail
 obtain ⟨a,s,k, -⟩:=laid_sentinel i (g:=5) (by kernel_rfl) (ti:=129) (by kernel_rfl) underlying129 Ov underlying354 underlying356 rfl rfl Mh (by kernel_rfl) (by kernel_rfl)
 obtain ⟨b,u,j, -⟩:=laid_sentinel l (g:=4) (by kernel_rfl) (ti:=129) (by kernel_rfl) underlying129 Ov underlying354 underlying356 rfl rfl Mh (by kernel_rfl) (by kernel_rfl)
 have d:W.cell? ⟨5,0,none⟩=some (.iface 354 (.pointer (some a))):=by simpa using World.var?_cell (g:=5) (by kernel_rfl) k 0
 have m:W.cell? ⟨4,0,none⟩=some (.iface 354 (.pointer (some b))):=by simpa using World.var?_cell (g:=4) (by kernel_rfl) j 0
 refine ⟨cell_of_shapedOpen_int c (g:=0) (t:=3) (zero:= #[.int .i64 0]) (AE (by kernel_rfl)) (by kernel_rfl) O (by kernel_rfl) (by kernel_rfl) Hl,Lib.tabIs_of_head (g:=1) (by kernel_rfl) (by kernel_rfl) underlying332 Qd (by kernel_rfl) (by kernel_rfl) f,⟨_,_,m⟩,⟨_,_,d⟩, ?_⟩
 rcases Nat.lt_or_ge 5 W.heap.size with e|e
 ·exact e
 ·rw [show W.cell? ⟨5,0,none⟩=none by simp [World.cell?,Array.getElem?_eq_none e]] at d
  cases d
end Go.Proofs.YtblbopcaflaldaaGreatDoor

namespace Go.Proofs.YtblbopcaflaldaaGreatDoor
open Go Go.Dd Go.RowKit Go.ChangeShapes List
set_option maxRecDepth 100000
theorem Py {H:Type} {enc:TypeId×Value→H} {a:Assume} {C:Checked} {os:Os} {f:FuncId} {p:Func} {s:ChangeSpec} {o:List PathCond} {b m h k:Bool} {l:List (String×DataW Unit)}
  (own:ownKnob C.prog.godebug=none) (n:os.Started) (q:C.prog.inits.idxOf? f=none) (B:C.prog.funcs[f]? =some p)
  (J:∃(w:World) (c:Tape) (i:Input),w.os=os∧(w.forCall c i).Shaped C.prog∧i.vars=[]∧Input.okWide C.prog (w.forCall c i) .any w.heap.size f i∧
   ((s.pre enc C.prog p o b (w.forCall c i).memory i.args∧laidMetH C.prog l (w.forCall c i).memory)∧sizedMet enc C.prog p (OpenSpec.ofChange s) b (w.forCall c i).memory i.args)∧a.holds C.prog (lone (Frame.enter C.prog f i.args .normal) [] (w.forCall c i)))
  (u:∀(W:World) (base:Nat) (args:Array Value) (ds y:List (DataW H)) (d:List MemPlace),(∀(j:Nat) t v,p.params[j]? =some t→args[j]? =some v→Value.okWide C.prog W .any base t v)→
   DataW.Whole enc C.prog p.params.toList s.vars b W args.toList ds y d→(DataW.weightsEach C.prog (p.params.toList++s.plain.varTypes C.prog) (ds++y)).all (·≤reachBytes)=true→laidMetH C.prog l W→W.ShapedOpen C.prog→
   Calls C.prog f args W fun e E=>∃v,e= .returned v∧s.post enc C.prog p b m h k W args v E):
  ReturnsInHanded a C os f .any (fun w args=>(s.pre enc C.prog p o b w args∧laidMetH C.prog l w)∧sizedMet enc C.prog p (OpenSpec.ofChange s) b w args) (s.post enc C.prog p b m h k):=
 returnsInHanded_of_calls own n q J fun w c i _ A _ z x _=>by
  obtain ⟨_,_,_,g,F,_,_,_,_,r⟩:=z
  cases B.symm.trans F
  obtain ⟨⟨⟨ds,y,d,D,_⟩,G⟩,I⟩:=x
  refine (u _ _ _ ds y d r (DataW.Whole.of_heap (w' :=w.forCall c i) (by rfl) D) (I.weights D) (laidMetH.of_heap (w' :=w.forCall c i) (by rfl) G) A).mono ?_
  rintro e E ⟨v,rfl,K⟩
  exact ChangeSpec.post_blind K
end Go.Proofs.YtblbopcaflaldaaGreatDoor
