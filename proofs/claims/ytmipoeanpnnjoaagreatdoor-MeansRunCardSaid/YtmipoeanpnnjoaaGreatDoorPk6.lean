/- Texts of this proof, one behind the other: RefDo, AllPl, RefGraph, RefShapes, RefAll, RefRun, TensorsArg, TensArg, MeansArg, TwinTensor, TwinNode, BookCode. -/
import Derived.Test.YtmipoeanpnnjoaaGreatDoorPk3
import Derived.Test.YtmipoeanpnnjoaaGreatDoorPk4
import Derived.Test.YtmipoeanpnnjoaaGreatDoorPk5
import Derived.Test.YtmipoeanpnnjoaaGreatDoorPk2
import Derived.Test.YtmipoeanpnnjoaaGreatDoorPk1

namespace Go.Proofs.YtmipoeanpnnjoaaGreatDoor
open Go Go.Dd Go.RowKit List Go.Proofs.Tryz
set_option maxRecDepth 100000
theorem VP:∀k:BitVec 8,(DO k).isSome=false→IK k.toNat=none:=by decide+kernel
theorem X4 {k:BitVec 8} {s:List Int} {p e f:Int} (h:(f=0∧e=0∧k≠10#8∧k≠11#8∧k≠8#8)∨(f=0∧e=8∧k=8#8)∨(f=1∧e=0∧k=10#8)∨(f=2∧e=0∧k=11#8)):
  HK k s p=true↔(0≤p∧p≤e)∧(if f=0 then decide (s.length=0) else if f=1 then Shapes.ok s else Hb s)=true:=by
 unfold HK
 rcases h with ⟨rfl,rfl,g,d,i⟩|⟨rfl,rfl,rfl⟩|⟨rfl,rfl,rfl⟩|⟨rfl,rfl,rfl⟩
 ·rw [if_neg g,if_neg d,if_neg i,if_pos rfl]
  simp only [Bool.and_eq_true,decide_eq_true_eq]
  constructor
  ·rintro ⟨a,b⟩;exact ⟨by omega,a⟩
  ·rintro ⟨a,b⟩;exact ⟨b,by omega⟩
 ·rw [if_neg (by decide),if_neg (by decide),if_pos rfl,if_pos rfl]
  simp only [Bool.and_eq_true,decide_eq_true_eq]
  constructor
  ·rintro ⟨⟨a,b⟩,c⟩;exact ⟨⟨b,c⟩,a⟩
  ·rintro ⟨⟨a,b⟩,c⟩;exact ⟨⟨c,a⟩,b⟩
 ·rw [if_pos rfl,if_neg (by decide),if_pos rfl]
  simp only [Bool.and_eq_true,decide_eq_true_eq]
  constructor
  ·rintro ⟨a,b⟩;exact ⟨by omega,a⟩
  ·rintro ⟨a,b⟩;exact ⟨b,by omega⟩
 ·rw [if_neg (by decide),if_pos rfl,if_neg (by decide),if_neg (by decide)]
  simp only [Bool.and_eq_true,decide_eq_true_eq]
  constructor
  ·rintro ⟨a,b⟩;exact ⟨by omega,a⟩
  ·rintro ⟨a,b⟩;exact ⟨b,by omega⟩
theorem X7 {x:N5} {ts:List T4} {a b c d e f:Int} (m:IK x.k.toNat=some (a,b,c,d)) (o:DO x.k=some [a,b,c,d,e,f]) (n:HK x.k x.s x.p=true↔(0≤x.p∧x.p≤e)∧(if f=0 then decide (x.s.length=0) else if f=1 then Shapes.ok x.s else Hb x.s)=true):
  DK x ts=true↔CJ x.k x.i x.s x.n x.p=true∧ts.length=x.i.length:=by
 have e1:DK x ts=(decide (ts.length=x.i.length) && decide (a≤(ts.length:Int)) && decide ((ts.length:Int)≤b) && decide (c≤x.n) && decide (x.n≤d) && HK x.k x.s x.p):=by unfold DK;rw [m]
 have e2:CJ x.k x.i x.s x.n x.p=GZ a b c d e f x.i x.s x.n x.p:=by unfold CJ;rw [o]
 rw [e1,e2,IB]
 simp only [Bool.and_eq_true,decide_eq_true_eq]
 rw [n]
 constructor
 ·rintro ⟨⟨⟨⟨⟨k,p⟩,l⟩,h⟩,j⟩,g,i⟩
  exact ⟨⟨⟨by omega,by omega,h,j,g⟩,i⟩,k⟩
 ·rintro ⟨⟨⟨k,p,l,h,j⟩,g⟩,i⟩
  exact ⟨⟨⟨⟨⟨i,by omega⟩,by omega⟩,l⟩,h⟩,j,g⟩
theorem Gr (x:N5) (ts:List T4):DK x ts=true↔(CJ x.k x.i x.s x.n x.p=true∧ts.length=x.i.length)∧x.k≠1#8∧x.k≠2#8:=by
 cases hs:(DO x.k).isSome with
 |false=>
  have j:=VP x.k hs
  have i:DO x.k=none:=by simpa using hs
  have k:DK x ts=false:=by unfold DK;rw [j]
  rw [k,MM i]
  simp
 |true=>
  have g:∀{a b c d e f:Int},IK x.k.toNat=some (a,b,c,d)→DO x.k=some [a,b,c,d,e,f]→((f=0∧e=0∧x.k≠10#8∧x.k≠11#8∧x.k≠8#8)∨(f=0∧e=8∧x.k=8#8)∨(f=1∧e=0∧x.k=10#8)∨(f=2∧e=0∧x.k=11#8))→x.k≠1#8→x.k≠2#8→(DK x ts=true↔(CJ x.k x.i x.s x.n x.p=true∧ts.length=x.i.length)∧x.k≠1#8∧x.k≠2#8):=fun m o n j i=>
   (X7 m o (X4 n)).trans ⟨fun h=>⟨h,j,i⟩,fun h=>h.1⟩
  have l:IK x.k.toNat=none→(x.k=1#8∨x.k=2#8)→(DK x ts=true↔(CJ x.k x.i x.s x.n x.p=true∧ts.length=x.i.length)∧x.k≠1#8∧x.k≠2#8):=fun j i=>by
   have k:DK x ts=false:=by unfold DK;rw [j]
   rw [k]
   exact ⟨fun h=>(by cases h),fun h=>i.elim (fun e=>absurd e h.2.1) (fun e=>absurd e h.2.2)⟩
  rcases KW x.k hs with h|h|h|h|h|h|h|h|h|h|h|h|h
  ·exact l (by rw [h];rfl) (.inl h)
  ·exact l (by rw [h];rfl) (.inr h)
  ·exact g (by rw [h];rfl) (by rw [h];exact V0) (.inl ⟨rfl,rfl,by rw [h];decide,by rw [h];decide,by rw [h];decide⟩) (by rw [h];decide) (by rw [h];decide)
  ·exact g (by rw [h];rfl) (by rw [h];exact Vz) (.inl ⟨rfl,rfl,by rw [h];decide,by rw [h];decide,by rw [h];decide⟩) (by rw [h];decide) (by rw [h];decide)
  ·exact g (by rw [h];rfl) (by rw [h];exact Xl) (.inl ⟨rfl,rfl,by rw [h];decide,by rw [h];decide,by rw [h];decide⟩) (by rw [h];decide) (by rw [h];decide)
  ·exact g (by rw [h];rfl) (by rw [h];exact Vy) (.inl ⟨rfl,rfl,by rw [h];decide,by rw [h];decide,by rw [h];decide⟩) (by rw [h];decide) (by rw [h];decide)
  ·exact g (by rw [h];rfl) (by rw [h];exact Ty) (.inl ⟨rfl,rfl,by rw [h];decide,by rw [h];decide,by rw [h];decide⟩) (by rw [h];decide) (by rw [h];decide)
  ·exact g (by rw [h];rfl) (by rw [h];exact R4) (.inr (.inl ⟨rfl,rfl,h⟩)) (by rw [h];decide) (by rw [h];decide)
  ·exact g (by rw [h];rfl) (by rw [h];exact Vx) (.inl ⟨rfl,rfl,by rw [h];decide,by rw [h];decide,by rw [h];decide⟩) (by rw [h];decide) (by rw [h];decide)
  ·exact g (by rw [h];rfl) (by rw [h];exact MK) (.inr (.inr (.inl ⟨rfl,rfl,h⟩))) (by rw [h];decide) (by rw [h];decide)
  ·exact g (by rw [h];rfl) (by rw [h];exact LJ) (.inr (.inr (.inr ⟨rfl,rfl,h⟩))) (by rw [h];decide) (by rw [h];decide)
  ·exact g (by rw [h];rfl) (by rw [h];exact Oy) (.inl ⟨rfl,rfl,by rw [h];decide,by rw [h];decide,by rw [h];decide⟩) (by rw [h];decide) (by rw [h];decide)
  ·exact g (by rw [h];rfl) (by rw [h];exact MJ) (.inl ⟨rfl,rfl,by rw [h];decide,by rw [h];decide,by rw [h];decide⟩) (by rw [h];decide) (by rw [h];decide)
theorem Ri.d {W w:World} {r:Value} {e:Int} {s:List Int} {l:List (BitVec 32)} (h:Ri W w r e s l):EF W w r e s l:=h.gets.d
theorem OL {x:N5} {ts:List T4} {a b c d:Int} (h:DK x ts=true) (f:IK x.k.toNat=some (a,b,c,d)):a≤(ts.length:Int)∧(ts.length:Int)≤b:=by
 obtain ⟨k,n,m,l,e,j,i,g, -⟩:=JO h
 rw [f] at e
 cases e
 exact ⟨i,g⟩
theorem G7 {x:N5} {ts:List T4} {c d:Int} (h:DK x ts=true) (a:IK x.k.toNat=some (1,1,c,d)):∃p,ts=[p]:=Lp (by have:=OL h a;omega)
theorem Iy {x:N5} {ts:List T4} {c d:Int} (h:DK x ts=true) (a:IK x.k.toNat=some (2,2,c,d)):∃p q,ts=[p,q]:=Od (by have:=OL h a;omega)
set_option maxHeartbeats 2000000 in
theorem Ym (x:N5) (v:Value) (ts:List T4) (w:World) (hx:N5.at w x) (h:CN w v ts):
  AM prog 10 [x.v,v] w (fun r K=>Below w.heap.size w K∧EF w K r (GQ x ts) (Gu x.k x ts) (G8 x.k x ts)):=by
 obtain ⟨W,hW⟩:∃W,W=w:=⟨_,rfl⟩
 rw [← hW] at hx h
 rw [← hW]
 have J:=Below.refl W.heap.size W
 have h_i:=hx.i
 have V:=h.1
 refine Bb (n:=142) func10 O<|Af<|B5 (cs:=x.cells) O O O ?_
 rintro B w eA_x L hn -
 have J:=J.bs hn
 have h_i:=h_i.bs hn
 have V:=V.bs hn
 have yx:=AH L
 refine Cx AY O ?_
 rintro A_r w eA_r G hn -
 have J:=J.bs hn
 have h_i:=h_i.bs hn
 have V:=V.bs hn
 have L:=L.bs hn
 refine Ab O<|Bh<|Aa (B9 (EM _) (EJ _) O O ‹_›) O ?_
 have z0:=AA J
 have yr:=AH G
 refine Aj O O (QF x w (hx.bs J)) ?_
 rintro _ w ⟨rfl,hn⟩
 have z1:=hn.size
 have J:=J.bs hn
 have h_i:=h_i.bs hn
 have V:=V.bs hn
 have L:=L.bs hn
 have G:=G.bs hn
 refine Aa (Ck O) O<|Ac O ?_
 refine Cc 9 O ?_ ?_
 ·intro g
  have hF:DK x ts=false:=by
   cases f:DK x ts with
   |false=>rfl
   |true=>exact absurd ((Gr x ts).1 f) (by (rintro ⟨⟨h1, -⟩, -⟩;rw [h1] at g;cases g))
  have e1:GQ x ts=1:=by unfold GQ;rw [hF];rfl
  refine Ae (dj:=9) O O O O<|Ae (dj:=9) O O O O<|Ae (dj:=9) O O O O<|Ae (dj:=9) O O O O<|Ae (dj:=9) O O O O<|Ae (dj:=9) O O O O<|B4 O<|Ac O<|Ae (dj:=17) O O O O<|Ae (dj:=17) O O O O<|Ae (dj:=17) O O O O<|B4 O<|Ac O<|Ae (dj:=22) O O O O<|Ae (dj:=22) O O O O<|Ae (dj:=22) O O O O<|B4 O<|Ak<|Bz O<|Af<|C8 O<|Az (Bv (cs:=[.slice none 0 0, .slice none 0 0]) (k:=2) (by kernel_rfl) O O O O G O) ?_
  rintro w9 ⟨b_r9,Z, -⟩
  have hB9:=Below.grown J Z (AA J) (by rintro _ ⟨⟩;omega)
  refine Ab O<|Bu<|Bt O O O ‹_› underlying33 O O O ?_
  rw [e1]
  exact ⟨hB9,FB (by decide)⟩
 intro g1
 have g1:CJ x.k x.i x.s x.n x.p=true:=by simpa using g1
 refine Ag (dj:=9) O O<|Ac O<|Ag (dj:=9) O O<|Aa (Au AR O ‹_›) O ?_
 refine Ag (dj:=9) O O<|Be underlying25 O (AN _)<|Ag (dj:=9) O O<|Aa (Ah (AF _) O ‹_› rfl) O ?_
 refine Ag (dj:=9) O O<|Aa (Au AC O ‹_›) O ?_
 refine Ag (dj:=9) O O<|Aa (Cs O O) O<|Cn O<|Ac O ?_
 refine Cc 17 O ?_ ?_
 ·intro g
  have hF:DK x ts=false:=by
   cases f:DK x ts with
   |false=>rfl
   |true=>exact absurd ((Gr x ts).1 f) (by (rintro ⟨⟨-,h1⟩, -⟩;rw [h1] at g;simp at g))
  have e1:GQ x ts=1:=by unfold GQ;rw [hF];rfl
  refine Ae (dj:=17) O O O O<|Ae (dj:=17) O O O O<|Ae (dj:=17) O O O O<|B4 O<|Ac O<|Ae (dj:=22) O O O O<|Ae (dj:=22) O O O O<|Ae (dj:=22) O O O O<|B4 O<|Ak<|Bz O<|Af<|C8 O<|Az (Bv (cs:=[.slice none 0 0, .slice none 0 0]) (k:=2) (by kernel_rfl) O O O O G O) ?_
  rintro w9 ⟨b_r9,Z, -⟩
  have hB9:=Below.grown J Z (AA J) (by rintro _ ⟨⟩;omega)
  refine Ab O<|Bu<|Bt O O O ‹_› underlying33 O O O ?_
  rw [e1]
  exact ⟨hB9,FB (by decide)⟩
 intro g2
 have g2:ts.length=x.i.length:=by simp at g2;omega
 refine Ag (dj:=17) O O<|Be underlying25 O (DF _)<|Ag (dj:=17) O O<|Aa (Ah (DG _) O ‹_› rfl) O ?_
 refine Ag (dj:=17) O O<|Aa (Cl O (show _=some (b8 (1#8)) from rfl)) O<|Cn O<|Ac O ?_
 refine Cc 22 O ?_ ?_
 ·intro g
  have hF:DK x ts=false:=by
   cases f:DK x ts with
   |false=>rfl
   |true=>exact absurd ((Gr x ts).1 f) (by (rintro ⟨-,h1, -⟩;exact h1 (AD g)))
  have e1:GQ x ts=1:=by unfold GQ;rw [hF];rfl
  refine Ae (dj:=22) O O O O<|Ae (dj:=22) O O O O<|Ae (dj:=22) O O O O<|B4 O<|Ak<|Bz O<|Af<|C8 O<|Az (Bv (cs:=[.slice none 0 0, .slice none 0 0]) (k:=2) (by kernel_rfl) O O O O G O) ?_
  rintro w9 ⟨b_r9,Z, -⟩
  have hB9:=Below.grown J Z (AA J) (by rintro _ ⟨⟩;omega)
  refine Ab O<|Bu<|Bt O O O ‹_› underlying33 O O O ?_
  rw [e1]
  exact ⟨hB9,FB (by decide)⟩
 intro g3
 have g3:x.k≠1#8:=AB g3
 refine Ag (dj:=22) O O<|Be underlying25 O (DF _)<|Ag (dj:=22) O O<|Aa (Ah (DG _) O ‹_› rfl) O ?_
 refine Ag (dj:=22) O O<|Aa (Cl O (show _=some (b8 (2#8)) from rfl)) O<|Cn O<|Ak<|Aq O ?_ ?_
 ·intro g
  have hF:DK x ts=false:=by
   cases f:DK x ts with
   |false=>rfl
   |true=>exact absurd ((Gr x ts).1 f) (by (rintro ⟨-, -,h1⟩;exact h1 (AD g)))
  have e1:GQ x ts=1:=by unfold GQ;rw [hF];rfl
  refine Af<|C8 O<|Az (Bv (cs:=[.slice none 0 0, .slice none 0 0]) (k:=2) (by kernel_rfl) O O O O G O) ?_
  rintro w9 ⟨b_r9,Z, -⟩
  have hB9:=Below.grown J Z (AA J) (by rintro _ ⟨⟩;omega)
  refine Ab O<|Bu<|Bt O O O ‹_› underlying33 O O O ?_
  rw [e1]
  exact ⟨hB9,FB (by decide)⟩
 intro g4
 have g4:x.k≠2#8:=AB g4
 have Q:=(Gr x ts).2 ⟨⟨g1,g2⟩,g3,g4⟩
 have hE:GQ x ts=HO x.k x ts:=by unfold GQ;rw [Q];rfl
 have hrow:=JO Q
 rw [hE]
 have zz:=AA J
 clear g1 g2 g3 g4
 refine B0<|An<|Af<|Be underlying25 O (DF _)<|Aa (Ah (DG _) O ‹_› rfl) O ?_
 refine Ak<|Ao<|Af<|Aa (Cl O (show _=some (b8 (3#8)) from rfl)) O<|Ab O<|Ak<|Aq O ?_ ?_
 ·intro g
  have I:x.k=3#8:=AD g
  obtain ⟨p,q,rfl⟩:=Iy Q (by rw [I];rfl)
  refine An ?_
  refine Cw.any AS (fun N D _=> ?_)
  have o:=J.trans (D.mono zz)
  have t:=L.bs D
  refine Dh (fun K=>Below W.heap.size W K∧AO K B 25 x.cells) (fun hC=> ?_) (⟨o,t⟩)
  refine Cj (Am (Bs (Am Bo)))<|Ai 0 O (fun u f=>B6 O) O<|Ai 1 O (fun u f=>Ci AR O O (h.1.bs f.1) 0 O (by simp)) O<|Ai 2 O (fun u f=>Cq (cs:=[p.x,p.y]) (AT _) (AP _) O (h.1.bs f.1) O (by decide) (BN (ts:=[p,q]) (j:=0) (by simp))) O<|Ai 3 O (fun u f=>B6 O) O<|Ai 4 O (fun u f=>Ci AR O O (h.1.bs f.1) 1 O (by simp)) O<|Ai 5 O (fun u f=>Cq (cs:=[q.x,q.y]) (AT _) (AP _) O (h.1.bs f.1) O (by decide) (BN (ts:=[p,q]) (j:=1) (by simp))) O<|Cb<|AZ.only ‹_› (i:=6) (by kernel_rfl) O ?_
  refine Aj O O (WU p q N ((h.2 p (by simp)).bs o) ((h.2 q (by simp)).bs o)) ?_
  rintro r F ⟨l,C⟩
  have C:EF N F r (HO x.k x [p,q]) (Gu x.k x [p,q]) (G8 x.k x [p,q]):=by rw [I];exact C.d
  obtain ⟨T,U,rfl,R⟩:=C.ones
  have z2:=D.size
  have z3:=l.size
  have A:=o.trans (l.mono (by omega))
  have y:=(G.bs D).bs l
  have s:=t.bs l
  have X:Below W.heap.size W F∧AO F B 25 x.cells:=⟨A,s⟩
  refine AZ.back<|Cj (Am (Bs (Am Bo)))<|Ai 7 O (fun u f=>As (i:=0) O O) O<|Ai 8 O (fun u f=>As (i:=1) O O) O<|Cb<|AZ.only ‹_› (i:=9) (by kernel_rfl) O ?_
  refine Az (Bv (cs:=[T,U]) (k:=2) (by kernel_rfl) O O O R y O) ?_
  rintro M ⟨H,m,S⟩
  have E:=C.by m (by omega)
  have z:=A.grown m (by omega) (by rintro _ ⟨⟩;omega)
  have Y:Below W.heap.size W M∧AO M B 25 x.cells:=⟨z,s.by m (fun e=>by have:=Option.some.inj e;omega)⟩
  refine AZ.back<|Cj (Am (Bs (Am Bo)))<|Ai 10 O (fun u f=>Cf O) O<|Cb<|Cu ‹_› (by kernel_rfl) ?_
  refine Ap<|B8<|Df<|Bi<|Av<|Bt O O O ‹_› underlying33 O O O ?_
  exact ⟨z,E.low (by omega)⟩
 intro n3
 have n3:=AB n3
 refine Af<|Aa (Cl O (show _=some (b8 (4#8)) from rfl)) O<|Ab O<|Ak<|Aq O ?_ ?_
 ·intro g
  have I:x.k=4#8:=AD g
  obtain ⟨p,q,rfl⟩:=Iy Q (by rw [I];rfl)
  refine An ?_
  refine Cw.any AS (fun N D _=> ?_)
  have o:=J.trans (D.mono zz)
  have t:=L.bs D
  refine Dh (fun K=>Below W.heap.size W K∧AO K B 25 x.cells) (fun hC=> ?_) (⟨o,t⟩)
  refine Cj (Am (Bs (Am Bo)))<|Ai 0 O (fun u f=>B6 O) O<|Ai 1 O (fun u f=>Ci AR O O (h.1.bs f.1) 0 O (by simp)) O<|Ai 2 O (fun u f=>Cq (cs:=[p.x,p.y]) (AT _) (AP _) O (h.1.bs f.1) O (by decide) (BN (ts:=[p,q]) (j:=0) (by simp))) O<|Ai 3 O (fun u f=>B6 O) O<|Ai 4 O (fun u f=>Ci AR O O (h.1.bs f.1) 1 O (by simp)) O<|Ai 5 O (fun u f=>Cq (cs:=[q.x,q.y]) (AT _) (AP _) O (h.1.bs f.1) O (by decide) (BN (ts:=[p,q]) (j:=1) (by simp))) O<|Cb<|AZ.only ‹_› (i:=6) (by kernel_rfl) O ?_
  refine Aj O O (WQ p q N ((h.2 p (by simp)).bs o) ((h.2 q (by simp)).bs o)) ?_
  rintro r F ⟨l,C⟩
  have C:EF N F r (HO x.k x [p,q]) (Gu x.k x [p,q]) (G8 x.k x [p,q]):=by rw [I];exact C.d
  obtain ⟨T,U,rfl,R⟩:=C.ones
  have z2:=D.size
  have z3:=l.size
  have A:=o.trans (l.mono (by omega))
  have y:=(G.bs D).bs l
  have s:=t.bs l
  have X:Below W.heap.size W F∧AO F B 25 x.cells:=⟨A,s⟩
  refine AZ.back<|Cj (Am (Bs (Am Bo)))<|Ai 7 O (fun u f=>As (i:=0) O O) O<|Ai 8 O (fun u f=>As (i:=1) O O) O<|Cb<|AZ.only ‹_› (i:=9) (by kernel_rfl) O ?_
  refine Az (Bv (cs:=[T,U]) (k:=2) (by kernel_rfl) O O O R y O) ?_
  rintro M ⟨H,m,S⟩
  have E:=C.by m (by omega)
  have z:=A.grown m (by omega) (by rintro _ ⟨⟩;omega)
  have Y:Below W.heap.size W M∧AO M B 25 x.cells:=⟨z,s.by m (fun e=>by have:=Option.some.inj e;omega)⟩
  refine AZ.back<|Cj (Am (Bs (Am Bo)))<|Ai 10 O (fun u f=>Cf O) O<|Cb<|Cu ‹_› (by kernel_rfl) ?_
  refine Ap<|B8<|Df<|Bi<|Av<|Bt O O O ‹_› underlying33 O O O ?_
  exact ⟨z,E.low (by omega)⟩
 intro n4
 have n4:=AB n4
 refine Af<|Aa (Cl O (show _=some (b8 (5#8)) from rfl)) O<|Ab O<|Ak<|Aq O ?_ ?_
 ·intro g
  have I:x.k=5#8:=AD g
  obtain ⟨p,rfl⟩:=G7 Q (by rw [I];rfl)
  refine Af<|Ac O<|Aa (Ci AR O O V 0 O (by simp)) O<|Aa (Cq (cs:=[p.x,p.y]) (AT _) (AP _) O V O (by decide) (BN (ts:=[p]) (j:=0) (by simp))) O<|Aj O O (Ve p w ((h.2 p (by simp)).bs J)) ?_
  rintro r F ⟨l,C⟩
  have C:EF w F r (HO x.k x [p]) (Gu x.k x [p]) (G8 x.k x [p]):=by rw [I];exact C.d
  obtain ⟨T,U,rfl,R⟩:=C.ones
  have z3:=l.size
  have A:=J.trans (l.mono zz)
  have y:=G.bs l
  refine Aa (As (i:=0) O O) O<|Aa (As (i:=1) O O) O<|Az (Bv (cs:=[T,U]) (k:=2) (by kernel_rfl) O O O R y O) ?_
  rintro M ⟨H,m,S⟩
  have E:=C.by m (by omega)
  have z:=A.grown m (by omega) (by rintro _ ⟨⟩;omega)
  refine Ab O<|Bc<|Bi<|Av<|Bt O O O ‹_› underlying33 O O O ?_
  exact ⟨z,E.low (by omega)⟩
 intro n5
 have n5:=AB n5
 refine Af<|Aa (Cl O (show _=some (b8 (6#8)) from rfl)) O<|Ab O<|Ak<|Aq O ?_ ?_
 ·intro g
  have I:x.k=6#8:=AD g
  obtain ⟨p,rfl⟩:=G7 Q (by rw [I];rfl)
  refine An ?_
  refine Cw.any AS (fun N D _=> ?_)
  have o:=J.trans (D.mono zz)
  have t:=L.bs D
  refine Dh (fun K=>Below W.heap.size W K∧AO K B 25 x.cells) (fun hC=> ?_) (⟨o,t⟩)
  refine Cj (Am (Bs (Am Bo)))<|Ai 0 O (fun u f=>B6 O) O<|Ai 1 O (fun u f=>Ci AR O O (h.1.bs f.1) 0 O (by simp)) O<|Ai 2 O (fun u f=>Cq (cs:=[p.x,p.y]) (AT _) (AP _) O (h.1.bs f.1) O (by decide) (BN (ts:=[p]) (j:=0) (by simp))) O<|Ai 3 O (fun u f=>Cd underlying25 O (BA _)) O<|Ai 4 O (fun u f=>Ah (AK _) O f.2 O) O<|Cb<|AZ.only ‹_› (i:=5) (by kernel_rfl) O ?_
  refine Aj O O (Ta p x.n N ((h.2 p (by simp)).bs o)) ?_
  rintro r F ⟨l,C⟩
  have C:EF N F r (HO x.k x [p]) (Gu x.k x [p]) (G8 x.k x [p]):=by rw [I];exact C.d
  obtain ⟨T,U,rfl,R⟩:=C.ones
  have z2:=D.size
  have z3:=l.size
  have A:=o.trans (l.mono (by omega))
  have y:=(G.bs D).bs l
  have s:=t.bs l
  have X:Below W.heap.size W F∧AO F B 25 x.cells:=⟨A,s⟩
  refine AZ.back<|Cj (Am (Bs (Am Bo)))<|Ai 6 O (fun u f=>As (i:=0) O O) O<|Ai 7 O (fun u f=>As (i:=1) O O) O<|Cb<|AZ.only ‹_› (i:=8) (by kernel_rfl) O ?_
  refine Az (Bv (cs:=[T,U]) (k:=2) (by kernel_rfl) O O O R y O) ?_
  rintro M ⟨H,m,S⟩
  have E:=C.by m (by omega)
  have z:=A.grown m (by omega) (by rintro _ ⟨⟩;omega)
  have Y:Below W.heap.size W M∧AO M B 25 x.cells:=⟨z,s.by m (fun e=>by have:=Option.some.inj e;omega)⟩
  refine AZ.back<|Cj (Am (Bs (Am Bo)))<|Ai 9 O (fun u f=>Cf O) O<|Cb<|Cu ‹_› (by kernel_rfl) ?_
  refine Ap<|B8<|Df<|Bi<|Av<|Bt O O O ‹_› underlying33 O O O ?_
  exact ⟨z,E.low (by omega)⟩
 intro n6
 have n6:=AB n6
 refine Af<|Aa (Cl O (show _=some (b8 (7#8)) from rfl)) O<|Ab O<|Ak<|Aq O ?_ ?_
 ·intro g
  have I:x.k=7#8:=AD g
  obtain ⟨p,q,rfl⟩:=Iy Q (by rw [I];rfl)
  refine An ?_
  refine Cw.any AS (fun N D _=> ?_)
  have o:=J.trans (D.mono zz)
  have t:=L.bs D
  refine Dh (fun K=>Below W.heap.size W K∧AO K B 25 x.cells) (fun hC=> ?_) (⟨o,t⟩)
  refine Cj (Am (Bs (Am Bo)))<|Ai 0 O (fun u f=>B6 O) O<|Ai 1 O (fun u f=>Ci AR O O (h.1.bs f.1) 0 O (by simp)) O<|Ai 2 O (fun u f=>Cq (cs:=[p.x,p.y]) (AT _) (AP _) O (h.1.bs f.1) O (by decide) (BN (ts:=[p,q]) (j:=0) (by simp))) O<|Ai 3 O (fun u f=>B6 O) O<|Ai 4 O (fun u f=>Ci AR O O (h.1.bs f.1) 1 O (by simp)) O<|Ai 5 O (fun u f=>Cq (cs:=[q.x,q.y]) (AT _) (AP _) O (h.1.bs f.1) O (by decide) (BN (ts:=[p,q]) (j:=1) (by simp))) O<|Cb<|AZ.only ‹_› (i:=6) (by kernel_rfl) O ?_
  refine Aj O O (Vf p q N ((h.2 p (by simp)).bs o) ((h.2 q (by simp)).bs o)) ?_
  rintro r F ⟨l,C⟩
  have C:EF N F r (HO x.k x [p,q]) (Gu x.k x [p,q]) (G8 x.k x [p,q]):=by rw [I];exact C.gets.d
  obtain ⟨T,U,rfl,R⟩:=C.ones
  have z2:=D.size
  have z3:=l.size
  have A:=o.trans (l.mono (by omega))
  have y:=(G.bs D).bs l
  have s:=t.bs l
  have X:Below W.heap.size W F∧AO F B 25 x.cells:=⟨A,s⟩
  refine AZ.back<|Cj (Am (Bs (Am Bo)))<|Ai 7 O (fun u f=>As (i:=0) O O) O<|Ai 8 O (fun u f=>As (i:=1) O O) O<|Cb<|AZ.only ‹_› (i:=9) (by kernel_rfl) O ?_
  refine Az (Bv (cs:=[T,U]) (k:=2) (by kernel_rfl) O O O R y O) ?_
  rintro M ⟨H,m,S⟩
  have E:=C.by m (by omega)
  have z:=A.grown m (by omega) (by rintro _ ⟨⟩;omega)
  have Y:Below W.heap.size W M∧AO M B 25 x.cells:=⟨z,s.by m (fun e=>by have:=Option.some.inj e;omega)⟩
  refine AZ.back<|Cj (Am (Bs (Am Bo)))<|Ai 10 O (fun u f=>Cf O) O<|Cb<|Cu ‹_› (by kernel_rfl) ?_
  refine Ap<|B8<|Df<|Bi<|Av<|Bt O O O ‹_› underlying33 O O O ?_
  exact ⟨z,E.low (by omega)⟩
 intro n7
 have n7:=AB n7
 refine Af<|Aa (Cl O (show _=some (b8 (8#8)) from rfl)) O<|Ab O<|Ak<|Aq O ?_ ?_
 ·intro g
  have I:x.k=8#8:=AD g
  obtain ⟨p,q,rfl⟩:=Iy Q (by rw [I];rfl)
  refine An ?_
  refine Cw.any AS (fun N D _=> ?_)
  have o:=J.trans (D.mono zz)
  have t:=L.bs D
  refine Dh (fun K=>Below W.heap.size W K∧AO K B 25 x.cells) (fun hC=> ?_) (⟨o,t⟩)
  refine Cj (Am (Bs (Am Bo)))<|Ai 0 O (fun u f=>B6 O) O<|Ai 1 O (fun u f=>Ci AR O O (h.1.bs f.1) 0 O (by simp)) O<|Ai 2 O (fun u f=>Cq (cs:=[p.x,p.y]) (AT _) (AP _) O (h.1.bs f.1) O (by decide) (BN (ts:=[p,q]) (j:=0) (by simp))) O<|Ai 3 O (fun u f=>B6 O) O<|Ai 4 O (fun u f=>Ci AR O O (h.1.bs f.1) 1 O (by simp)) O<|Ai 5 O (fun u f=>Cq (cs:=[q.x,q.y]) (AT _) (AP _) O (h.1.bs f.1) O (by decide) (BN (ts:=[p,q]) (j:=1) (by simp))) O<|Ai 6 O (fun u f=>Cd underlying25 O (BA _)) O<|Ai 7 O (fun u f=>Ah (AK _) O f.2 O) O<|Ai 8 O (fun u f=>Cd underlying25 O (BA _)) O<|Ai 9 O (fun u f=>Ah (AK _) O f.2 O) O<|Cb<|AZ.only ‹_› (i:=10) (by kernel_rfl) O ?_
  refine Aj O O (Yl p q x.n x.p N ((h.2 p (by simp)).bs o) ((h.2 q (by simp)).bs o)) ?_
  rintro r F ⟨l,C⟩
  have C:EF N F r (HO x.k x [p,q]) (Gu x.k x [p,q]) (G8 x.k x [p,q]):=by rw [I];exact C.gets.d
  obtain ⟨T,U,rfl,R⟩:=C.ones
  have z2:=D.size
  have z3:=l.size
  have A:=o.trans (l.mono (by omega))
  have y:=(G.bs D).bs l
  have s:=t.bs l
  have X:Below W.heap.size W F∧AO F B 25 x.cells:=⟨A,s⟩
  refine AZ.back<|Cj (Am (Bs (Am Bo)))<|Ai 11 O (fun u f=>As (i:=0) O O) O<|Ai 12 O (fun u f=>As (i:=1) O O) O<|Cb<|AZ.only ‹_› (i:=13) (by kernel_rfl) O ?_
  refine Az (Bv (cs:=[T,U]) (k:=2) (by kernel_rfl) O O O R y O) ?_
  rintro M ⟨H,m,S⟩
  have E:=C.by m (by omega)
  have z:=A.grown m (by omega) (by rintro _ ⟨⟩;omega)
  have Y:Below W.heap.size W M∧AO M B 25 x.cells:=⟨z,s.by m (fun e=>by have:=Option.some.inj e;omega)⟩
  refine AZ.back<|Cj (Am (Bs (Am Bo)))<|Ai 14 O (fun u f=>Cf O) O<|Cb<|Cu ‹_› (by kernel_rfl) ?_
  refine Ap<|B8<|Df<|Bi<|Av<|Bt O O O ‹_› underlying33 O O O ?_
  exact ⟨z,E.low (by omega)⟩
 intro n8
 have n8:=AB n8
 refine Af<|Aa (Cl O (show _=some (b8 (9#8)) from rfl)) O<|Ab O<|Ak<|Aq O ?_ ?_
 ·intro g
  have I:x.k=9#8:=AD g
  obtain ⟨p,rfl⟩:=G7 Q (by rw [I];rfl)
  refine An ?_
  refine Cw.any AS (fun N D _=> ?_)
  have o:=J.trans (D.mono zz)
  have t:=L.bs D
  refine Dh (fun K=>Below W.heap.size W K∧AO K B 25 x.cells) (fun hC=> ?_) (⟨o,t⟩)
  refine Cj (Am (Bs (Am Bo)))<|Ai 0 O (fun u f=>B6 O) O<|Ai 1 O (fun u f=>Ci AR O O (h.1.bs f.1) 0 O (by simp)) O<|Ai 2 O (fun u f=>Cq (cs:=[p.x,p.y]) (AT _) (AP _) O (h.1.bs f.1) O (by decide) (BN (ts:=[p]) (j:=0) (by simp))) O<|Ai 3 O (fun u f=>Cd underlying25 O (BA _)) O<|Ai 4 O (fun u f=>Ah (AK _) O f.2 O) O<|Cb<|AZ.only ‹_› (i:=5) (by kernel_rfl) O ?_
  refine Aj O O (Vg p x.n N ((h.2 p (by simp)).bs o)) ?_
  rintro r F ⟨l,C⟩
  have C:EF N F r (HO x.k x [p]) (Gu x.k x [p]) (G8 x.k x [p]):=by rw [I];exact C.gets.d
  obtain ⟨T,U,rfl,R⟩:=C.ones
  have z2:=D.size
  have z3:=l.size
  have A:=o.trans (l.mono (by omega))
  have y:=(G.bs D).bs l
  have s:=t.bs l
  have X:Below W.heap.size W F∧AO F B 25 x.cells:=⟨A,s⟩
  refine AZ.back<|Cj (Am (Bs (Am Bo)))<|Ai 6 O (fun u f=>As (i:=0) O O) O<|Ai 7 O (fun u f=>As (i:=1) O O) O<|Cb<|AZ.only ‹_› (i:=8) (by kernel_rfl) O ?_
  refine Az (Bv (cs:=[T,U]) (k:=2) (by kernel_rfl) O O O R y O) ?_
  rintro M ⟨H,m,S⟩
  have E:=C.by m (by omega)
  have z:=A.grown m (by omega) (by rintro _ ⟨⟩;omega)
  have Y:Below W.heap.size W M∧AO M B 25 x.cells:=⟨z,s.by m (fun e=>by have:=Option.some.inj e;omega)⟩
  refine AZ.back<|Cj (Am (Bs (Am Bo)))<|Ai 9 O (fun u f=>Cf O) O<|Cb<|Cu ‹_› (by kernel_rfl) ?_
  refine Ap<|B8<|Df<|Bi<|Av<|Bt O O O ‹_› underlying33 O O O ?_
  exact ⟨z,E.low (by omega)⟩
 intro n9
 have n9:=AB n9
 refine Af<|Aa (Cl O (show _=some (b8 (10#8)) from rfl)) O<|Ab O<|Ak<|Aq O ?_ ?_
 ·intro g
  have I:x.k=10#8:=AD g
  obtain ⟨p,rfl⟩:=G7 Q (by rw [I];rfl)
  refine An ?_
  refine Cw.any AS (fun N D _=> ?_)
  have o:=J.trans (D.mono zz)
  have t:=L.bs D
  refine Dh (fun K=>Below W.heap.size W K∧AO K B 25 x.cells) (fun hC=> ?_) (⟨o,t⟩)
  refine Cj (Am (Bs (Am Bo)))<|Ai 0 O (fun u f=>B6 O) O<|Ai 1 O (fun u f=>Ci AR O O (h.1.bs f.1) 0 O (by simp)) O<|Ai 2 O (fun u f=>Cq (cs:=[p.x,p.y]) (AT _) (AP _) O (h.1.bs f.1) O (by decide) (BN (ts:=[p]) (j:=0) (by simp))) O<|Ai 3 O (fun u f=>Cd underlying25 O (AN _)) O<|Ai 4 O (fun u f=>Ah (AF _) O f.2 O) O<|Cb<|AZ.only ‹_› (i:=5) (by kernel_rfl) O ?_
  refine Aj O O (Rs p x.y x.s N ((h.2 p (by simp)).bs o) (hx.s.bs o)) ?_
  rintro r F ⟨l,C⟩
  have C:EF N F r (HO x.k x [p]) (Gu x.k x [p]) (G8 x.k x [p]):=by rw [I];exact C.d
  obtain ⟨T,U,rfl,R⟩:=C.ones
  have z2:=D.size
  have z3:=l.size
  have A:=o.trans (l.mono (by omega))
  have y:=(G.bs D).bs l
  have s:=t.bs l
  have X:Below W.heap.size W F∧AO F B 25 x.cells:=⟨A,s⟩
  refine AZ.back<|Cj (Am (Bs (Am Bo)))<|Ai 6 O (fun u f=>As (i:=0) O O) O<|Ai 7 O (fun u f=>As (i:=1) O O) O<|Cb<|AZ.only ‹_› (i:=8) (by kernel_rfl) O ?_
  refine Az (Bv (cs:=[T,U]) (k:=2) (by kernel_rfl) O O O R y O) ?_
  rintro M ⟨H,m,S⟩
  have E:=C.by m (by omega)
  have z:=A.grown m (by omega) (by rintro _ ⟨⟩;omega)
  have Y:Below W.heap.size W M∧AO M B 25 x.cells:=⟨z,s.by m (fun e=>by have:=Option.some.inj e;omega)⟩
  refine AZ.back<|Cj (Am (Bs (Am Bo)))<|Ai 9 O (fun u f=>Cf O) O<|Cb<|Cu ‹_› (by kernel_rfl) ?_
  refine Ap<|B8<|Df<|Bi<|Av<|Bt O O O ‹_› underlying33 O O O ?_
  exact ⟨z,E.low (by omega)⟩
 intro n10
 have n10:=AB n10
 refine Af<|Aa (Cl O (show _=some (b8 (11#8)) from rfl)) O<|Ab O<|Ak<|Aq O ?_ ?_
 ·intro g
  have I:x.k=11#8:=AD g
  obtain ⟨p,rfl⟩:=G7 Q (by rw [I];rfl)
  refine An ?_
  refine Cw.any AS (fun N D _=> ?_)
  have o:=J.trans (D.mono zz)
  have t:=L.bs D
  refine Dh (fun K=>Below W.heap.size W K∧AO K B 25 x.cells) (fun hC=> ?_) (⟨o,t⟩)
  refine Cj (Am (Bs (Am Bo)))<|Ai 0 O (fun u f=>B6 O) O<|Ai 1 O (fun u f=>Ci AR O O (h.1.bs f.1) 0 O (by simp)) O<|Ai 2 O (fun u f=>Cq (cs:=[p.x,p.y]) (AT _) (AP _) O (h.1.bs f.1) O (by decide) (BN (ts:=[p]) (j:=0) (by simp))) O<|Ai 3 O (fun u f=>Cd underlying25 O (AN _)) O<|Ai 4 O (fun u f=>Ah (AF _) O f.2 O) O<|Cb<|AZ.only ‹_› (i:=5) (by kernel_rfl) O ?_
  refine Aj O O (Tb p x.y x.s N ((h.2 p (by simp)).bs o) (hx.s.bs o)) ?_
  rintro r F ⟨l,C⟩
  have C:EF N F r (HO x.k x [p]) (Gu x.k x [p]) (G8 x.k x [p]):=by rw [I];exact C.d
  obtain ⟨T,U,rfl,R⟩:=C.ones
  have z2:=D.size
  have z3:=l.size
  have A:=o.trans (l.mono (by omega))
  have y:=(G.bs D).bs l
  have s:=t.bs l
  have X:Below W.heap.size W F∧AO F B 25 x.cells:=⟨A,s⟩
  refine AZ.back<|Cj (Am (Bs (Am Bo)))<|Ai 6 O (fun u f=>As (i:=0) O O) O<|Ai 7 O (fun u f=>As (i:=1) O O) O<|Cb<|AZ.only ‹_› (i:=8) (by kernel_rfl) O ?_
  refine Az (Bv (cs:=[T,U]) (k:=2) (by kernel_rfl) O O O R y O) ?_
  rintro M ⟨H,m,S⟩
  have E:=C.by m (by omega)
  have z:=A.grown m (by omega) (by rintro _ ⟨⟩;omega)
  have Y:Below W.heap.size W M∧AO M B 25 x.cells:=⟨z,s.by m (fun e=>by have:=Option.some.inj e;omega)⟩
  refine AZ.back<|Cj (Am (Bs (Am Bo)))<|Ai 9 O (fun u f=>Cf O) O<|Cb<|Cu ‹_› (by kernel_rfl) ?_
  refine Ap<|B8<|Df<|Bi<|Av<|Bt O O O ‹_› underlying33 O O O ?_
  exact ⟨z,E.low (by omega)⟩
 intro n11
 have n11:=AB n11
 refine Af<|Aa (Cl O (show _=some (b8 (12#8)) from rfl)) O<|Ab O<|Ak<|Aq O ?_ ?_
 ·intro g
  have I:x.k=12#8:=AD g
  refine Af<|Ac O<|Be underlying25 O (BA _)<|Aa (Ah (AK _) O ‹_› rfl) O ?_
  refine Aj O O (Vi v ts x.n w (h.bs J)) ?_
  rintro r F ⟨l,C⟩
  have C:EF w F r (HO x.k x ts) (Gu x.k x ts) (G8 x.k x ts):=by rw [I];exact C.d
  obtain ⟨T,U,rfl,R⟩:=C.ones
  have z3:=l.size
  have A:=J.trans (l.mono zz)
  have y:=G.bs l
  refine Aa (As (i:=0) O O) O<|Aa (As (i:=1) O O) O<|Az (Bv (cs:=[T,U]) (k:=2) (by kernel_rfl) O O O R y O) ?_
  rintro M ⟨H,m,S⟩
  have E:=C.by m (by omega)
  have z:=A.grown m (by omega) (by rintro _ ⟨⟩;omega)
  refine Ab O<|Bc<|Bi<|Av<|Bt O O O ‹_› underlying33 O O O ?_
  exact ⟨z,E.low (by omega)⟩
 intro n12
 have n12:=AB n12
 refine Cp<|Bn<|Ap<|B8<|An ?_
 have I:x.k=13#8:=by
  obtain ⟨a,b,c,d,hr, -⟩:=hrow
  rcases Kx x.k (by rw [hr];rfl) with e|e|e|e|e|e|e|e|e|e|e
  ·exact absurd e n3
  ·exact absurd e n4
  ·exact absurd e n5
  ·exact absurd e n6
  ·exact absurd e n7
  ·exact absurd e n8
  ·exact absurd e n9
  ·exact absurd e n10
  ·exact absurd e n11
  ·exact absurd e n12
  ·exact e
 obtain ⟨p,rfl⟩:=G7 Q (by rw [I];rfl)
 refine Cw.any AS (fun N D _=> ?_)
 have o:=J.trans (D.mono zz)
 have t:=L.bs D
 refine Dh (fun K=>Below W.heap.size W K∧AO K B 25 x.cells) (fun hC=> ?_) (⟨o,t⟩)
 refine Cj (Am Bo)<|Ai 0 O (fun u f=>B6 O) O<|Ai 1 O (fun u f=>Ci AR O O (h.1.bs f.1) 0 O (by simp)) O<|Ai 2 O (fun u f=>Cq (cs:=[p.x,p.y]) (AT _) (AP _) O (h.1.bs f.1) O (by decide) (BN (ts:=[p]) (j:=0) (by simp))) O<|Ai 3 O (fun u f=>Cd underlying25 O (BA _)) O<|Ai 4 O (fun u f=>Ah (AK _) O f.2 O) O<|Cb<|AZ.only ‹_› (i:=5) (by kernel_rfl) O ?_
 refine Aj O O (Vh p x.n N ((h.2 p (by simp)).bs o)) ?_
 rintro r F ⟨l,C⟩
 have C:EF N F r (HO x.k x [p]) (Gu x.k x [p]) (G8 x.k x [p]):=by rw [I];exact C.d
 obtain ⟨T,U,rfl,R⟩:=C.ones
 have z2:=D.size
 have z3:=l.size
 have A:=o.trans (l.mono (by omega))
 have y:=(G.bs D).bs l
 have s:=t.bs l
 have X:Below W.heap.size W F∧AO F B 25 x.cells:=⟨A,s⟩
 refine AZ.back<|Cj (Am Bo)<|Ai 6 O (fun u f=>As (i:=0) O O) O<|Ai 7 O (fun u f=>As (i:=1) O O) O<|Cb<|AZ.only ‹_› (i:=8) (by kernel_rfl) O ?_
 refine Az (Bv (cs:=[T,U]) (k:=2) (by kernel_rfl) O O O R y O) ?_
 rintro M ⟨H,m,S⟩
 have E:=C.by m (by omega)
 have z:=A.grown m (by omega) (by rintro _ ⟨⟩;omega)
 have Y:Below W.heap.size W M∧AO M B 25 x.cells:=⟨z,s.by m (fun e=>by have:=Option.some.inj e;omega)⟩
 refine AZ.back<|Cj (Am Bo)<|Ai 9 O (fun u f=>Cf O) O<|Cb<|Cu ‹_› (by kernel_rfl) ?_
 refine Ap<|B8<|Df<|Bt O O O ‹_› underlying33 O O O ?_
 exact ⟨z,E.low (by omega)⟩
end Go.Proofs.YtmipoeanpnnjoaaGreatDoor

namespace Go.Proofs.YtmipoeanpnnjoaaGreatDoor
open Go Go.Dd Go.RowKit List
set_option maxRecDepth 100000
theorem Xs (vs:List PV) (x:N5):(Gz vs x).map (·.s)=x.i.map fun j=>(vs.map (·.1)).getD j.toNat []:=by
 unfold Gz
 rw [map_map]
 refine map_congr_left fun j _=> ?_
 show (vs.getD j.toNat ([],[])).1=_
 rw [getD_eq_getElem?_getD,getD_eq_getElem?_getD,getElem?_map]
 cases vs[j.toNat]? with
 |none=>rfl
 |some a=>rfl
theorem Nq:¬Shapes.ok []=true:=by decide
theorem JB {c:Prop} [Decidable c] {s:List Int} (h:Shapes.ok (if c then s else [])=true):c∧Shapes.ok s=true:=by
 by_cases hc:c
 ·rw [if_pos hc] at h;exact ⟨hc,h⟩
 ·rw [if_neg hc] at h;exact absurd h Nq
theorem XJ {x:N5} {ts:List T4} (g:DK x ts=true) (v:∀t ∈ ts,tok t.s t.l=true) (f:Shapes.ok (IJ x.k x.s x.n x.p (ts.map (·.s)))=true):HO x.k x ts=0:=by
 have D:=((Gr x ts).1 g).1.1
 obtain ⟨a,b,c,d,n, -,B,E,G,H, -⟩:=JO g
 have i:∀{p:T4},ts=[p]→tok p.s p.l=true:=fun e=>v _ (by rw [e];simp)
 have l:∀{p q:T4},ts=[p,q]→tok p.s p.l=true∧tok q.s q.l=true:=fun e=>⟨v _ (by rw [e];simp),v _ (by rw [e];simp)⟩
 rcases Kx x.k (by rw [n];rfl) with hk|hk|hk|hk|hk|hk|hk|hk|hk|hk|hk
 ·obtain ⟨p,q,e⟩:=Iy g (by rw [hk];rfl)
  obtain ⟨h,m⟩:=l e
  rw [hk,e] at f ⊢
  have f:Shapes.ok (if p.s=q.s then p.s else [])=true:=f
  show e2 p.s p.l q.s q.l=0
  unfold e2;rw [h,m,if_pos (JB f).1.symm];rfl
 ·obtain ⟨p,q,e⟩:=Iy g (by rw [hk];rfl)
  obtain ⟨h,m⟩:=l e
  rw [hk,e] at f ⊢
  have f:Shapes.ok (if p.s=q.s then p.s else [])=true:=f
  show e2 p.s p.l q.s q.l=0
  unfold e2;rw [h,m,if_pos (JB f).1.symm];rfl
 ·obtain ⟨p,e⟩:=G7 g (by rw [hk];rfl)
  have h:=i e
  rw [hk,e]
  show e1 p.s p.l=0
  unfold e1;rw [h];rfl
 ·obtain ⟨p,e⟩:=G7 g (by rw [hk];rfl)
  have h:=i e
  rw [hk] at n
  cases n
  rw [hk,e]
  show OZ p.s p.l x.n=0
  unfold OZ e1;rw [h,if_neg (by omega)];rfl
 ·obtain ⟨p,q,e⟩:=Iy g (by rw [hk];rfl)
  obtain ⟨h,m⟩:=l e
  rw [hk,e] at f ⊢
  have f:Shapes.ok (if DV p.s q.s=0 then [p.s.getD 0 default,q.s.getD 1 default] else [])=true:=f
  show Hw p q=0
  unfold Hw;rw [h,m];exact (JB f).1
 ·obtain ⟨p,q,e⟩:=Iy g (by rw [hk];rfl)
  obtain ⟨h,m⟩:=l e
  rw [hk,e] at f ⊢
  have f:Shapes.ok (if BZ p.s q.s x.n x.p=0 then FG p.s q.s x.n x.p else [])=true:=f
  show Ho p q x.n x.p=0
  unfold Ho;rw [h,m];exact (JB f).1
 ·obtain ⟨p,e⟩:=G7 g (by rw [hk];rfl)
  have h:=i e
  rw [hk,e] at f ⊢
  have f:Shapes.ok (if CE p.s x.n=0 then GJ p.s x.n else [])=true:=f
  show HZ p x.n=0
  unfold HZ;rw [h];exact (JB f).1
 ·obtain ⟨p,e⟩:=G7 g (by rw [hk];rfl)
  have h:=i e
  rw [hk,e] at f ⊢
  have f:Shapes.ok (if Shapes.size p.s=Shapes.size x.s then x.s else [])=true:=f
  obtain ⟨I,A⟩:=JB f
  show KV p x.s=0
  have hs:=Shapes.size_le p.s
  have o:=(BJ h).2
  unfold KV;rw [h,A,if_pos (by decide),if_pos (by omega)]
 ·obtain ⟨p,e⟩:=G7 g (by rw [hk];rfl)
  have h:=i e
  have w:=(BI D (by rw [hk];exact LJ)).2
  rw [hk,e] at f ⊢
  have f:Shapes.ok (if p.s.length=x.s.length then x.s.map (fun k=>p.s.getD k.toNat default) else [])=true:=f
  have w:Hb x.s=true:=w
  rw [LX,Bool.and_eq_true] at w
  show K2 p x.s=0
  unfold K2;rw [h,decide_eq_true (JB f).1.symm,w.2];rfl
 ·rw [hk] at n
  cases n
  rw [hk] at f ⊢
  show Lb ts x.n=0
  obtain ⟨k,z⟩:∃k:Nat,x.n=(k:Int):=⟨x.n.toNat,by omega⟩
  have f:Shapes.ok (NP (ts.map (·.s)) x.n.toNat)=true:=f
  rw [z,Int.toNat_natCast] at f
  rw [z]
  cases ts with
  |nil=>simp only [length_nil] at B;omega
  |cons t r=>
   have j:k<t.s.length:=by
    unfold NP at f
    split at f
    ·rename_i s hs
     have o:=La _ _ _ hs
     have:=(JB f).1
     rw [o] at this
     exact this
    ·exact absurd f Nq
   have C:IH k t.s (r.map (·.s))=if r.all (fun u=>HX u.s t.s k) then some (t.s.set k (t.s.getD k default+CB k r)) else none:=Nz j
   have f:Shapes.ok (match IH k t.s (r.map (·.s)) with|some s=>if k<s.length then s else []|none=>[])=true:=f
   rw [C] at f
   cases ha:r.all (fun u=>HX u.s t.s k) with
   |false=>rw [ha] at f;exact absurd f Nq
   |true=>
    rw [ha] at f
    have F:=(JB f).2
    refine QT.2 ⟨⟨by simp,by simp only [length_cons] at E ⊢;omega⟩,rfl,v,j,fun u y=> ?_,F⟩
    rcases List.mem_cons.1 y with rfl|y
    ·exact (FQ j).symm
    ·exact (JU j).1 (List.all_eq_true.1 ha u y)
 ·obtain ⟨p,e⟩:=G7 g (by rw [hk];rfl)
  have h:=i e
  rw [hk] at n
  cases n
  rw [hk,e] at f ⊢
  have f:Shapes.ok (Rl p.s x.n)=true:=f
  have o:¬(p.s.length:Int)≤x.n:=fun o=>by
   unfold Rl at f
   rw [if_pos o] at f
   exact Nq f
  show KO p x.n=0
  unfold KO;rw [h,decide_eq_true (show 0≤x.n by omega),decide_eq_true (show x.n<(p.s.length:Int) by omega)];rfl
theorem X6 {vs:List PV} {x:N5} {s:List Int} (o:∀v ∈ vs,tok v.1 v.2=true) (h:I3 (vs.map (·.1)) x=some s) (n:x.k≠1#8) (l:x.k≠2#8):
  GQ x (Gz vs x)=0∧Gu x.k x (Gz vs x)=s:=by
 unfold I3 at h
 split at h
 ·rename_i g
  simp only [Bool.and_eq_true,Bool.not_eq_true'] at g
  obtain ⟨⟨q,i⟩,f⟩:=g
  have hs:=Option.some.inj h
  rw [← Xs] at f hs
  have m:∀t ∈ Gz vs x,tok t.s t.l=true:=fun t c=>by
   unfold Gz at c
   obtain ⟨j,k,rfl⟩:=List.mem_map.1 c
   have p:=List.any_eq_false.1 i j k
   simp only [Bool.or_eq_true,decide_eq_true_eq,not_or,length_map] at p
   have b:j.toNat<vs.length:=by omega
   have e:vs.getD j.toNat ([],[])=vs[j.toNat]:=by rw [getD_eq_getElem?_getD,getElem?_eq_getElem b];rfl
   show tok (vs.getD j.toNat ([],[])).1 (vs.getD j.toNat ([],[])).2=true
   rw [e]
   exact o _ (getElem_mem b)
  have a:=(Gr x (Gz vs x)).2 ⟨⟨q,by unfold Gz;rw [length_map]⟩,n,l⟩
  have d:GQ x (Gz vs x)=0:=by unfold GQ;rw [a];exact XJ a m f
  exact ⟨d,by rw [← (Mc d).sh];exact hs⟩
 ·cases h
theorem Rh (x:N5) (l:List N5):F1 (x::l)=if x.k=1#8 then x::F1 l else F1 l:=by
 unfold F1;rw [filter_cons];simp only [decide_eq_true_eq]
theorem Wa (x:N5) (l:List N5):F2 (x::l)=if x.k=2#8 then x::F2 l else F2 l:=by
 unfold F2;rw [filter_cons];simp only [decide_eq_true_eq]
theorem JT:∀(l:List N5) (a b ws:List PV) (g:List (List Int)),(∀v ∈ a,tok v.1 v.2=true)→DX (a.map (·.1)) l=some g→
  (FF a b ws l).isSome=(H8 b (F1 l) && H8 ws (F2 l))
 |[],a,b,ws,g,_,_=>by
  have:∀v:List PV,H8 v []=true:=fun v=>by cases v<;>rfl
  show true=(H8 b [] && H8 ws [])
  rw [this,this];rfl
 |x::l,a,b,ws,g,ht,h=>by
  unfold DX at h
  cases e:I3 (a.map (·.1)) x with
  |none=>rw [e] at h;cases h
  |some s=>
   rw [e] at h
   have h:DX (a.map (·.1)++[s]) l=some g:=h
   have hs:x.k=1#8∨x.k=2#8→s=x.s:=fun j=>by
    unfold I3 at e
    split at e
    ·have:=Option.some.inj e
     rw [← this]
     unfold IJ
     rw [if_pos j]
    ·cases e
   have d:∀{t:PV},EN t x.s=true→(x.k=1#8∨x.k=2#8)→(∀v ∈ a++[t],tok v.1 v.2=true)∧DX ((a++[t]).map (·.1)) l=some g:=fun {t} f j=>by
    unfold EN at f
    simp only [Bool.and_eq_true,decide_eq_true_eq] at f
    refine ⟨fun v c=> ?_, ?_⟩
    ·rcases List.mem_append.1 c with c|c
     ·exact ht v c
     ·rw [List.mem_singleton.1 c];exact f.1
    ·rw [map_append,map_cons,map_nil,f.2,← hs j];exact h
   rw [Rh,Wa]
   by_cases k1:x.k=1#8
   ·have i:¬x.k=2#8:=by rw [k1];decide
    simp only [FF,if_pos k1,if_neg i]
    cases b with
    |nil=>rfl
    |cons t gv' =>
     show (if EN t x.s then FF (a++[t]) gv' ws l else none).isSome=((EN t x.s && H8 gv' (F1 l)) && H8 ws (F2 l))
     cases f:EN t x.s with
     |false=>rfl
     |true=>
      obtain ⟨m,k⟩:=d f (.inl k1)
      rw [Bool.true_and,if_pos rfl]
      exact JT l _ gv' ws g m k
   ·simp only [FF,if_neg k1]
    by_cases i:x.k=2#8
    ·simp only [if_pos i]
     cases ws with
     |nil=>cases H8 b (F1 l)<;>rfl
     |cons t ws' =>
      show (if EN t x.s then FF (a++[t]) b ws' l else none).isSome=(H8 b (F1 l) && (EN t x.s && H8 ws' (F2 l)))
      cases f:EN t x.s with
      |false=>cases H8 b (F1 l)<;>rfl
      |true=>
       obtain ⟨m,k⟩:=d f (.inr i)
       rw [Bool.true_and,if_pos rfl]
       exact JT l _ b ws' g m k
    ·simp only [if_neg i]
     obtain ⟨n,o⟩:=X6 ht e k1 i
     have D:=(Mc n).tok
     rw [if_pos n]
     refine JT l _ b ws g (fun v c=> ?_) ?_
     ·rcases List.mem_append.1 c with c|c
      ·exact ht v c
      ·rw [List.mem_singleton.1 c];exact D
     ·rw [map_append,map_cons,map_nil,o];exact h
def RH (ls:List N5) (ws:List PV) (t:PV):Bool:=(ID ls).isSome && (EN t ((F1 ls).headD default).s && (decide ((F2 ls).length=ws.length) && H8 ws (F2 ls)))
theorem Up (a:List N5) (ws:List PV) (t:PV):(FW a ws t).isSome=RH a ws t:=by
 unfold FW RH
 cases hg:ID a with
 |none=>rfl
 |some ss=>
  obtain ⟨d,b, -⟩:=JK hg
  have f:∃y,F1 a=[y]:=by
   have b:(F1 a).length=1:=b
   match hq:F1 a,b with
   |[y],_=>exact ⟨y,rfl⟩
  obtain ⟨y,c⟩:=f
  have e:=JT a [] [t] ws ss (fun _ h=>by cases h) d
  rw [c] at e ⊢
  have e2:H8 [t] [y]=EN t y.s:=by show (EN t y.s && true)=_;rw [Bool.and_true]
  rw [e2] at e
  show (if true && decide (ws.length=(F2 a).length) then FF [] [t] ws a else none).isSome=(true && (EN t y.s && (decide ((F2 a).length=ws.length) && H8 ws (F2 a))))
  by_cases hl:ws.length=(F2 a).length
  ·rw [decide_eq_true hl,decide_eq_true hl.symm,Bool.true_and,Bool.true_and,Bool.true_and,if_pos rfl]
   exact e
  ·rw [decide_eq_false hl,decide_eq_false (fun h=>hl h.symm)]
   simp
theorem YM {b:List N5} {i:Nat} (g:i<b.length) (h:b[i].k=1#8) (f:∀j (c:j<b.length),j<i→b[j].k≠1#8):(F1 b).headD default=b[i]:=by
 have e:b=b.take i++b[i]::b.drop (i+1):=by rw [← drop_eq_getElem_cons g,take_append_drop]
 have e1:F1 (b.take i)=[]:=List.filter_eq_nil_iff.2 fun a d=>by
  obtain ⟨j,c,rfl⟩:=List.mem_iff_getElem.1 d
  rw [length_take] at c
  rw [getElem_take]
  have:=f j (by omega) (by omega)
  simpa using this
 have e2:F1 b=F1 (b.take i)++F1 (b[i]::b.drop (i+1)):=by
  conv=>lhs;rw [e]
  exact filter_append ..
 rw [e2,e1,Rh,if_pos h];rfl
end Go.Proofs.YtmipoeanpnnjoaaGreatDoor

namespace Go.Proofs.YtmipoeanpnnjoaaGreatDoor
open Go Go.Dd Go.RowKit List Go.Proofs.Tryz
set_option maxRecDepth 100000
theorem Yz {l:List (List Int)} {n:Int} (f:1≤l.length) (e:l.length≤4) (c:∀s ∈ l,Shapes.ok s=true) (g:0≤n):
  decide (Mt l n=0)=Shapes.ok (NP l n.toNat)∧(Mt l n=0→UA l n=some (NP l n.toNat)):=by
 have a:∀s,IH n.toNat (l.headD []) l.tail=some s→s.length=(l.headD []).length:=fun s h=>La _ _ _ h
 have b:Shapes.ok []=false:=by decide
 by_cases hA:((l.headD []).length:Int)≤n
 ·have e1:Mt l n=1:=by
   unfold Mt QU
   rw [decide_eq_true hA];simp
  have e2:NP l n.toNat=[]:=by
   unfold NP
   cases hs:IH n.toNat (l.headD []) l.tail with
   |none=>rfl
   |some s=>
    have:=a s hs
    show (if n.toNat<s.length then s else [])=[]
    rw [if_neg (by omega)]
  rw [e1,e2]
  exact ⟨by rw [b];rfl,fun h=>by cases h⟩
 ·have d:QU l n=false:=by
   unfold QU
   rw [decide_eq_false (show ¬l.length<1 by omega),decide_eq_false (show ¬4<l.length by omega),decide_eq_false (show ¬n<0 by omega),decide_eq_false hA]
   rw [List.any_eq_false.2 fun s hs=>by rw [c s hs];decide]
   rfl
  have e1:Mt l n=Y0 (UA l n):=by unfold Mt;rw [d];rfl
  rw [e1]
  unfold UA NP
  cases hs:IH n.toNat (l.headD []) l.tail with
  |none=>exact ⟨by show decide ((10:Int)=0)=Shapes.ok [];rw [b];rfl,fun h=>by cases h⟩
  |some s=>
   have:=a s hs
   have e2:(if n.toNat<s.length then s else [])=s:=if_pos (by omega)
   show decide (Y0 (some s)=0)=Shapes.ok (if n.toNat<s.length then s else [])∧(_→some s=some (if n.toNat<s.length then s else []))
   rw [e2]
   refine ⟨?_,fun _=>rfl⟩
   show decide ((if Shapes.ok s=true then (0:Int) else 10)=0)=_
   cases Shapes.ok s<;>rfl
def XK (w:World) (r:Value) (G:List Int):Prop:=∃u s,r= .tuple #[u, .bool (Shapes.ok G)]∧BS (Value.int .i64) w u s∧(Shapes.ok G=true→s=G)
theorem Gv {w:World} {u:Value} {s G:List Int} {b:Bool} (hs:BS (Value.int .i64) w u s) (a:b=Shapes.ok G) (h:b=true→s=G):XK w (.tuple #[u, .bool b]) G:=by
 subst a;exact ⟨u,s,rfl,hs,h⟩
theorem Gx {w:World} {u:Value} {G:List Int} (hs:BS (Value.int .i64) w u G) (a:Shapes.ok G=true):XK w (.tuple #[u, .bool true]) G:=Gv hs a.symm fun _=>rfl
theorem Th {a b:List Int} (e:DV a b=0):Shapes.ok [a.getD 0 default,b.getD 1 default]=true:=by
 unfold DV at e
 split at e
 ·rename_i c
  rw [Bool.and_eq_true] at c
  split at e
  ·rename_i h
   have d:=EK c.1 (i:=0) (by omega)
   have f:=EK c.2 (i:=1) (by omega)
   have g:a.getD 0 default*b.getD 1 default≤4096:=by
    have:=Int.mul_le_mul d.2 f.2 (by omega) (by omega)
    omega
   exact MY d f g
  ·cases e
 ·cases e
theorem W0 {t s:List Int} {a b:Int} (e:BZ t s a b=0):Shapes.ok (FG t s a b)=true:=by
 unfold BZ at e
 split at e
 ·cases e
 ·split at e
  ·rename_i h;rw [Bool.and_eq_true] at h;exact h.2
  ·cases e
theorem WV {t:List Int} {n:Int} (a:Shapes.ok t=true) (e:CE t n=0):Shapes.ok (GJ t n)=true:=
 (KR (t:=⟨.slice none 0 0, .slice none 0 0,t,replicate (Shapes.size t).toNat 0#32⟩) (by
  unfold tok
  show (Shapes.ok t && decide ((((replicate (Shapes.size t).toNat 0#32).length:Nat):Int)=Shapes.size t))=true
  have b:0<Shapes.size t:=AD a
  rw [a,Bool.true_and,length_replicate,decide_eq_true_iff]
  omega) e).ok
theorem MZ {ps:List (Value×List Int)} (h:ps.length=2):∃a b,ps=[a,b]:=by
 match ps,h with
 |[a,b],_=>exact ⟨a,b,rfl⟩
theorem Kk {ps:List (Value×List Int)} (h:1≤ps.length):∃a l,ps=a::l:=by
 match ps,h with
 |a::l,_=>exact ⟨a,l,rfl⟩
set_option maxHeartbeats 800000 in
theorem Rt (x:N5) (v:Value) (ps:List (Value×List Int)) (W:World) (hx:N5.at W x) (h:LI W v ps) (A:CJ x.k x.i x.s x.n x.p=true) (hl:ps.length=x.i.length) (C:∀p ∈ ps,Shapes.ok p.2=true):
  AM prog 249 [x.v,v] W (fun r Q=>Below W.heap.size W Q∧XK Q r (IJ x.k x.s x.n x.p (BE ps))):=by
 have E:=Below.refl W.heap.size W
 obtain ⟨G,L⟩:∃G,G=IJ x.k x.s x.n x.p (BE ps):=⟨_,rfl⟩
 rw [← L]
 have F:=hx.s
 refine Bb (n:=141) func249 O<|Af<|B5 (cs:=x.cells) O O O ?_
 rintro A_x w eA_x M I -
 have E:=E.bs I
 have F:=F.bs I
 have h:=h.bs I
 refine Ab O<|Ab O<|Bh<|Be underlying25 O (DF _)<|Aa (Ah (DG _) O ‹_› rfl) O ?_
 refine Ak<|Ao<|An<|Af<|Aa (Cl O (show _=some (b8 (1#8)) from rfl)) O<|Ab O<|Ak<|Aq O ?_ ?_
 ·intro q
  have g:x.k=1#8:=AD q
  refine B0<|Ca O true (q)<|Af<|Be underlying25 O (AN _)<|Aa (Ah (AF _) O ‹_› rfl) O ?_
  refine Ab O<|Ab O<|Bc<|Bi<|Av<|Bx O O O ?_
  have t:G=x.s:=by rw [L,g];rfl
  have H:Shapes.ok x.s=true:=(BI (by rw [g] at A;exact A) Xn).2
  exact ⟨E,Gx (t ▸ F) (by rw [t];exact H)⟩
 intro q1
 refine Bw<|Aa (Cl O (show _=some (b8 (2#8)) from rfl)) O<|Ab O<|Ak<|Aq O ?_ ?_
 ·intro q
  have g:x.k=2#8:=AD q
  refine Af<|Be underlying25 O (AN _)<|Aa (Ah (AF _) O ‹_› rfl) O ?_
  refine Ab O<|Ab O<|Bc<|Bi<|Av<|Bx O O O ?_
  have t:G=x.s:=by rw [L,g];rfl
  have H:Shapes.ok x.s=true:=(BI (by rw [g] at A;exact A) Xm).2
  exact ⟨E,Gx (t ▸ F) (by rw [t];exact H)⟩
 intro q2
 refine An<|Af<|Aa (Cl O (show _=some (b8 (3#8)) from rfl)) O<|Ab O<|Ak<|Aq O ?_ ?_
 ·intro q
  have g:x.k=3#8:=AD q
  refine B0<|Ca O true (q)<|An ?_
  have l2:ps.length=2:=by have:=(BI (by rw [g] at A;exact A) V0).1;omega
  obtain ⟨a,b,rfl⟩:=MZ l2
  have D:a ∈ [a,b]:=by simp
  have R:b ∈ [a,b]:=by simp
  have z:=C a D
  have V:=C b R
  have y:=h.each a D
  have J:=h.each b R
  have d:=h.sl
  clear l2
  have t:G=if a.2=b.2 then a.2 else []:=by rw [L,g];rfl
  refine Cv AS (by kernel_rfl)<|Bg O<|Ad (fun c o=>Ay BB O O (d.bs o) 0 O (Nat.zero_lt_succ _)) O<|Ad (fun c o=>Ex.as (Bj (AF _) O (d.bs o) (Nat.zero_lt_succ _)) O) O<|Bg O<|Ad (fun c o=>Ay BB O O (d.bs o) 0 O (Nat.zero_lt_succ _)) O<|Ad (fun c o=>Ex.as (Bj (AF _) O (d.bs o) (Nat.zero_lt_succ _)) O) O<|Bg O<|Ad (fun c o=>Ay BB O O (d.bs o) 1 O (show 1<2 by decide)) O<|Ad (fun c o=>Ex.as (Bj (AF _) O (d.bs o) (show 1<2 by decide)) O) O<|C3 O O (fun c o=>(J8 a.1 b.1 a.2 b.2 _ (y.bs o) (J.bs o)).q o)<|Dk O<|Dk O ?_
  refine Cr (fun N o=> ?_)
  refine Ap<|B8<|Df<|Bi<|Av<|Bx O O O ?_
  refine ⟨bt E o,Gv (y.bs o) ?_ fun e=> ?_⟩
  ·rw [t]
   by_cases e:a.2=b.2
   ·rw [if_pos e,z,decide_eq_true e]
   ·rw [if_neg e,decide_eq_false e];rfl
  ·rw [t,if_pos (AD e)]
 intro q3
 refine Bw<|Aa (Cl O (show _=some (b8 (4#8)) from rfl)) O<|Ab O<|Ak<|Aq O ?_ ?_
 ·intro q
  have g:x.k=4#8:=AD q
  have l2:ps.length=2:=by have:=(BI (by rw [g] at A;exact A) Vz).1;omega
  obtain ⟨a,b,rfl⟩:=MZ l2
  have D:a ∈ [a,b]:=by simp
  have R:b ∈ [a,b]:=by simp
  have z:=C a D
  have V:=C b R
  have y:=h.each a D
  have J:=h.each b R
  have d:=h.sl
  clear l2
  have t:G=if a.2=b.2 then a.2 else []:=by rw [L,g];rfl
  refine An<|Cv AS (by kernel_rfl)<|Bg O<|Ad (fun c o=>Ay BB O O (d.bs o) 0 O (Nat.zero_lt_succ _)) O<|Ad (fun c o=>Ex.as (Bj (AF _) O (d.bs o) (Nat.zero_lt_succ _)) O) O<|Bg O<|Ad (fun c o=>Ay BB O O (d.bs o) 0 O (Nat.zero_lt_succ _)) O<|Ad (fun c o=>Ex.as (Bj (AF _) O (d.bs o) (Nat.zero_lt_succ _)) O) O<|Bg O<|Ad (fun c o=>Ay BB O O (d.bs o) 1 O (show 1<2 by decide)) O<|Ad (fun c o=>Ex.as (Bj (AF _) O (d.bs o) (show 1<2 by decide)) O) O<|C3 O O (fun c o=>(J8 a.1 b.1 a.2 b.2 _ (y.bs o) (J.bs o)).q o)<|Dk O<|Dk O ?_
  refine Cr (fun N o=> ?_)
  refine Ap<|B8<|Df<|Bi<|Av<|Bx O O O ?_
  refine ⟨bt E o,Gv (y.bs o) ?_ fun e=> ?_⟩
  ·rw [t]
   by_cases e:a.2=b.2
   ·rw [if_pos e,z,decide_eq_true e]
   ·rw [if_neg e,decide_eq_false e];rfl
  ·rw [t,if_pos (AD e)]
 intro q4
 refine An<|Af<|Aa (Cl O (show _=some (b8 (5#8)) from rfl)) O<|Ab O<|Ak<|Aq O ?_ ?_
 ·intro q
  have g:x.k=5#8:=AD q
  refine B0<|Ca O true (q)<|An ?_
  have l1:ps.length=1:=by have:=(BI (by rw [g] at A;exact A) Xl).1;omega
  obtain ⟨a,l,rfl⟩:=Kk (ps:=ps) (by omega)
  have D:a ∈ a::l:=by simp
  have z:=C a D
  have y:=h.each a D
  have d:=h.sl
  have t:G=a.2:=by rw [L,g];rfl
  refine Bw<|Ac O<|Aa (Ay BB O O (d.bs (Below.refl _ _)) 0 O (Nat.zero_lt_succ _)) O<|Aa (Ex.as (Bj (AF _) O (d.bs (Below.refl _ _)) (Nat.zero_lt_succ _)) O) O<|Ab O<|Ab O<|Bc<|Bi<|Av<|Bx O O O ?_
  exact ⟨E,Gx (t ▸ y) (by rw [t];exact z)⟩
 intro q5
 refine Bw<|Aa (Cl O (show _=some (b8 (6#8)) from rfl)) O<|Ab O<|Ak<|Aq O ?_ ?_
 ·intro q
  have g:x.k=6#8:=AD q
  refine An ?_
  have l1:ps.length=1:=by have:=(BI (by rw [g] at A;exact A) Vy).1;omega
  obtain ⟨a,l,rfl⟩:=Kk (ps:=ps) (by omega)
  have D:a ∈ a::l:=by simp
  have z:=C a D
  have y:=h.each a D
  have d:=h.sl
  have t:G=a.2:=by rw [L,g];rfl
  refine Bw<|Ac O<|Aa (Ay BB O O (d.bs (Below.refl _ _)) 0 O (Nat.zero_lt_succ _)) O<|Aa (Ex.as (Bj (AF _) O (d.bs (Below.refl _ _)) (Nat.zero_lt_succ _)) O) O<|Ab O<|Ab O<|Bc<|Bi<|Av<|Bx O O O ?_
  exact ⟨E,Gx (t ▸ y) (by rw [t];exact z)⟩
 intro q6
 refine Af<|Aa (Cl O (show _=some (b8 (7#8)) from rfl)) O<|Ab O<|Ak<|Aq O ?_ ?_
 ·intro q
  have g:x.k=7#8:=AD q
  have l2:ps.length=2:=by have:=(BI (by rw [g] at A;exact A) Ty).1;omega
  obtain ⟨a,b,rfl⟩:=MZ l2
  have D:a ∈ [a,b]:=by simp
  have R:b ∈ [a,b]:=by simp
  have z:=C a D
  have V:=C b R
  have y:=h.each a D
  have J:=h.each b R
  have d:=h.sl
  clear l2
  have t:G=if DV a.2 b.2=0 then [a.2.getD 0 default,b.2.getD 1 default] else []:=by rw [L,g];rfl
  refine An ?_
  rename World=>c
  refine Cw.any AS (fun N B _=> ?_)
  refine Dh (fun Q=>Below c.heap.size c Q) (fun hC=> ?_) (B)
  refine Cj (Am (Bs (Am Bo)))<|Ai 0 O (fun c f=>B6 O) O<|Ai 1 O (fun c f=>Ay BB O O (d.bs f) 0 O (Nat.zero_lt_succ _)) O<|Ai 2 O (fun c f=>Ex.as (Bj (AF _) O (d.bs f) (Nat.zero_lt_succ _)) O) O<|Ai 3 O (fun c f=>B6 O) O<|Ai 4 O (fun c f=>Ay BB O O (d.bs f) 1 O (show 1<2 by decide)) O<|Ai 5 O (fun c f=>Ex.as (Bj (AF _) O (d.bs f) (show 1<2 by decide)) O) O<|Cb<|AZ.only ‹_› (i:=6) (by kernel_rfl) O ?_
  refine Aj O O (M6 a.1 b.1 a.2 b.2 N (y.bs B) (J.bs B)) ?_
  rintro _ w3 ⟨I,u,rfl,X,Y⟩
  have B:=bt B I
  refine AZ.back<|Cj (Am (Bs (Am Bo)))<|Ai 7 O (fun c f=>B6 O) O<|Ai 8 O (fun c f=>As (i:=0) O O) O<|Ai 9 O (fun c f=>As (i:=1) O O) O<|Ai 10 O (fun c f=>Cf O) O<|Ai 11 O (fun c f=>Cf O) O<|Cb<|Cu ‹_› (by kernel_rfl) ?_
  refine Cm<|Ac O<|Ac O<|Aa (Da O O) O<|Ab O<|Ab O<|Bc<|Bi<|Av<|Bx O O O ?_
  have E:=bt E B
  refine ⟨E, ?_⟩
  by_cases e:DV a.2 b.2=0
  ·rw [if_pos e] at t
   rw [decide_eq_true e]
   have d0:=Th e
   exact Gx (by rw [t];exact AQ (Y e)) (by rw [t];exact d0)
  ·rw [if_neg e] at t
   rw [decide_eq_false e,X e]
   exact Gv (s:=[]) (C0 _ _) (by rw [t];rfl) fun h=>by cases h
 intro q7
 refine Af<|Aa (Cl O (show _=some (b8 (8#8)) from rfl)) O<|Ab O<|Ak<|Aq O ?_ ?_
 ·intro q
  have g:x.k=8#8:=AD q
  have l2:ps.length=2:=by have:=(BI (by rw [g] at A;exact A) R4).1;omega
  obtain ⟨a,b,rfl⟩:=MZ l2
  have D:a ∈ [a,b]:=by simp
  have R:b ∈ [a,b]:=by simp
  have z:=C a D
  have V:=C b R
  have y:=h.each a D
  have J:=h.each b R
  have d:=h.sl
  clear l2
  have t:G=if BZ a.2 b.2 x.n x.p=0 then FG a.2 b.2 x.n x.p else []:=by rw [L,g];rfl
  refine An ?_
  rename World=>c
  refine Cw.any AS (fun N B _=> ?_)
  refine Dh (fun Q=>Below c.heap.size c Q) (fun hC=> ?_) (B)
  refine Cj (Am (Bs (Am Bo)))<|Ai 0 O (fun c f=>B6 O) O<|Ai 1 O (fun c f=>Ay BB O O (d.bs f) 0 O (Nat.zero_lt_succ _)) O<|Ai 2 O (fun c f=>Ex.as (Bj (AF _) O (d.bs f) (Nat.zero_lt_succ _)) O) O<|Ai 3 O (fun c f=>B6 O) O<|Ai 4 O (fun c f=>Ay BB O O (d.bs f) 1 O (show 1<2 by decide)) O<|Ai 5 O (fun c f=>Ex.as (Bj (AF _) O (d.bs f) (show 1<2 by decide)) O) O<|Ai 6 O (fun c f=>Cd underlying25 O (BA _)) O<|Ai 7 O (fun c f=>Ah (AK _) O (AO.bs ‹_› f) O) O<|Ai 8 O (fun c f=>Cd underlying25 O (BA _)) O<|Ai 9 O (fun c f=>Ah (AK _) O (AO.bs ‹_› f) O) O<|Cb ?_
  refine AZ.only ‹_› (i:=10) (by kernel_rfl) O ?_
  refine Aj O O (M4 a.2 b.2 x.n x.p a.1 b.1 N (y.bs B) (J.bs B)) ?_
  rintro _ w3 ⟨I,u,m,rfl,K,X,Y⟩
  have B:=bt B I
  refine AZ.back<|Cj (Am (Bs (Am Bo)))<|Ai 11 O (fun c f=>B6 O) O<|Ai 12 O (fun c f=>As (i:=0) O O) O<|Ai 13 O (fun c f=>As (i:=1) O O) O<|Ai 14 O (fun c f=>Cf O) O<|Ai 15 O (fun c f=>Cf O) O<|Cb<|Cu ‹_› (by kernel_rfl) ?_
  refine Cm<|Ac O<|Ac O<|Aa (Da O O) O<|Ab O<|Ab O<|Bc<|Bi<|Av<|Bx O O O ?_
  have E:=bt E B
  refine ⟨E, ?_⟩
  by_cases e:BZ a.2 b.2 x.n x.p=0
  ·rw [if_pos e] at t
   rw [decide_eq_true e]
   exact Gx (by rw [t,← Y e];exact AQ K) (by rw [t];exact W0 e)
  ·rw [if_neg e] at t
   rw [decide_eq_false e,(X e).1]
   exact Gv (s:=[]) (C0 _ _) (by rw [t];rfl) fun h=>by cases h
 intro q8
 refine Af<|Aa (Cl O (show _=some (b8 (9#8)) from rfl)) O<|Ab O<|Ak<|Aq O ?_ ?_
 ·intro q
  have g:x.k=9#8:=AD q
  have l1:ps.length=1:=by have:=(BI (by rw [g] at A;exact A) Vx).1;omega
  obtain ⟨a,l,rfl⟩:=Kk (ps:=ps) (by omega)
  have D:a ∈ a::l:=by simp
  have z:=C a D
  have y:=h.each a D
  have d:=h.sl
  have t:G=if CE a.2 x.n=0 then GJ a.2 x.n else []:=by rw [L,g];rfl
  refine An ?_
  rename World=>c
  refine Cw.any AS (fun N B _=> ?_)
  refine Dh (fun Q=>Below c.heap.size c Q) (fun hC=> ?_) (B)
  refine Cj (Am (Bs (Am Bo)))<|Ai 0 O (fun c f=>B6 O) O<|Ai 1 O (fun c f=>Ay BB O O (d.bs f) 0 O (Nat.zero_lt_succ _)) O<|Ai 2 O (fun c f=>Ex.as (Bj (AF _) O (d.bs f) (Nat.zero_lt_succ _)) O) O<|Ai 3 O (fun c f=>Cd underlying25 O (BA _)) O<|Ai 4 O (fun c f=>Ah (AK _) O (AO.bs ‹_› f) O) O<|Cb ?_
  refine AZ.only ‹_› (i:=5) (by kernel_rfl) O ?_
  refine Aj O O (L1 a.2 x.n a.1 N (y.bs B)) ?_
  rintro _ w3 ⟨I,u,m,rfl,K,X,Y⟩
  have B:=bt B I
  refine AZ.back<|Cj (Am (Bs (Am Bo)))<|Ai 6 O (fun c f=>B6 O) O<|Ai 7 O (fun c f=>As (i:=0) O O) O<|Ai 8 O (fun c f=>As (i:=1) O O) O<|Ai 9 O (fun c f=>Cf O) O<|Ai 10 O (fun c f=>Cf O) O<|Cb<|Cu ‹_› (by kernel_rfl) ?_
  refine Cm<|Ac O<|Ac O<|Aa (Da O O) O<|Ab O<|Ab O<|Bc<|Bi<|Av<|Bx O O O ?_
  have E:=bt E B
  refine ⟨E, ?_⟩
  by_cases e:CE a.2 x.n=0
  ·rw [if_pos e] at t
   rw [decide_eq_true e]
   exact Gx (by rw [t,← Y e];exact AQ K) (by rw [t];exact WV z e)
  ·rw [if_neg e] at t
   rw [decide_eq_false e,(X e).1]
   exact Gv (s:=[]) (C0 _ _) (by rw [t];rfl) fun h=>by cases h
 intro q9
 refine Af<|Aa (Cl O (show _=some (b8 (10#8)) from rfl)) O<|Ab O<|Ak<|Aq O ?_ ?_
 ·intro q
  have g:x.k=10#8:=AD q
  have l1:ps.length=1:=by have:=(BI (by rw [g] at A;exact A) MK).1;omega
  obtain ⟨a,l,rfl⟩:=Kk (ps:=ps) (by omega)
  have D:a ∈ a::l:=by simp
  have z:=C a D
  have y:=h.each a D
  have d:=h.sl
  have H:Shapes.ok x.s=true:=(BI (by rw [g] at A;exact A) MK).2
  have t:G=if Shapes.size a.2=Shapes.size x.s then x.s else []:=by rw [L,g];rfl
  refine An<|Cv AS (by kernel_rfl)<|Ad (fun c o=>Cd underlying25 O (AN _)) O<|Ad (fun c o=>Ah (AF _) O (AO.bs ‹_› o) O) O ?_
  refine Ad (fun c o=>Cd underlying25 O (AN _)) O<|Ad (fun c o=>Ah (AF _) O (AO.bs ‹_› o) O) O ?_
  refine C3 O O (fun c o=>(HH x.y x.s _ (F.bs o)).q o)<|Bg O<|Ad (fun c o=>Ay BB O O (d.bs o) 0 O (Nat.zero_lt_succ _)) O<|Ad (fun c o=>Ex.as (Bj (AF _) O (d.bs o) (Nat.zero_lt_succ _)) O) O<|C3 O O (fun c o=>(HH a.1 a.2 _ (y.bs o)).q o)<|Ad (fun c o=>Da O O) O<|Dk O<|Dk O ?_
  refine Cr (fun N o=> ?_)
  refine Ap<|B8<|Df<|Bi<|Av<|Bx O O O ?_
  refine ⟨bt E o,Gv (F.bs o) ?_ fun e=> ?_⟩
  ·rw [t]
   by_cases e:Shapes.size a.2=Shapes.size x.s
   ·rw [if_pos e,H,decide_eq_true e.symm]
   ·rw [if_neg e,decide_eq_false fun h=>e h.symm];rfl
  ·rw [t,if_pos (AD e).symm]
 intro q10
 refine Af<|Aa (Cl O (show _=some (b8 (11#8)) from rfl)) O<|Ab O<|Ak<|Aq O ?_ ?_
 ·intro q
  have g:x.k=11#8:=AD q
  have l1:ps.length=1:=by have:=(BI (by rw [g] at A;exact A) LJ).1;omega
  obtain ⟨a,l,rfl⟩:=Kk (ps:=ps) (by omega)
  have D:a ∈ a::l:=by simp
  have z:=C a D
  have y:=h.each a D
  have d:=h.sl
  have H:Hb x.s=true:=(BI (by rw [g] at A;exact A) LJ).2
  have t:G=Mn a.2 x.s:=by rw [L,g];rfl
  unfold Mn at t
  have S:=H
  rw [LX,Bool.and_eq_true,decide_eq_true_iff] at S
  have k_c:UB x.s=true:=by unfold Hb at H;exact (Bool.and_eq_true _ _ ▸ H).1
  refine An<|An<|Cv AS (by kernel_rfl)<|Ad (fun c o=>Cd underlying25 O (AN _)) O<|Ad (fun c o=>Ah (AF _) O (AO.bs ‹_› o) O) O ?_
  refine Ad (fun c o=>Au AC O (Sl.bs ‹_› o)) O ?_
  refine Bg O<|Ad (fun c o=>Ay BB O O (d.bs o) 0 O (Nat.zero_lt_succ _)) O<|Ad (fun c o=>Ex.as (Bj (AF _) O (d.bs o) (Nat.zero_lt_succ _)) O) O<|Ad (fun c o=>Au AC O (Sl.bs ‹_› o)) O ?_
  refine Ad (fun c o=>Cs O O) O ?_
  refine Cr (fun N o=> ?_)
  refine Ap<|B8<|Aq O ?_ ?_
  ·intro q
   have l2:¬a.2.length=x.s.length:=fun e=>by rw [e] at q;simp at q
   rw [if_neg l2] at t
   refine Af<|Ab O<|Ab O<|Bu<|Bi<|Av<|Bx O O O ?_
   exact ⟨bt E o,Gv (s:=[]) (C0 _ _) (by rw [t];rfl) fun h=>by cases h⟩
  intro q
  have l2:a.2.length=x.s.length:=by simp at q;omega
  rw [if_pos l2] at t
  have hb:=Ub k_c S.1
  have ho:∀j,j<x.s.length→0≤x.s.getD j default∧x.s.getD j default<(a.2.length:Int):=fun j hj=>by
   have:=hb _ (EU hj)
   omega
  have E:=E.bs o
  have F:=F.bs o
  have h:=h.bs o
  have M:=M.bs o
  refine B0<|An ?_
  have d:=h.sl
  have y:=h.each a D
  rename World=>c
  refine Cw.any AS (fun N B _=> ?_)
  refine Dh (fun Q=>Below c.heap.size c Q) (fun hC=> ?_) (B)
  refine Cj (Am (Bs (Am Bo)))<|Ai 0 O (fun c f=>B6 O) O<|Ai 1 O (fun c f=>Ay BB O O (d.bs f) 0 O (Nat.zero_lt_succ _)) O<|Ai 2 O (fun c f=>Ex.as (Bj (AF _) O (d.bs f) (Nat.zero_lt_succ _)) O) O<|Ai 3 O (fun c f=>Cd underlying25 O (AN _)) O<|Ai 4 O (fun c f=>Ah (AF _) O (AO.bs ‹_› f) O) O<|Cb ?_
  refine AZ.only ‹_› (i:=5) (by kernel_rfl) O ?_
  refine Aj O O (I6 a.1 x.y a.2 x.s N (y.bs B) (F.bs B) ho S.1) ?_
  rintro u w3 ⟨I,K⟩
  have B:=bt B I
  refine AZ.back<|Cj (Am (Bs (Am Bo)))<|Ai 6 O (fun c f=>Cf O) O<|Ai 7 O (fun c f=>Cf O) O<|Cb<|Cu ‹_› (by kernel_rfl) ?_
  refine Ap<|B8<|Df<|Bi<|Av<|Bx O O O ?_
  refine ⟨bt E B,Gx ?_ ?_⟩
  ·rw [t]
   have:=AI K
   rw [← BP a.2 x.s] at this
   exact this
  ·rw [t]
   exact GE z S.2 l2.symm
 intro q11
 refine Af<|Aa (Cl O (show _=some (b8 (12#8)) from rfl)) O<|Ab O<|Ak<|Aq O ?_ ?_
 ·intro q
  have g:x.k=12#8:=AD q
  have lk:=(BI (by rw [g] at A;exact A) Oy).1
  have t:G=NP (BE ps) x.n.toNat:=by rw [L,g];rfl
  obtain ⟨j1,j2⟩:=Yz (l:=BE ps) (n:=x.n) (by rw [length_map];omega) (by rw [length_map];omega) (fun s hs=>by
   obtain ⟨p,hp,rfl⟩:=List.mem_map.1 hs
   exact C p hp) (by omega)
  rw [← t] at j1 j2
  refine Af<|Ac O<|Be underlying25 O (BA _)<|Aa (Ah (AK _) O ‹_› rfl) O ?_
  refine Aj O O (Ke v ps x.n _ h) ?_
  rintro _ w ⟨I,u,s,rfl,s_u,hs⟩
  have E:=E.bs I
  have F:=F.bs I
  have h:=h.bs I
  have M:=M.bs I
  exact Ac rfl<|Aa (As (i:=0) rfl rfl) rfl<|Aa (As (i:=1) rfl rfl) rfl<|Ab rfl<|Ab rfl<|Bl<|Ac rfl<|Ac rfl<|Aa (Da rfl rfl) rfl<|Ab rfl<|Ab rfl<|Bc<|Bi<|Av<|Bx rfl rfl rfl<|⟨E,Gv s_u j1 fun e=>Option.some.inj ((hs (AD e)).symm.trans (j2 (AD e)))⟩
 intro Z
 have g:x.k=13#8:=by
  have:=IA A
  obtain ⟨_,_,_,_,_,_,e⟩:=this
  have:=KW x.k (by rw [e];rfl)
  rcases this with e|e|e|e|e|e|e|e|e|e|e|e|e
  ·rw [e] at q1;cases q1
  ·rw [e] at q2;cases q2
  ·rw [e] at q3;cases q3
  ·rw [e] at q4;cases q4
  ·rw [e] at q5;cases q5
  ·rw [e] at q6;cases q6
  ·rw [e] at q7;cases q7
  ·rw [e] at q8;cases q8
  ·rw [e] at q9;cases q9
  ·rw [e] at q10;cases q10
  ·rw [e] at q11;cases q11
  ·rw [e] at Z;cases Z
  ·exact e
 have l1:ps.length=1:=by have:=(BI (by rw [g] at A;exact A) MJ).1;omega
 obtain ⟨a,l,rfl⟩:=Kk (ps:=ps) (by omega)
 have D:a ∈ a::l:=by simp
 have z:=C a D
 have y:=h.each a D
 have d:=h.sl
 have lk:=(BI (by rw [g] at A;exact A) MJ).1
 have t:G=Rl a.2 x.n:=by rw [L,g];rfl
 obtain ⟨k,U⟩:∃k:Nat,x.n=(k:Int):=⟨x.n.toNat,by omega⟩
 have la:=FR z
 have T:decide ((k:Int)<(a.2.length:Int))=Shapes.ok G∧((k:Int)<(a.2.length:Int)→UE a.2 k=G):=by
  rw [t,U]
  unfold Rl
  by_cases e:k<a.2.length
  ·have e2:(if (a.2.length:Int)≤(k:Int) then [] else if a.2.length=1 then [1] else a.2.eraseIdx (k:Int).toNat)=BK a.2 k:=by
    rw [if_neg (by omega),Int.toNat_natCast,eraseIdx_eq_take_drop_succ];rfl
   rw [e2,Gj z e,decide_eq_true (by omega)]
   exact ⟨rfl,fun _=>Sd e⟩
  ·rw [if_pos (by omega),decide_eq_false (by omega)]
   exact ⟨rfl,fun h=>by omega⟩
 refine Cp<|Bn<|Ap<|B8<|An ?_
 rename World=>c
 refine Cw.any AS (fun N B _=> ?_)
 refine Dh (fun Q=>Below c.heap.size c Q) (fun hC=> ?_) (B)
 refine Cj (Am Bo)<|Ai 0 O (fun c f=>B6 O) O<|Ai 1 O (fun c f=>Ay BB O O (d.bs f) 0 O (Nat.zero_lt_succ _)) O<|Ai 2 O (fun c f=>Ex.as (Bj (AF _) O (d.bs f) (Nat.zero_lt_succ _)) O) O<|Ai 3 O (fun c f=>Cd underlying25 O (BA _)) O<|Ai 4 O (fun c f=>Ex.as (Ah (AK _) O (AO.bs M f) O) (cngA (Value.int .i64) U)) O<|Ai 6 O (fun c f=>Cd underlying25 O (BA _)) O<|Ai 7 O (fun c f=>Ex.as (Ah (AK _) O (AO.bs M f) O) (cngA (Value.int .i64) U)) O<|Ai 8 O (fun c f=>B6 O) O<|Ai 9 O (fun c f=>Ay BB O O (d.bs f) 0 O (Nat.zero_lt_succ _)) O<|Ai 10 O (fun c f=>Ex.as (Bj (AF _) O (d.bs f) (Nat.zero_lt_succ _)) O) O<|Ai 11 O (fun c f=>Au AC O (y.bs f)) O<|Ai 12 O (fun c f=>Eh O O) O<|Cb<|AZ.only ‹_› (i:=5) (by kernel_rfl) O ?_
 refine Aj O O (K4 a.1 a.2 k N (y.bs B) la.2) ?_
 rintro u w3 ⟨I,K⟩
 have B:=bt B I
 refine AZ.back<|Cj (Am Bo)<|Ai 13 O (fun c f=>Cf O) O<|Ai 14 O (fun c f=>Cf O) O<|Cb<|Cu ‹_› (by kernel_rfl) ?_
 exact Ap<|B8<|Df<|Bx rfl rfl rfl<|⟨bt E B,Gv (AQ K) T.1 fun e=>T.2 (AD e)⟩

theorem Tt:∀k:BitVec 8,(!(DO k).isSome||(K7 k==(!decide (k=1#8) && !decide (k=2#8))))=true:=by decide+kernel
theorem O5 {a:List N5} {i:Nat} {x:N5} (b:i<a.length) (c:x=a[i]):CM (a.take (i+1))=if x.k=1#8 then CM (a.take i)+1 else CM (a.take i):=by
 rw [take_succ_eq_append_getElem b,← c]
 unfold CM
 rw [filter_append,length_append]
 by_cases e:x.k=1#8
 ·rw [if_pos e,filter_cons,decide_eq_true e];rfl
 ·rw [if_neg e,filter_cons,decide_eq_false e];rfl
theorem TE {m:Nat} {l:List Int} {k:Nat} (a:k<l.length) (h:l.getD k default<0∨(m:Int)≤l.getD k default):NQ m l=true:=by
 unfold NQ
 rw [any_eq_true]
 refine ⟨l.getD k default,EU a, ?_⟩
 rcases h with h|h
 ·rw [decide_eq_true h];rfl
 ·rw [decide_eq_true h,Bool.or_true]
theorem Xt {m:Nat} {l:List Int} (h:∀j ∈ l,0≤j∧j<(m:Int)):NQ m l=false:=by
 unfold NQ
 rw [any_eq_false]
 intro j a
 have:=h j a
 rw [decide_eq_false (show ¬j<0 by omega),decide_eq_false (show ¬(m:Int)≤j by omega)]
 decide
set_option maxHeartbeats 1000000 in
theorem M5 (v:Value) (o:List N5) (W:World) (h:GN W v o):
  AM prog 231 [.agg [v].toArray] W (fun r w' =>Below W.heap.size W w' ∧match ID o with
   |none=>∃u,r= .tuple #[u, .bool false]
   |some ss=>∃u ps,r= .tuple #[u, .bool true]∧LI w' u ps∧BE ps=ss):=by
 obtain ⟨R,hR⟩:∃R,R=ID o:=⟨_,rfl⟩
 rw [← hR]
 have t:=Below.refl W.heap.size W
 have M:=h.sl
 have hle:=h.sl.le
 refine Bb (n:=109) func231 O<|Af<|B5 (cs:=[v]) O O O ?_
 rintro A_g w1 eA_g C hn1 -
 have t:=t.bs hn1
 have M:=M.bs hn1
 refine Ab O<|Ab O<|Bh<|Be underlying64 O (CQ _)<|Aa (Ah (CZ _) O ‹_› rfl) O ?_
 refine Aa (Au BQ O ‹_›) O ?_
 refine B3 O<|Ac O ?_
 refine Cc 17 O ?_ ?_
 ·intro g
  have g:=AD g
  refine Ae (dj:=17) O O O O<|Ae (dj:=17) O O O O<|Ae (dj:=17) O O O O<|Ae (dj:=17) O O O O<|B4 O<|Ak<|Bz O<|Af<|Ab O<|Ab O<|Bu<|Bx O O O ?_
  have hN:R=none:=by rw [hR,ID,if_pos (by omega)]
  rw [hN]
  exact ⟨t,_,rfl⟩
 intro g1
 have g1:=AB g1
 refine Ag (dj:=17) O O<|Be underlying64 O (CQ _)<|Ag (dj:=17) O O<|Aa (Ah (CZ _) O ‹_› rfl) O ?_
 refine Ag (dj:=17) O O<|Aa (Au BQ O ‹_›) O ?_
 refine Ag (dj:=17) O O<|Aa (Dr O O) O<|Cn O<|Ak<|Aq O ?_ ?_
 ·intro g
  have g:=AD g
  refine Af<|Ab O<|Ab O<|Bu<|Bx O O O ?_
  have hN:R=none:=by rw [hR,ID,if_pos (by omega)]
  rw [hN]
  exact ⟨t,_,rfl⟩
 intro g2
 have g2:=AB g2
 have hgs:ID o=match DX [] o with|some ss=>if CM o=1∧K7 (o.getD (o.length - 1) default).k=true then some ss else none|none=>none:=by rw [ID,if_neg (by omega)];rfl
 have hRn:DX [] o=none→R=none:=fun e=>by rw [hR,hgs,e]
 have z1:=AA t
 have y_g:=AH C
 obtain ⟨B,hBd⟩:∃B,B=w1.heap.size:=⟨_,rfl⟩
 have hW1:=t
 clear t hn1
 refine Co<|Ab O<|Bl<|Ab O<|Bh<|Ab O<|Ak<|Ao ?_
 refine Bq (S:=(Nat×Nat×Value×List (Value×List Int))) (fun z=>[(1, .pointer (some ⟨A_g,0,none⟩)),(4, .int .i64 (z.2.1:Int)),(5,z.2.2.1),(6, .int .i64 (z.1:Int))]) (fun z w' =>z.1≤o.length∧Below w1.heap.size w1 w' ∧w'.ownsRow B 23 1 z.2.2.1 z.1 (z.2.2.2.map (·.1))∧Km B w' z.2.2.1 z.2.2.2∧(∀p ∈ z.2.2.2,Shapes.ok p.2=true)∧DX (BE z.2.2.2) (o.drop z.1)=DX [] o∧z.2.1=CM (o.take z.1)∧z.2.2.2.length=z.1∧z.2.1≤z.1) (fun z=>o.length - z.1) ((0,0, .slice none 0 0,[])) ⟨rfl,rfl,rfl,rfl,trivial⟩ ?_ ?_
 ·exact ⟨Nat.zero_le _,Below.refl _ _,⟨rfl, .inl ⟨rfl,rfl⟩⟩,(fun p N=>by cases N),(fun p N=>by cases N),rfl,rfl,rfl,AX _⟩
 rintro ⟨i,c,u,ps⟩ w2 ⟨hi,t,l,d,hok,D,hc,T,hci⟩
 dsimp only at hi t l d hok D hc T hci ⊢
 have M:=M.bs t
 have C:=C.bs t
 have z2:=t.size
 have ub:=AG l
 have lps2:(BE ps).length=ps.length:=length_map _
 have X:=bt hW1 t
 refine An<|Af<|Ac O<|Be underlying64 O (CQ _)<|Aa (Ah (CZ _) O ‹_› rfl) O ?_
 refine Aa (Au BQ O ‹_›) O ?_
 refine B3 O<|Ak<|Aq O ?_ ?_
 ·intro g
  have K:i<o.length:=by have:=AD g;omega
  obtain ⟨x,H⟩:∃x,x=o[i]:=⟨_,rfl⟩
  have hx:=(h.each x (H ▸ getElem_mem K)).bs X
  have hcl:=h.cells K
  rw [← H] at hcl
  have hdr:o.drop i=x::o.drop (i+1):=by rw [H];exact drop_eq_getElem_cons K
  have Z:DX [] o=match I3 (BE ps) x with|some s=>DX (BE ps++[s]) (o.drop (i+1))|none=>none:=by rw [← D,hdr];rfl
  have hno:I3 (BE ps) x=none→R=none:=fun e=>hRn (by rw [Z,e])
  refine B0<|An<|Ao<|Af<|Be underlying64 O (CQ _)<|Aa (Ah (CZ _) O ‹_› rfl) O ?_
  refine Ac O<|Aa (Ci BQ O O M i O K) O<|Aa (Cq (cs:=x.cells) (EM _) (EJ _) O M O (by decide) hcl) O<|C1 (cs:=x.cells) GD O O O O (fun _=>rfl) (hx.ones) ?_
  rintro A_x w3 eA_x b_x f zhn
  have hx:=hx.bs f
  replace t:=bt t f
  have d:=d.bs f
  have l:=AL l f
  have C:=C.bs f
  have z3:=f.size
  refine Bh<|Aa (B9 (EM _) (EJ _) O O ‹_›) O ?_
  refine Aj O O (QF x w3 hx) ?_
  rintro _ w4 ⟨rfl,f⟩
  have hx:=hx.bs f
  have b_x:=b_x.bs f
  replace t:=bt t f
  have d:=d.bs f
  have l:=AL l f
  have C:=C.bs f
  have z4:=f.size
  refine Aa (Ck O) O<|Ak<|Aq O ?_ ?_
  ·intro gk
   have gk:CJ x.k x.i x.s x.n x.p=false:=by simpa using gk
   refine Af<|Ab O<|Ab O<|Bu<|Bi<|Av<|Av<|Bi<|Av<|Bx O O O ?_
   have hN:R=none:=hno (by unfold I3;rw [gk];rfl)
   rw [hN]
   exact ⟨bt hW1 t,_,rfl⟩
  intro gk
  have gk:CJ x.k x.i x.s x.n x.p=true:=by simpa using gk
  obtain ⟨c',hc'⟩:∃c' :Nat,c' =if x.k=1#8 then c+1 else c:=⟨_,rfl⟩
  refine B0<|An<|Af<|Be underlying25 O (DF _)<|Aa (Ah (DG _) O ‹_› rfl) O ?_
  refine Aa (Cl O (show _=some (b8 (1#8)) from rfl)) O<|Ak ?_
  refine Cw.mid (F:=[(1, .pointer (some ⟨A_g,0,none⟩)),(4, .int .i64 (c' :Int)),(5,u),(6, .int .i64 (i:Int)),(7, .pointer (some ⟨A_x,0,none⟩))]) (I:=fun w' =>w' =w4) ?_ ?_
  ·refine Aq O ?_ ?_
   ·intro q
    have q:=AD q
    refine Bw<|Ac O<|Aa ((De O O (by omega)).as (cngA (Value.int .i64) (show (c:Int)+1=((c+1:Nat):Int) by omega))) O<|Ab O<|Bf ?_
    exact Pw.mid ⟨rfl,(by rw [hc',if_pos q];rfl),rfl,rfl,rfl,trivial⟩ (rfl)
   intro q
   have q:=AB q
   refine Cp ?_
   exact Pw.mid ⟨rfl,(by rw [hc',if_neg q];rfl),rfl,rfl,rfl,trivial⟩ (rfl)
  rintro w4' rfl
  refine B8 ?_
  have li:=Kv gk
  have h_i:=hx.i
  have ub:=AG l
  refine Af<|Ab O<|Bh<|Ab O<|Ak<|Ao ?_
  refine Bq (S:=(Nat×Value)) (fun z=>[(1, .pointer (some ⟨A_g,0,none⟩)),(4, .int .i64 (c' :Int)),(5,u),(6, .int .i64 (i:Int)),(7, .pointer (some ⟨A_x,0,none⟩)),(8,z.2),(9, .int .i64 (z.1:Int))]) (fun z w' =>z.1≤x.i.length∧Below w4'.heap.size w4' w' ∧w'.ownsRow w4'.heap.size 23 1 z.2 z.1 (((x.i.take z.1).map fun j=>ps.getD j.toNat default).map (·.1))∧(∀j ∈ x.i.take z.1,0≤j∧j<(i:Int))) (fun z=>x.i.length - z.1) ((0, .slice none 0 0)) ⟨rfl,rfl,rfl,rfl,rfl,rfl,rfl,trivial⟩ ?_ ?_
  ·exact ⟨Nat.zero_le _,Below.refl _ _,⟨rfl, .inl ⟨rfl,rfl⟩⟩,fun j U=>by simp at U⟩
  rintro ⟨k,q⟩ w5 ⟨hk,A,Q,V⟩
  dsimp only at hk A Q V ⊢
  have E:=h_i.bs A
  have b_x5:=b_x.bs A
  have z5:=A.size
  refine An<|Af<|Ac O<|Be underlying25 O (AN _)<|Aa (Ah (AF _) O ‹_› rfl) O ?_
  refine Aa (Au AC O ‹_›) O ?_
  refine B3 O<|Ak<|Aq O ?_ ?_
  ·intro g
   have w:k<x.i.length:=by have:=AD g;omega
   obtain ⟨j,U⟩:∃j,j=x.i.getD k default:=⟨_,rfl⟩
   refine B0<|An<|Ao<|An<|Af<|Be underlying25 O (AN _)<|Aa (Ah (AF _) O ‹_› rfl) O ?_
   refine Ac O<|Aa (Ay AC O O E k O w) O<|Aa ((Bj (AK _) O E w).as (cngA (Value.int .i64) U.symm)) O<|B3 O<|Ac O ?_
   refine Cc 56 O ?_ ?_
   ·intro g3
    have g3:=AD g3
    refine Ae (dj:=56) O O O O<|Ae (dj:=56) O O O O<|Ae (dj:=56) O O O O<|Ae (dj:=56) O O O O<|Ae (dj:=56) O O O O<|Ae (dj:=56) O O O O<|Ae (dj:=56) O O O O<|B4 O<|Ak<|Bz O<|Af<|Ab O<|Ab O<|Bu<|Bi<|Av<|Av<|Bi<|Av<|Bi<|Av<|Av<|Bi<|Av<|Bx O O O ?_
    have hN:R=none:=hno (by unfold I3;rw [lps2,T,TE w (.inl (U ▸ g3))];simp)
    rw [hN]
    exact ⟨bt (bt hW1 t) A,_,rfl⟩
   intro g3
   have g3:=AB g3
   refine Ag (dj:=56) O O<|Be underlying25 O (AN _)<|Ag (dj:=56) O O<|Aa (Ah (AF _) O ‹_› rfl) O ?_
   refine Ag (dj:=56) O O<|Ac O<|Ag (dj:=56) O O<|Aa (Ay AC O O E k O w) O<|Ag (dj:=56) O O<|Aa ((Bj (AK _) O E w).as (cngA (Value.int .i64) U.symm)) O<|Ag (dj:=56) O O<|Ac O<|Ag (dj:=56) O O<|Aa (Ds O O) O<|Cn O<|Ak<|Aq O ?_ ?_
   ·intro g4
    have g4:=AD g4
    refine Af<|Ab O<|Ab O<|Bu<|Bi<|Av<|Av<|Bi<|Av<|Bi<|Av<|Av<|Bi<|Av<|Bx O O O ?_
    have hN:R=none:=hno (by unfold I3;rw [lps2,T,TE w (.inr (U ▸ g4))];simp)
    rw [hN]
    exact ⟨bt (bt hW1 t) A,_,rfl⟩
   intro g4
   have g4:=AB g4
   have o_u5:=AL l A
   have su5:BS (fun p:Value×List Int=>p.1) w5 u ps:=by have:=AI o_u5;rw [← T] at this;exact this
   have J:j.toNat<ps.length:=by omega
   have s_j:=((d (ps.getD j.toNat default) (by rw [getD_eq_getElem?_getD,getElem?_eq_getElem J];exact getElem_mem J)).1).bs A
   refine B0<|Bw<|Ac O<|Ac O<|Be underlying25 O (AN _)<|Aa (Ah (AF _) O ‹_› rfl) O ?_
   refine Ac O<|Aa (Ay AC O O E k O w) O<|Aa ((Bj (AK _) O E w).as (cngA (Value.int .i64) (show _=((j.toNat:Nat):Int) by rw [← U];omega))) O<|Aa (Ay BB O O su5 j.toNat O J) O<|Aa (Bj (AF _) O su5 J) O<|Bk (Dl (vs:=[(ps.getD j.toNat default).1]) BB HT O O O (by rw [all_cons,s_j.one'];rfl) O) O ?_
   rintro y w6 ⟨o_y, -,f, -⟩
   have hB6:=bt A f
   have Q:=AL Q f
   have s_j:=s_j.bs f
   refine Bk (Di (base:=w4'.heap.size) BB HT O (by decide) O O Q (AI o_y) (by rw [all_cons,s_j.one'];rfl) (by omega) (by omega) hB6.size) O ?_
   rintro q' w7 ⟨o_q',f, -, -⟩
   have hB7:=hB6.trans f
   have e1:((x.i.take (k+1)).map fun j=>ps.getD j.toNat default).map (·.1)=((x.i.take k).map fun j=>ps.getD j.toNat default).map (·.1)++[(ps.getD j.toNat default).1]:=by
    rw [take_succ_eq_append_getElem w,map_append,map_append,U]
    simp [w]
   rw [← e1] at o_q'
   have hin' :∀m ∈ x.i.take (k+1),0≤m∧m<(i:Int):=fun m hm=>by
    rw [take_succ_eq_append_getElem w] at hm
    rcases List.mem_append.1 hm with hm|hm
    ·exact V m hm
    ·rw [List.mem_singleton.1 hm,show x.i[k]=j by rw [U];simp [w]];omega
   refine Ab O<|Bf<|Bn<|Ch<|Ac O<|B7 O (by omega)<|Ab O<|Bf ?_
   exact Ap (Pw.next ((k+1,q')) ⟨rfl,rfl,rfl,rfl,rfl,rfl,rfl,trivial⟩ (⟨w,hB7,o_q',hin'⟩) (by simp only;omega))
  intro g
  have w:k=x.i.length:=by have:=AB g;omega
  subst w
  rw [take_length] at Q V
  obtain ⟨qs,hqs⟩:∃qs,qs=x.i.map fun j=>ps.getD j.toNat default:=⟨_,rfl⟩
  rw [← hqs] at Q
  have lqs:qs.length=x.i.length:=by rw [hqs,length_map]
  have hqm:∀p ∈ qs,p ∈ ps:=fun p N=>by
   rw [hqs] at N
   obtain ⟨j,U,rfl⟩:=List.mem_map.1 N
   have:=V j U
   have J:j.toNat<ps.length:=by omega
   rw [getD_eq_getElem?_getD,getElem?_eq_getElem J];exact getElem_mem J
  have hLI:LI w5 q qs:=⟨by have:=AI Q;rw [← lqs] at this;exact this,fun p N=>((d p (hqm p N)).1).bs A⟩
  obtain ⟨G,hGd⟩:∃G,G=IJ x.k x.s x.n x.p (BE qs):=⟨_,rfl⟩
  have hG2:IJ x.k x.s x.n x.p (x.i.map fun j=>(BE ps).getD j.toNat [])=G:=by
   rw [hGd,hqs]
   congr 1
   unfold BE
   rw [map_map]
   refine map_congr_left fun j U=> ?_
   have:=V j U
   have J:j.toNat<ps.length:=by omega
   simp [getD_eq_getElem?_getD,J]
  have gb:NQ (BE ps).length x.i=false:=by rw [lps2,T];exact Xt V
  have Y:I3 (BE ps) x=if Shapes.ok G=true then some G else none:=by
   unfold I3;rw [gk,gb,hG2]
   cases Shapes.ok G<;>rfl
  replace t:=bt t A
  have d:=d.bs A
  have l:=AL l A
  have C:=C.bs A
  have ub:=AG l
  refine Bp<|Al<|Al<|Bd<|Cm<|Aa (B9 (EM _) (EJ _) O O ‹_›) O ?_
  refine Ac O<|Aj O O (Rt x q qs w5 (hx.bs A) hLI gk lqs (fun p N=>hok p (hqm p N))) ?_
  rintro _ w6 ⟨f,hT⟩
  rw [← hGd] at hT
  obtain ⟨y,s,rfl,s_y,hs⟩:=hT
  replace t:=bt t f
  have d:=d.bs f
  have l:=AL l f
  have C:=C.bs f
  have z6:=f.size
  refine Ac O<|Aa (As (i:=0) O O) O<|Aa (As (i:=1) O O) O<|Ab O<|Ab O<|Bh<|Ac O<|Aa (Ck O) O<|Ak<|Aq O ?_ ?_
  ·intro go
   have go:Shapes.ok G=false:=by simpa using go
   refine Af<|Ab O<|Ab O<|Bu<|Bi<|Av<|Av<|Bi<|Av<|Bx O O O ?_
   have hN:R=none:=hno (by rw [Y,go];rfl)
   rw [hN]
   exact ⟨bt hW1 t,_,rfl⟩
  intro go
  have go:Shapes.ok G=true:=by simpa using go
  rw [hs go] at s_y
  clear hs
  rw [if_pos go] at Y
  have ls4:=FR go
  have ub:=AG l
  have z6' :=t.size
  refine B0<|Bw<|Ac O<|Ac O<|Bk (Di (base:=w6.heap.size) AC DI O (by decide) O O (World.ownsRow_nil _ _ _ _) s_y (DE (fun _=>rfl) _) (by omega) (by omega) (AX _)) O ?_
  rintro y2 w7 ⟨o_y2, -,hg, -⟩
  rw [nil_append,Nat.zero_add] at o_y2
  have f:=ET hg (AX _) fun _ e=>by cases e
  replace t:=bt t f
  have d:=d.bs f
  have l:=AL l f
  have C:=C.bs f
  have y_own:=AG o_y2
  have L:=AQ o_y2
  have z7:=f.size
  clear f hg
  refine Bk (Dl (vs:=[y2]) BB HT O O O (by rw [all_cons,L.one'];rfl) O) O ?_
  rintro p2 w8 ⟨o_p2, -,f, -⟩
  replace t:=bt t f
  have d:=d.bs f
  have l:=AL l f
  have C:=C.bs f
  have L:=L.bs f
  have z8:=f.size
  refine Bk (Di (base:=B) BB HT O (by decide) O O l (AI o_p2) (by rw [all_cons,L.one'];rfl) (by omega) (by omega) (by have:=t.size;omega)) O ?_
  rintro u' w9 ⟨o_u',f,hg,hcs⟩
  have hoff2:Km B w8 u (ps++[(y2,G)]):=fun p N=>(List.mem_append.1 N).elim (d p) (fun e=>by
   rw [List.mem_singleton.1 e]
   refine ⟨L,fun b e=> ?_⟩
   have h1:=y_own b e
   have:=t.size
   exact ⟨⟨by omega,by omega⟩,fun e2=>by have:=ub b e2;omega⟩)
  have d:=hoff2.grow hg hcs
  have e1:ps.map (·.1)++[y2]=(ps++[(y2,G)]).map (·.1):=by rw [map_append];rfl
  rw [e1] at o_u'
  replace t:Below w1.heap.size w1 w9:=by rw [← hBd] at t ⊢;exact t.trans f
  have hok' :∀p ∈ ps++[(y2,G)],Shapes.ok p.2=true:=fun p N=>(List.mem_append.1 N).elim (hok p) (fun e=>by rw [List.mem_singleton.1 e];exact go)
  have hrec' :DX (BE (ps++[(y2,G)])) (o.drop (i+1))=DX [] o:=by
   rw [Z,Y]
   have:BE (ps++[(y2,G)])=BE ps++[G]:=by unfold BE;rw [map_append];rfl
   rw [this]
  have hcc:c' =CM (o.take (i+1)):=by rw [hc',hc,O5 K H]
  have hci' :c' ≤i+1:=by rw [hc'];split<;>omega
  refine Ab O<|Bf<|Bn<|Ch<|Ac O<|B7 O (by omega)<|Ab O<|Bf ?_
  exact Ap (Pw.next ((i+1,c',u',ps++[(y2,G)])) ⟨rfl,rfl,rfl,rfl,trivial⟩ (⟨K,t,o_u',d,hok',hrec',hcc,by rw [length_append,T];rfl,hci'⟩) (by simp only;omega))
 intro g
 have K:i=o.length:=by have:=AB g;omega
 subst K
 rw [drop_length] at D
 have D:DX [] o=some (BE ps):=D.symm
 rw [take_length] at hc
 rw [D] at hgs
 have hl' :o.length - 1<o.length:=by omega
 obtain ⟨x,H⟩:∃x,x=o[o.length - 1]:=⟨_,rfl⟩
 have exd:o.getD (o.length - 1) default=x:=by rw [getD_eq_getElem?_getD,getElem?_eq_getElem hl',H];rfl
 rw [exd] at hgs
 have hcl:=h.cells hl'
 rw [← H] at hcl
 have hkx:(DO x.k).isSome=true:=by
  obtain ⟨_,_,_,_,_,_,e⟩:=IA (Ix o [] _ D x (H ▸ getElem_mem hl'))
  rw [e];rfl
 have hlf:K7 x.k=(!decide (x.k=1#8) && !decide (x.k=2#8)):=by
  have:=Tt x.k
  rw [hkx] at this
  simpa using this
 rw [hlf] at hgs
 have ad:∃ad c k,v= .slice (some ad) c k:=by
  obtain ⟨_,ao,cap,e,d1,d2,d3,_⟩:=h.sl
  cases ao with
  |none=>have:=d3 rfl;omega
  |some ad=>exact ⟨ad,_,_,e⟩
 have ck:(Hg N5.cells o)[(o.length - 1)*5+0]? =some (b8 x.k):=by
  rw [IE (fun a _=>Ek a) hl' (by decide),← H];rfl
 have hgf:R=if CM o=1∧(!decide (x.k=1#8) && !decide (x.k=2#8))=true then some (BE ps) else none:=by rw [hR,hgs]
 refine Bp<|Al<|Al<|Bd<|Cm<|Be underlying64 O (CQ _)<|Aa (Ah (CZ _) O ‹_› rfl) O ?_
 refine Be underlying64 O (CQ _)<|Aa (Ah (CZ _) O ‹_› rfl) O ?_
 refine Aa (Au BQ O ‹_›) O ?_
 refine Aa (Ex.as (Du O O (by omega)) (cngA (Value.int .i64) (show (o.length:Int) - 1=((o.length - 1:Nat):Int) by omega))) O<|Aa (Ci BQ O O M (o.length - 1) O hl') O<|Aa (C2 (q:=0) underlying25 O (DF _) O ad) O<|Aa (D1 (DG _) O M ck) O<|Ab O<|Bl<|Ac O<|Ac O<|Aa (Da O O) O<|Ac O ?_
 refine Cc 101 O ?_ ?_
 ·intro gc
  have gc:CM o=1:=by rw [← hc];have:=AD gc;omega
  refine Ag (dj:=101) O O<|Ac O<|Ag (dj:=101) O O<|Aa (F0 O (show _=some (b8 (1#8)) from rfl)) O<|B4 O<|Ac O ?_
  refine Cc 105 O ?_ ?_
  ·intro g3
   refine Ag (dj:=105) O O<|Ac O<|Ag (dj:=105) O O<|Aa (F0 O (show _=some (b8 (2#8)) from rfl)) O<|B4 O<|Ab O<|Ab O<|Bc<|Bx O O O ?_
   have g3' :decide (x.k=1#8)=false:=by simpa using g3
   by_cases g4:x.k=2#8
   ·rw [hgf,if_neg (fun h=>by rw [g4] at h;simp at h)]
    exact ⟨X,_,by rw [g4];rfl⟩
   ·rw [hgf,if_pos ⟨gc,by rw [g3',decide_eq_false g4];rfl⟩]
    exact ⟨X,u,ps,by rw [decide_eq_false g4];rfl,⟨by have:=AI l;rw [← T] at this;exact this,fun p N=>(d p N).1⟩,rfl⟩
  intro g3
  have g3' :decide (x.k=1#8)=true:=by simpa using g3
  refine Ae (dj:=105) O O O O<|Ae (dj:=105) O O O O<|Cn O<|Ab O<|Ab O<|Bc<|Bx O O O ?_
  rw [hgf,if_neg (fun h=>by rw [g3'] at h;simp at h)]
  exact ⟨X,_,rfl⟩
 intro gc
 have gc:¬CM o=1:=fun e=>by rw [← hc] at e;subst e;simp at gc
 refine Ae (dj:=101) O O O O<|Ae (dj:=101) O O O O<|Cn O<|Ac O<|Ae (dj:=105) O O O O<|Ae (dj:=105) O O O O<|Cn O<|Ab O<|Ab O<|Bc<|Bx O O O ?_
 rw [hgf,if_neg (fun h=>gc h.1)]
 exact ⟨X,_,rfl⟩
theorem Pv (v:Value) (f:List N5) (W:World) (h:GN W v f):
  AM prog 186 [.agg [v].toArray] W (fun r g=>Below W.heap.size W g∧match ID f with
   |none=>r= .tuple #[.slice none 0 0, .int .i64 1]
   |some ss=>∃u ps,r= .tuple #[u, .int .i64 0]∧LI g u ps∧BE ps=ss):=by
 obtain ⟨R,j⟩:∃R,R=ID f:=⟨_,rfl⟩
 rw [← j]
 have a:=Below.refl W.heap.size W
 refine Bb (n:=14) func186 O<|Af<|B5 (cs:=[v]) O O O ?_
 rintro l w k d b -
 have a:=a.bs b
 have h:=h.bs b
 refine Ab O<|Ab O<|Bl<|Aa (B9 (FC _) (DR _) O O ‹_›) O ?_
 refine Aj O O (M5 v f _ h) ?_
 rintro _ w ⟨b,c⟩
 rw [← j] at c
 have a:=a.bs b
 have h:=h.bs b
 have d:=d.bs b
 cases eR:R with
 |none=>
  rw [eR] at c
  obtain ⟨u,rfl⟩:=c
  exact Ac rfl<|Aa (As (i:=0) rfl rfl) rfl<|Aa (As (i:=1) rfl rfl) rfl<|Ab rfl<|Ab rfl<|Bh<|Ac rfl<|Aa (Ck rfl) rfl<|Ak<|Ca rfl true (rfl)<|Af<|Ab rfl<|Ab rfl<|Bu<|Bx rfl rfl rfl<|⟨a,rfl⟩
 |some ss=>
  rw [eR] at c
  obtain ⟨u,ps,rfl,m,e⟩:=c
  exact Ac rfl<|Aa (As (i:=0) rfl rfl) rfl<|Aa (As (i:=1) rfl rfl) rfl<|Ab rfl<|Ab rfl<|Bh<|Ac rfl<|Aa (Ck rfl) rfl<|Ak<|Ca rfl false (rfl)<|Co<|Ac rfl<|Ab rfl<|Ab rfl<|Bc<|Bx rfl rfl rfl<|⟨a,u,ps,rfl,m,e⟩

theorem GN.ad {w:World} {v:Value} {a:List N5} (h:GN w v a) {i:Nat} (e:i<a.length):∃ad c k,v= .slice (some ad) c k:=by
 obtain ⟨_,b,cap,rfl,_,_,d,_⟩:=h.sl
 cases b with
 |none=>have:=d rfl;omega
 |some ad=>exact ⟨_,_,_,rfl⟩
theorem GN.cell {w:World} {v:Value} {a:List N5} (h:GN w v a) {i:Nat} (b:i<a.length):(Hg N5.cells a)[i*5+0]? =some (b8 a[i].k)∧(Hg N5.cells a)[i*5+2]? =some a[i].y:=by
 obtain ⟨q,e,c⟩:=h.cells b 0 (by decide)
 obtain ⟨r,f,d⟩:=h.cells b 2 (by decide)
 have e1:b8 a[i].k=q:=Option.some.inj e
 have e2:a[i].y=r:=Option.some.inj f
 exact ⟨by rw [e1];exact c,by rw [e2];exact d⟩
theorem Vj (v:Value) (c:List N5) (W:World) (h:GN W v c):AM prog 194 [.agg [v].toArray] W (fun r e=>r= .bool (ID c).isSome∧Below W.heap.size W e):=by
 have a:=Below.refl W.heap.size W
 refine Bb (n:=11) func194 O<|Af<|B5 (cs:=[v]) O O O ?_
 rintro g w f j d -
 have a:=a.bs d
 have h:=h.bs d
 refine Ab O<|Bl<|Aa (B9 (FC _) (DR _) O O ‹_›) O ?_
 refine Aj O O (M5 v c w h) ?_
 rintro r e ⟨d,b⟩
 have a:=bt a d
 cases hg:ID c with
 |none=>
  rw [hg] at b
  obtain ⟨u,rfl⟩:=b
  exact Ac rfl<|Aa (As (i:=0) rfl rfl) rfl<|Aa (As (i:=1) rfl rfl) rfl<|Ab rfl<|Ab rfl<|Bl<|Ac rfl<|Ab rfl<|Bc<|Ax rfl rfl<|⟨rfl,a⟩
 |some ss=>
  rw [hg] at b
  obtain ⟨u,ps,rfl, -⟩:=b
  exact Ac rfl<|Aa (As (i:=0) rfl rfl) rfl<|Aa (As (i:=1) rfl rfl) rfl<|Ab rfl<|Ab rfl<|Bl<|Ac rfl<|Ab rfl<|Bc<|Ax rfl rfl<|⟨rfl,a⟩
theorem QG (t:T4) (y:Value) (s:List Int) (W:World) (c:t.at W) (hs:BS (Value.int .i64) W y s):AM prog 195 [t.v,y] W (fun r f=>r= .bool (EN (pv t) s)∧Below W.heap.size W f):=by
 have d:=Below.refl W.heap.size W
 refine Bb (n:=13) func195 O<|Af<|B5 (cs:=[t.x,t.y]) O O O ?_
 rintro h w e b a -
 have d:=d.bs a
 have c:=c.bs a
 have hs:=hs.bs a
 refine Ab O<|Bl<|Aa (B9 (AT _) (AP _) O O ‹_›) O ?_
 refine Aj O O (CY t.x t.y t.s t.l _ c.1 c.2) ?_
 rintro _ w ⟨rfl,a⟩
 have d:=d.bs a
 have c:=c.bs a
 have hs:=hs.bs a
 have b:=b.bs a
 refine Ac O ?_
 refine Cc 7 O ?_ ?_
 ·intro g
  refine Ag (dj:=7) O O<|Be underlying33 O (AN _)<|Ag (dj:=7) O O<|Aa (Ah (AF _) O ‹_› rfl) O ?_
  refine Ag (dj:=7) O O<|Ac O<|Ag (dj:=7) O O<|Aj O O (J8 t.x y t.s s _ c.1 hs) ?_
  rintro _ w ⟨rfl,a⟩
  have d:=d.bs a
  have c:=c.bs a
  have hs:=hs.bs a
  have b:=b.bs a
  refine B4 O<|Ab O<|Bc<|Ax O O ?_
  exact ⟨cngA Value.bool (show decide (t.s=s)=(tok t.s t.l && decide (t.s=s)) by rw [g];rfl),d⟩
 intro g
 refine Ae (dj:=7) O O O O<|Ae (dj:=7) O O O O<|Ae (dj:=7) O O O O<|Ae (dj:=7) O O O O<|Cn O<|Ab O<|Bc<|Ax O O ?_
 exact ⟨cngA Value.bool (show false=(tok t.s t.l && decide (t.s=s)) by rw [g];rfl),d⟩
theorem Tc (v:Value) (b:List N5) (W:World) (h:GN W v b) (C:CM b=1):
  AM prog 196 [.agg [v].toArray] W (fun r p=>Below W.heap.size W p∧∃i,∃D:i<b.length,r= .int .i64 (i:Int)∧(F1 b).headD default=b[i]):=by
 have x:=Below.refl W.heap.size W
 have F:=h.sl.le
 refine Bb (n:=19) func196 O<|Af<|B5 (cs:=[v]) O O O ?_
 rintro t w A m k -
 have x:=x.bs k
 have h:=h.bs k
 refine Ab O<|Bh<|Ab O<|Ak<|Ao ?_
 have d:=h.sl
 refine Bq (S:=Nat) (fun i=>[(1, .pointer (some ⟨t,0,none⟩)),(3, .int .i64 (i:Int))]) (fun i p=>i≤b.length∧(∀j (l:j<b.length),j<i→b[j].k≠1#8)∧Below w.heap.size w p) (fun i=>b.length - i) (0) ⟨rfl,rfl,trivial⟩ ?_ ?_
 ·exact ⟨Nat.zero_le _,fun j _ l=>absurd l (by omega),Below.refl _ _⟩
 rintro i G ⟨D,hall,k⟩
 have s:=bt x k
 have m:=m.bs k
 have h:=h.bs k
 have d:=h.sl
 refine An<|Af<|Ac O<|Be underlying64 O (CQ _)<|Aa (Ah (CZ _) O ‹_› rfl) O ?_
 refine Aa (Au BQ O ‹_›) O ?_
 refine B3 O<|Ak<|Aq O ?_ ?_
 ·intro g
  have c:i<b.length:=by have:=AD g;omega
  have y:=h.ad c
  have u:=(h.cell c).1
  refine B0<|An<|Ao<|Af<|Be underlying64 O (CQ _)<|Aa (Ah (CZ _) O ‹_› rfl) O ?_
  refine Ac O<|Aa (Ci BQ O O d i O c) O<|Aa (C2 (q:=0) underlying25 O (DF _) O y) O<|Aa (D1 (DG _) O d u) O<|Aa (Cl O (show _=some (b8 (1#8)) from rfl)) O<|Ak<|Aq O ?_ ?_
  ·intro f
   have f:b[i].k=1#8:=AD f
   exact Af<|Ac rfl<|Ab rfl<|Bc<|Bi<|Av<|Av<|Bi<|Av<|Ax rfl rfl<|⟨s,i,c,rfl,YM c f hall⟩
  intro f
  have f:b[i].k≠1#8:=AB f
  refine Cp<|Bn<|Ch<|Ac O<|B7 O (by omega)<|Ab O<|Bf ?_
  exact Ap (Pw.next (i+1) ⟨rfl,rfl,trivial⟩ (⟨c,fun j l o=>(Nat.lt_succ_iff_lt_or_eq.1 o).elim (hall j l) (fun e=>by subst e;exact f),k⟩) (by omega))
 intro g
 have c:i=b.length:=by have:=AB g;omega
 have B:F1 b=[]:=List.filter_eq_nil_iff.2 fun a E=>by
  obtain ⟨j,l,rfl⟩:=List.mem_iff_getElem.1 E
  have:=hall j l (by omega)
  simpa using this
 have z:(F1 b).length=1:=C
 rw [B] at z
 cases z
theorem Ps (v:Value) (a:List N5) (W:World) (h:GN W v a) (K:a.length≤1000000):
  AM prog 197 [.agg [v].toArray] W (fun r l=>Below W.heap.size W l∧BS (Value.int .i64) l r (EO a)):=by
 have x:=Below.refl W.heap.size W
 refine Bb (n:=24) func197 O<|Af<|B5 (cs:=[v]) O O O ?_
 rintro o w A m d -
 have x:=x.bs d
 have h:=h.bs d
 refine Ab O<|Bl<|Ab O<|Bh<|Ab O<|Ak<|Ao ?_
 have e:=h.sl
 refine Bq (S:=(Nat×Value)) (fun z=>[(1, .pointer (some ⟨o,0,none⟩)),(3,z.2),(4, .int .i64 (z.1:Int))]) (fun z l=>z.1≤a.length∧Below w.heap.size w l∧l.ownsRow w.heap.size 3 1 z.2 (EO (a.take z.1)).length ((EO (a.take z.1)).map (Value.int .i64))) (fun z=>a.length - z.1) ((0, .slice none 0 0)) ⟨rfl,rfl,rfl,trivial⟩ ?_ ?_
 ·exact ⟨Nat.zero_le _,Below.refl _ _,⟨rfl, .inl ⟨rfl,rfl⟩⟩⟩
 rintro ⟨i,u⟩ C ⟨B,d,b⟩
 replace B:i≤a.length:=B
 replace b:C.ownsRow w.heap.size 3 1 u (EO (a.take i)).length ((EO (a.take i)).map (Value.int .i64)):=b
 have m:=m.bs d
 have h:=h.bs d
 have e:=h.sl
 have G:=d.size
 have lt:=Lj (a.take i)
 have J:HU (a.take i)≤(a.take i).length:=length_filter_le ..
 have H:(a.take i).length≤a.length:=by rw [length_take];omega
 refine An<|Af<|Ac O<|Be underlying64 O (CQ _)<|Aa (Ah (CZ _) O ‹_› rfl) O ?_
 refine Aa (Au BQ O ‹_›) O ?_
 refine B3 O<|Ak<|Aq O ?_ ?_
 ·intro g
  have c:i<a.length:=by have:=AD g;omega
  have y:=h.ad c
  have t:=(h.cell c).1
  have k:=JY a i c
  have D:a.getD i default=a[i]:=by rw [getD_eq_getElem?_getD,getElem?_eq_getElem c];rfl
  rw [D] at k
  refine B0<|An<|Ao<|Af<|Be underlying64 O (CQ _)<|Aa (Ah (CZ _) O ‹_› rfl) O ?_
  refine Ac O<|Aa (Ci BQ O O e i O c) O<|Aa (C2 (q:=0) underlying25 O (DF _) O y) O<|Aa (D1 (DG _) O e t) O<|Aa (Cl O (show _=some (b8 (2#8)) from rfl)) O<|Ak<|Aq O ?_ ?_
  ·intro f
   have f:a[i].k=2#8:=AD f
   rw [if_pos f] at k
   refine Bw<|Ac O<|Ac O<|Bk (Dl (vs:=[(i:Int)].map (Value.int .i64)) AC DI O O O O O) O ?_
   rintro q L ⟨s, -,j, -⟩
   have b:=AL b j
   refine Bk (Dp (base:=w.heap.size) AC DI O (by decide) O O b (AI s) (DE (fun _=>rfl) _) (by omega) (by omega) (by have:=j.size;omega)) O ?_
   rintro E I ⟨b,p, -⟩
   have e2:(EO (a.take i)).map (Value.int .i64)++[(i:Int)].map (Value.int .i64)=(EO (a.take (i+1))).map (Value.int .i64):=by rw [k,map_append]
   have F:(EO (a.take i)).length+1=(EO (a.take (i+1))).length:=by rw [k,length_append];rfl
   rw [e2] at b
   refine Ab O<|Bf<|Bn<|Ch<|Ac O<|B7 O (by omega)<|Ab O<|Bf ?_
   exact Ap (Pw.next ((i+1,E)) ⟨rfl,rfl,rfl,trivial⟩ (⟨c,(d.trans (j.mono G)).trans p,by simp only;rw [← F];exact b⟩) (by simp only;omega))
  intro f
  have f:¬a[i].k=2#8:=AB f
  rw [if_neg f,append_nil] at k
  refine Cp<|Bn<|Ch<|Ac O<|B7 O (by omega)<|Ab O<|Bf ?_
  exact Ap (Pw.next ((i+1,u)) ⟨rfl,rfl,rfl,trivial⟩ (⟨c,d,by simp only;rw [k];exact b⟩) (by simp only;omega))
 intro g
 have c:i=a.length:=by have:=AB g;omega
 rw [c,take_length] at b
 exact Bp<|Al<|Al<|Bd<|Cm<|Ac rfl<|Ab rfl<|Bc<|Ax rfl rfl<|⟨bt x d,AQ b⟩
set_option maxHeartbeats 1000000 in
theorem Td (v:Value) (b:List N5) (u:Value) (ws:List T4) (t:T4) (W:World) (h:GN W v b) (y:CN W u ws) (K:t.at W):
  AM prog 107 [.agg [v].toArray,u,t.v] W (fun r L=>r= .bool (RH b (ws.map pv) (pv t))∧Below W.heap.size W L):=by
 have s:=Below.refl W.heap.size W
 obtain ⟨R,hR⟩:∃R,R=RH b (ws.map pv) (pv t):=⟨_,rfl⟩
 rw [← hR]
 have hwl:=y.1.le
 refine Bb (n:=52) func107 O<|Af<|B5 (cs:=[v]) O O O ?_
 rintro Z w eA_g o c -
 have s:=s.bs c
 have h:=h.bs c
 have y:=y.bs c
 have K:=K.bs c
 refine B5 (cs:=[t.x,t.y]) O O O ?_
 rintro A_t w eA_t V c -
 have s:=s.bs c
 have h:=h.bs c
 have y:=y.bs c
 have K:=K.bs c
 have o:=o.bs c
 refine Ab O<|Ak<|An<|An ?_
 rename World=>d
 refine Cw.any AS (fun w2 m _=> ?_)
 refine Dh (fun L=>Below d.heap.size d L) (fun hC=> ?_) (m)
 refine Cj (Am (Am Bo))<|Ai 0 O (fun d f=>B9 (FC _) (DR _) O O (AO.bs ‹_› f)) O<|Cb ?_
 refine AZ.only ‹_› (i:=1) (by kernel_rfl) O ?_
 refine Aj O O (Vj v b w2 (h.bs m)) ?_
 rintro _ w3 ⟨rfl,c⟩
 have m:=bt m c
 refine AZ.back<|Cj (Am (Am Bo))<|Ai 2 O (fun d f=>Ck O) O<|Ai 3 O (fun d f=>B6 O) O<|Cb ?_
 refine Fs 12 O ?_ ?_
 ·intro g
  have g:(ID b).isSome=false:=by simpa using g
  refine Db (i:=4) (dj:=12) (Am (Am Bo)) O O O O (by kernel_rfl) (by kernel_rfl) (by kernel_rfl) O<|Db (i:=5) (dj:=12) (Am (Am Bo)) O O O O (by kernel_rfl) (by kernel_rfl) (by kernel_rfl) O<|Db (i:=6) (dj:=12) (Am (Am Bo)) O O O O (by kernel_rfl) (by kernel_rfl) (by kernel_rfl) O<|Db (i:=7) (dj:=12) (Am (Am Bo)) O O O O (by kernel_rfl) (by kernel_rfl) (by kernel_rfl) O<|Db (i:=8) (dj:=12) (Am (Am Bo)) O O O O (by kernel_rfl) (by kernel_rfl) (by kernel_rfl) O<|Db (i:=9) (dj:=12) (Am (Am Bo)) O O O O (by kernel_rfl) (by kernel_rfl) (by kernel_rfl) O<|Db (i:=10) (dj:=12) (Am (Am Bo)) O O O O (by kernel_rfl) (by kernel_rfl) (by kernel_rfl) O<|Db (i:=11) (dj:=12) (Am (Am Bo)) O O O O (by kernel_rfl) (by kernel_rfl) (by kernel_rfl) O<|Db (i:=12) (dj:=12) (Am (Am Bo)) O O O O (by kernel_rfl) (by kernel_rfl) (by kernel_rfl) O<|Db (i:=13) (dj:=12) (Am (Am Bo)) O O O O (by kernel_rfl) (by kernel_rfl) (by kernel_rfl) O<|Cj (Am (Am Bo))<|Ai 14 O (fun d f=>Ct O O) O<|Cb<|Cu ‹_› (by kernel_rfl) ?_
  refine Ap<|B8<|Bz O<|Af<|Ab O<|Bu<|Ax O O ?_
  have I:R=false:=by rw [hR];unfold RH;rw [g];rfl
  rw [I]
  exact ⟨rfl,bt s m⟩
 intro g
 obtain ⟨T,N⟩:∃T,ID b=some T:=by
  cases e:ID b with
  |none=>rw [e] at g;cases g
  |some T=>exact ⟨T,rfl⟩
 obtain ⟨-,Q, -,hl32⟩:=JK N
 have x:R=(EN (pv t) ((F1 b).headD default).s && (decide ((F2 b).length=(ws.map pv).length) && H8 (ws.map pv) (F2 b))):=by rw [hR];unfold RH;rw [N];rfl
 refine Dt (i:=4) (dj:=12) (Am (Am Bo)) O O O (by kernel_rfl) (by kernel_rfl) (by kernel_rfl) (fun d f=>B9 (AT _) (AP _) O O (AO.bs ‹_› f)) O<|Dt (i:=5) (dj:=12) (Am (Am Bo)) O O O (by kernel_rfl) (by kernel_rfl) (by kernel_rfl) (fun d f=>Cd underlying64 O (CQ _)) O<|Dt (i:=6) (dj:=12) (Am (Am Bo)) O O O (by kernel_rfl) (by kernel_rfl) (by kernel_rfl) (fun d f=>Ah (CZ _) O (AO.bs ‹_› f) O) O<|Dt (i:=7) (dj:=12) (Am (Am Bo)) O O O (by kernel_rfl) (by kernel_rfl) (by kernel_rfl) (fun d f=>B9 (FC _) (DR _) O O (AO.bs ‹_› f)) O ?_
 refine AZ.only ‹_› (i:=8) (by kernel_rfl) O ?_
 refine Ag (dj:=12) O O<|Aj O O (Tc v b w3 (h.bs m) Q) ?_
 rintro _ w4 ⟨c,i,p,rfl,hF⟩
 have m:=bt m c
 have D:=h.ad p
 have C:=(h.cell p).2
 have hs:=(h.each _ (getElem_mem p)).s
 rw [hF] at x
 refine AZ.back<|Dt (i:=9) (dj:=12) (Am (Am Bo)) O O O (by kernel_rfl) (by kernel_rfl) (by kernel_rfl) (fun d f=>Ci BQ O O (h.sl.bs f) i O p) O<|Dt (i:=10) (dj:=12) (Am (Am Bo)) O O O (by kernel_rfl) (by kernel_rfl) (by kernel_rfl) (fun d f=>C2 (q:=0) underlying25 O (AN _) O D) O<|Dt (i:=11) (dj:=12) (Am (Am Bo)) O O O (by kernel_rfl) (by kernel_rfl) (by kernel_rfl) (fun d f=>D1 (AF _) O (h.sl.bs f) C) O<|AZ.only ‹_› (i:=12) (by kernel_rfl) O ?_
 refine Ag (dj:=12) O O<|Aj O O (QG t b[i].y b[i].s w4 (K.bs m) (hs.bs m)) ?_
 rintro _ w5 ⟨rfl,c⟩
 have m:=bt m c
 refine AZ.back<|Dt (i:=13) (dj:=12) (Am (Am Bo)) O O O (by kernel_rfl) (by kernel_rfl) (by kernel_rfl) (fun d f=>Ck O) O<|Cj (Am (Am Bo))<|Ai 14 O (fun d f=>Cz O O) O<|Cb<|Cu ‹_› (by kernel_rfl) ?_
 refine Ap<|B8<|Aq O ?_ ?_
 ·intro F
  have F:EN (pv t) b[i].s=false:=by simpa using F
  refine Af<|Ab O<|Bu<|Ax O O ?_
  have I:R=false:=by rw [x,F];rfl
  rw [I]
  exact ⟨rfl,bt s m⟩
 intro F
 have F:EN (pv t) b[i].s=true:=by simpa using F
 rw [F,Bool.true_and] at x
 have s:=bt s m
 have h:=h.bs m
 have y:=y.bs m
 have o:=o.bs m
 clear D C hs hF K V m
 refine Co<|Aa (B9 (FC _) (DR _) O O ‹_›) O ?_
 refine Aj O O (Ps v b w5 h (by omega)) ?_
 rintro q w6 ⟨c,B⟩
 have s:=bt s c
 have h:=h.bs c
 have y:=y.bs c
 have o:=o.bs c
 have H:=y.1
 have lq:(EO b).length=(F2 b).length:=Lj b
 refine Ab O<|Bh<|Ac O<|Aa (Au AC O ‹_›) O ?_
 refine Ac O<|Aa (Au AR O ‹_›) O ?_
 refine Aa (Cs O O) O<|Ak<|Aq O ?_ ?_
 ·intro A
  have A:¬(F2 b).length=(ws.map pv).length:=fun e=>by rw [length_map] at e;rw [lq,e] at A;simp at A
  refine Af<|Ab O<|Bu<|Ax O O ?_
  have I:R=false:=by rw [x,decide_eq_false A];rfl
  rw [I]
  exact ⟨rfl,s⟩
 intro A
 have A:(F2 b).length=ws.length:=by rw [lq] at A;simp at A;omega
 rw [decide_eq_true (by rw [length_map];exact A),Bool.true_and] at x
 have hz:=NR (ws:=ws.map pv) (xs:=F2 b) (by rw [length_map,A])
 have lF:(F2 b).length≤b.length:=length_filter_le ..
 refine B0<|An<|Af<|Ab O<|Ak<|Ao ?_
 refine Bq (S:=Nat) (fun j=>[(1,u),(3, .pointer (some ⟨Z,0,none⟩)),(7,q),(8, .int .i64 (j:Int))]) (fun j L=>j≤(EO b).length∧(∀i (p:i<(F2 b).length),i<j→EN ((ws.map pv).getD i ([],[])) (F2 b)[i].s=true)∧Below w6.heap.size w6 L) (fun j=>(EO b).length - j) (0) ⟨rfl,rfl,rfl,rfl,trivial⟩ ?_ ?_
 ·exact ⟨Nat.zero_le _,fun i _ p=>absurd p (by omega),Below.refl _ _⟩
 rintro j w7 ⟨hj,hall,c⟩
 have s:=bt s c
 have h:=h.bs c
 have y:=y.bs c
 have o:=o.bs c
 have H:=y.1
 have M:=h.sl
 have B:=B.bs c
 refine An<|Af<|Ac O<|Ac O<|Aa (Au AC O ‹_›) O ?_
 refine B3 O<|Ak<|Aq O ?_ ?_
 ·intro g4
  have z:j<(EO b).length:=by have:=AD g4;omega
  obtain ⟨i,p,ei,h2,eF⟩:=Wz z
  have G:j<ws.length:=by omega
  obtain ⟨a,ha,Y,c1,c2⟩:=Hi G
  have haw:=y.2 a Y
  have D:=h.ad p
  have C:=(h.cell p).2
  have hs:=(h.each _ (getElem_mem p)).s
  have eg:b.getD i default=b[i]:=by rw [getD_eq_getElem?_getD,getElem?_eq_getElem p];rfl
  have ea:(ws.map pv).getD j ([],[])=pv a:=by rw [getD_eq_getElem?_getD,getElem?_map,getElem?_eq_getElem G,← ha];rfl
  refine B0<|An<|Ao<|An<|Cw.tail 13 AS (by kernel_rfl)<|Bg O<|Bg O<|Ad (fun d l=>Ci AR O O (Sl.bs H l) j O G) O<|Ad (fun d l=>Cq (cs:=[a.x,a.y]) (AT _) (AP _) O (Sl.bs H l) O (by decide) (FA c1 c2)) O<|Ad (fun d l=>Cd underlying64 O (CQ _)) O<|Ad (fun d l=>Ah (CZ _) O (AO.bs ‹_› l) O) O ?_
  refine Bg O<|Bg O<|Ad (fun d l=>Ay AC O O (Sl.bs B l) j O z) O<|Ad (fun d l=>Ex.as (Bj (AK _) O (Sl.bs B l) z) (cngA (Value.int .i64) ei)) O<|Ad (fun d l=>Ci BQ O O (Sl.bs M l) i O p) O<|Ad (fun d l=>C2 (q:=0) underlying25 O (AN _) O D) O<|Ad (fun d l=>D1 (AF _) O (Sl.bs M l) C) O ?_
  refine Dc (fun w8 l=> ?_)
  refine Aj O O (QG a b[i].y b[i].s w8 (haw.bs l) (hs.bs l)) ?_
  rintro _ w9 ⟨rfl,E⟩
  have E:=bt l E
  refine Aa (Ck O) O<|Ak<|Aq O ?_ ?_
  ·intro J
   have J:EN (pv a) b[i].s=false:=by simpa using J
   have X:R=false:=by
    rw [x]
    cases f:H8 (ws.map pv) (F2 b) with
    |false=>rfl
    |true=>
     have:=hz.1 f j h2
     rw [ea,eF,eg,J] at this
     cases this
   refine Af<|Ab O<|Bc<|Bi<|Av<|Av<|Bi<|Av<|Ax O O ?_
   have I:R=false:=X
   rw [I]
   exact ⟨rfl,bt s E⟩
  intro J
  have J:EN (pv a) b[i].s=true:=by simpa using J
  refine Cp<|Bn<|Ch<|Ac O<|B7 O (by omega)<|Ab O<|Bf ?_
  exact Ap (Pw.next (j+1) ⟨rfl,rfl,rfl,rfl,trivial⟩ (⟨z,fun k hk U=>(Nat.lt_succ_iff_lt_or_eq.1 U).elim (hall k hk) (fun e=>by subst e;rw [ea,eF,eg];exact J),bt c E⟩) (by omega))
 intro g4
 have z:j=(EO b).length:=by have:=AB g4;omega
 have hY:R=true:=by
  rw [x]
  exact hz.2 fun i p=>hall i p (by omega)
 refine Bp<|Al<|Al<|Bd<|Cm<|Ab O<|Bc<|Ax O O ?_
 rw [hY]
 exact ⟨rfl,s⟩

structure Kq (W w:World) (ws:List T4) (t q:T4):Prop where
 at' :q.at w
 from' :q ∈ t::ws∨DU W w q.x q.y q.s q.l
theorem Kq.bs {W w a:World} {ws:List T4} {t q:T4} (h:Kq W w ws t q) (g:Below w.heap.size w a):Kq W a ws t q:=⟨h.at'.bs g,h.from'.imp id fun m=>m.bs g⟩
theorem Kq.ty {W w d:World} {ws:List T4} {t q:T4} {r:Option Nat} {T:TypeId} (h:Kq W w ws t q) (a:∀q ∈ t::ws,q.at W) (i:W.heap.size≤w.heap.size) (g:w.grownBy d r) (f:∀b,r=some b→W.heap.size≤b∧∃cs,AO w b T cs) (k:3≠T) (j:21≠T):Kq W d ws t q:=by
 rcases h.from' with m|m
 ·exact ⟨Hn (a q m) h.at' (AX _) (ET g i fun b e=>(f b e).1), .inl m⟩
 ·have c:=m.ty g (fun b e=>(f b e).2) k j
  exact ⟨c.at, .inr c⟩
set_option maxHeartbeats 1600000 in
theorem Tg (v:Value) (F:List N5) (u:Value) (ws:List T4) (t:T4) (W:World) (h:GN W v F) (hw:CN W u ws) (ht:t.at W):
  AM prog 24 [.agg [v].toArray,u,t.v] W (fun r w' =>Below W.heap.size W w' ∧match FW F (ws.map pv) (pv t) with
   |none=>r= .tuple #[.slice none 0 0, .int .i64 1]
   |some vs=>∃q ts,r= .tuple #[q, .int .i64 0]∧CN w' q ts∧(∀q ∈ ts,Kq W w' ws t q)∧ts.map pv=vs):=by
 obtain ⟨R,hR⟩:∃R,R=FW F (ws.map pv) (pv t):=⟨_,rfl⟩
 rw [← hR]
 have p:=Below.refl W.heap.size W
 have hwl:=hw.1.le
 have hat:∀q ∈ t::ws,q.at W:=fun q m=>(List.mem_cons.1 m).elim (fun e=>e ▸ ht) (hw.2 q)
 have D:=Up F (ws.map pv) (pv t)
 rw [← hR] at D
 refine Bb (n:=81) func24 O<|Af<|B5 (cs:=[v]) O O O ?_
 rintro A_g w eA_g H hn -
 have p:=p.bs hn
 have yg:=AH H
 refine B5 (cs:=[t.x,t.y]) O O O ?_
 rintro A_in w eA_in E hn -
 have p:=p.bs hn
 have H:=H.bs hn
 refine Ab O<|Ab O<|Bh<|Aa (B9 (FC _) (DR _) O O ‹_›) O ?_
 refine Ac O<|Aa (B9 (AT _) (AP _) O O ‹_›) O ?_
 have z0:=AA p
 refine Aj O O (Td v F u ws t w (h.bs p) (hw.bs p) (ht.bs p)) ?_
 rintro _ w1 ⟨rfl,hn1⟩
 have H:=H.bs hn1
 have E:=E.bs hn1
 have z1:=hn1.size
 have p:=p.trans (hn1.mono z0)
 rw [← D]
 refine Aa (Ck O) O<|Ak<|Aq O ?_ ?_
 ·intro g
  have g:R=none:=by
   cases hc:R with
   |none=>rfl
   |some V=>rw [hc] at g;cases g
  refine Af<|Ab O<|Ab O<|Bu<|Bx O O O ?_
  rw [g]
  exact ⟨p,rfl⟩
 intro g
 obtain ⟨V,hV⟩:∃V,R=some V:=by
  cases hc:R with
  |none=>rw [hc] at g;cases g
  |some V=>exact ⟨V,rfl⟩
 obtain ⟨⟨ss,hss⟩, -,hrec0, -⟩:=H2 (hR.symm.trans hV)
 obtain ⟨hgR, -, -,hl32⟩:=JK hss
 rw [hV]
 clear g hV hR D
 refine Co<|Ab O<|Bl<|Ab O<|Bh<|Ab O<|Ak<|Ao ?_
 refine Bq (S:=(Nat×Nat×List PV×Value×List T4)) (fun z=>[(1,u),(3, .pointer (some ⟨A_g,0,none⟩)),(5, .pointer (some ⟨A_in,0,none⟩)),(8,z.2.2.2.1),(9, .int .i64 (z.2.1:Int)),(10, .int .i64 (z.1:Int))]) (fun z w' =>z.1≤F.length∧Below W.heap.size W w' ∧Below w1.heap.size w1 w' ∧w'.ownsRow w1.heap.size Oc 2 z.2.2.2.1 z.2.2.2.2.length (cellsOf z.2.2.2.2)∧(∀q ∈ z.2.2.2.2,Kq W w' ws t q)∧z.2.2.2.2.length=z.1∧z.2.1≤ws.length∧(∀g ∈ z.2.2.1,g=pv t)∧FF (z.2.2.2.2.map pv) z.2.2.1 ((ws.map pv).drop z.2.1) (F.drop z.1)=some V) (fun z=>F.length - z.1) ((0,0,[pv t], .slice none 0 0,[])) ⟨rfl,rfl,rfl,rfl,rfl,rfl,trivial⟩ ?_ ?_
 ·exact ⟨Nat.zero_le _,p,Below.refl _ _,⟨rfl, .inl ⟨rfl,rfl⟩⟩,(fun q m=>absurd m not_mem_nil),rfl,Nat.zero_le _,(fun g hg=>List.mem_singleton.1 hg),hrec0⟩
 rintro ⟨i,U,gv,l,ts⟩ w4 ⟨hi,p,o,d,B,lts,hwi,D,a⟩
 dsimp only at hi p o d B lts hwi D a ⊢
 have H:=H.bs o
 have E:=E.bs o
 have h:=h.bs p
 have h_v:=h.sl
 have z4:=o.size
 refine An<|Af<|Ac O<|Be underlying64 O (CQ _)<|Aa (Ah (CZ _) O ‹_› rfl) O ?_
 refine Aa (Au BQ O ‹_›) O ?_
 refine B3 O<|Ak<|Aq O ?_ ?_
 ·intro gi
  have C:i<F.length:=by have:=AD gi;omega
  obtain ⟨x,Y⟩:∃x,x=F[i]:=⟨_,rfl⟩
  have hx:=h.each x (Y ▸ getElem_mem C)
  have hcl:=h.cells C
  rw [← Y] at hcl
  have ed:F.drop i=x::F.drop (i+1):=by rw [drop_eq_getElem_cons C,← Y]
  have hji:=N2 F [] ss hgR i C
  rw [← Y] at hji
  have hi4:=Kv (Ix F [] ss hgR x (Y ▸ getElem_mem C))
  rw [ed] at a
  refine B0<|An<|Ao<|Af<|Be underlying64 O (CQ _)<|Aa (Ah (CZ _) O ‹_› rfl) O ?_
  refine Ac O<|Aa (Ci BQ O O h_v i O C) O<|Aa (Cq (cs:=x.cells) (EM _) (EJ _) O h_v O (by decide) hcl) O<|C1 (cs:=x.cells) GD O O O O (fun _=>rfl) (hx.ones) ?_
  rintro A_n w5 eA_n b_n J zhn5
  have p:=bt p J
  have o:=bt o J
  have H:=H.bs J
  have E:=E.bs J
  have hx:=hx.bs J
  have d:=AL d J
  have B:∀q ∈ ts,Kq W w5 ws t q:=fun q m=>(B q m).bs J
  have z5:=o.size
  clear h_v J
  refine Bh<|Be underlying25 O (DF _)<|Aa (Ah (DG _) O ‹_› rfl) O ?_
  refine Aa (Cl O (show _=some (b8 (1#8)) from rfl)) O<|Ak<|Aq O ?_ ?_
  ·intro g1
   have g1:x.k=1#8:=AD g1
   simp only [FF,if_pos g1] at a
   cases gv with
   |nil=>cases a
   |cons g gv' =>
   obtain rfl:=D g (by simp)
   have a:FF (ts.map pv++[pv t]) gv' ((ws.map pv).drop U) (F.drop (i+1))=some V:=by
    have a:(if EN (pv t) x.s then FF (ts.map pv++[pv t]) gv' ((ws.map pv).drop U) (F.drop (i+1)) else none)=some V:=a
    split at a
    ·exact a
    ·cases a
   obtain ⟨c,hc⟩:∃c,c=t:=⟨_,rfl⟩
   have K:Kq W w5 ws t c:=by rw [hc];exact ⟨ht.bs p, .inl (by simp)⟩
   have D:∀g ∈ gv',g=pv t:=fun g hg=>D g (by simp [hg])
   rw [← hc] at E
   have ec:pv t=pv c:=by rw [hc]
   rw [ec] at a
   refine Af<|Ac O<|Aa (B9 (AT _) (AP _) O O ‹_›) O ?_
   have c1:[c.x,c.y].all (·.oneCell')=true:=K.at'.one
   refine Bk (Dw (cs:=[c.x,c.y]) AR AY O O (by decide) (by decide)) O ?_
   rintro q wv ⟨A, -,f, -⟩
   have zv:=f.size
   have d:=AL d f
   have B:∀q ∈ ts++[c],Kq W wv ws t q:=fun q m=>(List.mem_append.1 m).elim (fun m=>(B q m).bs f) (fun m=>by rw [List.mem_singleton.1 m];exact K.bs f)
   refine Bk (Di (base:=w1.heap.size) AR AY O (by decide) O O d (AI A) c1 (by omega) (by omega) (by omega)) O ?_
   rintro l' wu ⟨s,I,hgu, -⟩
   have e1:cellsOf ts++[c.x,c.y]=cellsOf (ts++[c]):=by rw [DP];rfl
   have e2:ts.length+1=(ts++[c]).length:=by rw [length_append];rfl
   rw [e1,e2] at s
   have B:∀q ∈ ts++[c],Kq W wu ws t q:=fun q m=>(B q m).ty hat (by omega) hgu (fun b e=>⟨by have:=(AG d b e).1;omega,Jl d e⟩) (by decide) (by decide)
   have p:=(bt p f).trans (I.mono (by omega))
   have o:=(bt o f).trans I
   have l2:(ts++[c]).length=i+1:=by rw [length_append,lts];rfl
   have Z:(ts++[c]).map pv=ts.map pv++[pv c]:=by rw [map_append];rfl
   rw [← Z] at a
   refine Ab O<|Ak<|Bp<|Al<|Bd<|Ch<|Ac O<|B7 O (by omega)<|Ab O<|Bf ?_
   exact Ap (Pw.next ((i+1,U,gv',l',ts++[c])) ⟨rfl,rfl,rfl,rfl,rfl,rfl,trivial⟩ (⟨C,p,o,s,B,l2,hwi,D,a⟩) (by simp only;omega))
  intro g1
  have g1:¬x.k=1#8:=AB g1
  simp only [FF,if_neg g1] at a
  refine B0<|An<|Af<|Be underlying25 O (DF _)<|Aa (Ah (DG _) O ‹_› rfl) O ?_
  refine Aa (Cl O (show _=some (b8 (2#8)) from rfl)) O<|Ak<|Aq O ?_ ?_
  ·intro g2
   have g2:x.k=2#8:=AD g2
   simp only [if_pos g2] at a
   have Q:U<ws.length:=by
    rcases Nat.lt_or_ge U ws.length with hh|hh
    ·exact hh
    ·rw [drop_of_length_le (by rw [length_map];exact hh)] at a
     cases a
   obtain ⟨c,hc,hcm,c1,c2⟩:=Hi Q
   have ew:(ws.map pv).drop U=pv c::(ws.map pv).drop (U+1):=by
    rw [drop_eq_getElem_cons (by rw [length_map];exact Q)]
    congr 1
    rw [getElem_map,← hc]
   rw [ew] at a
   have a:FF (ts.map pv++[pv c]) gv ((ws.map pv).drop (U+1)) (F.drop (i+1))=some V:=by
    have a:(if EN (pv c) x.s then FF (ts.map pv++[pv c]) gv ((ws.map pv).drop (U+1)) (F.drop (i+1)) else none)=some V:=a
    split at a
    ·exact a
    ·cases a
   have K:Kq W w5 ws t c:=⟨(hw.2 c hcm).bs p, .inl (by simp [hcm])⟩
   have hws:=(hw.bs p).1
   refine Af<|Ac O<|Ac O<|Ac O<|Aa (Ci AR O O hws U O Q) O<|Aa (Cq (cs:=[c.x,c.y]) (AT _) (AP _) O hws O (by decide) (FA c1 c2)) O ?_
   have c1:[c.x,c.y].all (·.oneCell')=true:=K.at'.one
   refine Bk (Dw (cs:=[c.x,c.y]) AR AY O O (by decide) (by decide)) O ?_
   rintro q wv ⟨A, -,f, -⟩
   have zv:=f.size
   have d:=AL d f
   have B:∀q ∈ ts++[c],Kq W wv ws t q:=fun q m=>(List.mem_append.1 m).elim (fun m=>(B q m).bs f) (fun m=>by rw [List.mem_singleton.1 m];exact K.bs f)
   refine Bk (Di (base:=w1.heap.size) AR AY O (by decide) O O d (AI A) c1 (by omega) (by omega) (by omega)) O ?_
   rintro l' wu ⟨s,I,hgu, -⟩
   have e1:cellsOf ts++[c.x,c.y]=cellsOf (ts++[c]):=by rw [DP];rfl
   have e2:ts.length+1=(ts++[c]).length:=by rw [length_append];rfl
   rw [e1,e2] at s
   have B:∀q ∈ ts++[c],Kq W wu ws t q:=fun q m=>(B q m).ty hat (by omega) hgu (fun b e=>⟨by have:=(AG d b e).1;omega,Jl d e⟩) (by decide) (by decide)
   have p:=(bt p f).trans (I.mono (by omega))
   have o:=(bt o f).trans I
   have l2:(ts++[c]).length=i+1:=by rw [length_append,lts];rfl
   have Z:(ts++[c]).map pv=ts.map pv++[pv c]:=by rw [map_append];rfl
   rw [← Z] at a
   refine Ab O<|Bl<|Ac O<|B7 O (by omega)<|Ab O<|Ak<|Bp<|Al<|Bd<|Ch<|Ac O<|B7 O (by omega)<|Ab O<|Bf ?_
   exact Ap (Pw.next ((i+1,U+1,gv,l',ts++[c])) ⟨rfl,rfl,rfl,rfl,rfl,rfl,trivial⟩ (⟨C,p,o,s,B,l2,Q,D,a⟩) (by simp only;omega))
  intro g2
  have g2:¬x.k=2#8:=AB g2
  simp only [if_neg g2] at a
  have hd:GQ x (Gz (ts.map pv) x)=0:=by
   split at a
   ·assumption
   ·cases a
  rw [if_pos hd] at a
  obtain ⟨ins,N⟩:∃ins:List T4,ins=x.i.map fun j=>ts.getD j.toNat default:=⟨_,rfl⟩
  have lins:ins.length=x.i.length:=by rw [N,length_map]
  have hnorm:ins.map Ks=Gz (ts.map pv) x:=by
   rw [N,map_map]
   unfold Gz
   refine map_congr_left fun j hj=> ?_
   have hb:=hji j hj
   simp only [length_nil,Nat.zero_add] at hb
   show Ks (ts.getD j.toNat default)=_
   unfold Ks
   congr 1
   rw [getD_eq_getElem?_getD,getD_eq_getElem?_getD,getElem?_map,getElem?_eq_getElem (by omega)];rfl
  obtain ⟨dn1,dn2⟩:=Rb x ins
  rw [hnorm] at dn1 dn2
  have hdi:GQ x ins=0:=by rw [← dn1];exact hd
  obtain ⟨es1,el1⟩:=dn2 hdi
  rw [es1,el1] at a
  have h_i:=hx.i
  refine Co<|Ab O<|Bh<|Ab O<|Ak<|Ao ?_
  refine Bq (S:=(Nat×Value)) (fun y=>[(1,u),(3, .pointer (some ⟨A_g,0,none⟩)),(5, .pointer (some ⟨A_in,0,none⟩)),(8,l),(9, .int .i64 (U:Int)),(10, .int .i64 (i:Int)),(11, .pointer (some ⟨A_n,0,none⟩)),(12,y.2),(13, .int .i64 (y.1:Int))]) (fun y w' =>y.1≤x.i.length∧Below w5.heap.size w5 w' ∧w'.ownsRow w5.heap.size Oc 2 y.2 y.1 (cellsOf (ins.take y.1))) (fun y=>x.i.length - y.1) ((0, .slice none 0 0)) ⟨rfl,rfl,rfl,rfl,rfl,rfl,rfl,rfl,rfl,trivial⟩ ?_ ?_
  ·exact ⟨Nat.zero_le _,Below.refl _ _,⟨rfl, .inl ⟨rfl,rfl⟩⟩⟩
  clear h_i
  rintro ⟨j,iq⟩ w6 ⟨hj,G,A⟩
  dsimp only at hj G A ⊢
  have hx:=hx.bs G
  have h_i:=hx.i
  have b_n:=b_n.bs G
  have o_l6:=AL d G
  have sl_l:=AI o_l6
  have z6:=G.size
  refine An<|Af<|Ac O<|Be underlying25 O (AN _)<|Aa (Ah (AF _) O ‹_› rfl) O ?_
  refine Aa (Au AC O ‹_›) O ?_
  refine B3 O<|Ak<|Aq O ?_ ?_
  ·intro gj
   have M:j<x.i.length:=by have:=AD gj;omega
   obtain ⟨k,hk⟩:∃k,k=x.i.getD j default:=⟨_,rfl⟩
   have hkm:k ∈ x.i:=by rw [hk];exact EU M
   have hkb:=hji k hkm
   simp only [length_nil,Nat.zero_add] at hkb
   have L:k.toNat<ts.length:=by omega
   obtain ⟨q,m⟩:∃q,q=ts[k.toNat]:=⟨_,rfl⟩
   have hqm:q ∈ ts:=by rw [m];exact getElem_mem L
   have hqat:=((B q hqm).bs G).at'
   have hqc:=BN L
   rw [← m] at hqc
   have einq:ins[j]'(by omega)=q:=by
    simp only [N,getElem_map]
    have ek:x.i[j]=k:=by rw [hk,getD_eq_getElem?_getD,getElem?_eq_getElem M];rfl
    rw [ek,m,getD_eq_getElem?_getD,getElem?_eq_getElem L];rfl
   have Hf:[q.x,q.y].all (·.oneCell')=true:=hqat.one
   refine B0<|An<|Ao<|Bw<|Ac O<|Ac O<|Be underlying25 O (AN _)<|Aa (Ah (AF _) O ‹_› rfl) O ?_
   refine Ac O<|Aa (Ay AC O O h_i j O M) O<|Aa (Ex.as (Bj (AK _) O h_i M) (cngA (Value.int .i64) hk.symm)) O<|Aa (Ci AR O O sl_l k.toNat (show k=((k.toNat:Nat):Int) by omega) L) O<|Aa (Cq (cs:=[q.x,q.y]) (AT _) (AP _) O sl_l O (by decide) hqc) O<|Bk (Dw (cs:=[q.x,q.y]) AR AY O O (by decide) (by decide)) O ?_
   rintro lq w7 ⟨o_lq, -,X, -⟩
   have A:=AL A X
   have z7:=X.size
   refine Bk (Di (base:=w5.heap.size) AR AY O (by decide) O O A (AI o_lq) Hf (by omega) (by omega) (by omega)) O ?_
   rintro iq' w8 ⟨o_q',hn8, -, -⟩
   have e1:cellsOf (ins.take j)++[q.x,q.y]=cellsOf (ins.take (j+1)):=by
    rw [take_succ_eq_append_getElem (by omega),DP,einq];rfl
   rw [e1] at o_q'
   refine Ab O<|Bf<|Bn<|Ch<|Ac O<|B7 O (by omega)<|Ab O<|Bf ?_
   exact Ap (Pw.next ((j+1,iq')) ⟨rfl,rfl,rfl,rfl,rfl,rfl,rfl,rfl,rfl,trivial⟩ (⟨M,(bt G X).trans hn8,o_q'⟩) (by simp only;omega))
  intro gj
  have M:j=x.i.length:=by have:=AB gj;omega
  subst M
  rw [← lins,take_length] at A
  have hT:CN w6 iq ins:=⟨AI A,fun q m=>by
   rw [N] at m
   obtain ⟨k,hk,rfl⟩:=List.mem_map.1 m
   have hkb:=hji k hk
   simp only [length_nil,Nat.zero_add] at hkb
   have L:k.toNat<ts.length:=by omega
   have e:ts.getD k.toNat default=ts[k.toNat]:=by rw [getD_eq_getElem?_getD,getElem?_eq_getElem L];rfl
   rw [e]
   exact ((B _ (getElem_mem L)).bs G).at'⟩
  refine Bp<|Al<|Al<|Bd<|Cm<|Aa (B9 (k:=5) (EM _) (EJ _) O O b_n) O<|Ac O<|Aj O O (Ym x iq ins w6 hx hT) ?_
  rintro _ w7 ⟨X,c,rfl,hcat, -,hcyes⟩
  obtain ⟨cs1,cl1,hM⟩:=hcyes hdi
  have z7:=X.size
  have hn7' :=bt G X
  have cpv:pv c=(Gu x.k x ins,G8 x.k x ins):=by unfold pv;rw [cs1,cl1]
  rw [← cpv] at a
  have cmk:DU W w7 c.x c.y c.s c.l:=by
   rw [cs1,cl1]
   exact hM.mono (by omega)
  have o1:=hcat.one
  refine Ac O<|Aa (As (i:=0) O O) O<|Aa (As (i:=1) O O) O<|C1 (cs:=[c.x,c.y]) AY O O O O (fun _=>rfl) (o1) ?_
  rintro A_c w8 eA_c b_c hn8 zhn8
  have T:=bt hn7' hn8
  have K:Kq W w8 ws t c:=⟨hcat.bs hn8, .inr (cmk.bs hn8)⟩
  have p:=bt p T
  have o:=bt o T
  have d:=AL d T
  have B:∀q ∈ ts,Kq W w8 ws t q:=fun q m=>(B q m).bs T
  have z8:=o.size
  refine Ab O<|Ak<|Bw<|Ac O<|Aa (B9 (AT _) (AP _) O O ‹_›) O ?_
  have c1:[c.x,c.y].all (·.oneCell')=true:=K.at'.one
  refine Bk (Dw (cs:=[c.x,c.y]) AR AY O O (by decide) (by decide)) O ?_
  rintro q wv ⟨A, -,f, -⟩
  have zv:=f.size
  have d:=AL d f
  have B:∀q ∈ ts++[c],Kq W wv ws t q:=fun q m=>(List.mem_append.1 m).elim (fun m=>(B q m).bs f) (fun m=>by rw [List.mem_singleton.1 m];exact K.bs f)
  refine Bk (Di (base:=w1.heap.size) AR AY O (by decide) O O d (AI A) c1 (by omega) (by omega) (by omega)) O ?_
  rintro l' wu ⟨s,I,hgu, -⟩
  have e1:cellsOf ts++[c.x,c.y]=cellsOf (ts++[c]):=by rw [DP];rfl
  have e2:ts.length+1=(ts++[c]).length:=by rw [length_append];rfl
  rw [e1,e2] at s
  have B:∀q ∈ ts++[c],Kq W wu ws t q:=fun q m=>(B q m).ty hat (by omega) hgu (fun b e=>⟨by have:=(AG d b e).1;omega,Jl d e⟩) (by decide) (by decide)
  have p:=(bt p f).trans (I.mono (by omega))
  have o:=(bt o f).trans I
  have l2:(ts++[c]).length=i+1:=by rw [length_append,lts];rfl
  have Z:(ts++[c]).map pv=ts.map pv++[pv c]:=by rw [map_append];rfl
  rw [← Z] at a
  refine Ab O<|Bf<|Bn<|Ch<|Ac O<|B7 O (by omega)<|Ab O<|Bf ?_
  exact Ap (Pw.next ((i+1,U,gv,l',ts++[c])) ⟨rfl,rfl,rfl,rfl,rfl,rfl,trivial⟩ (⟨C,p,o,s,B,l2,hwi,D,a⟩) (by simp only;omega))
 intro gi
 have C:i=F.length:=by have:=AB gi;omega
 subst C
 rw [drop_length] at a
 have hV2:ts.map pv=V:=Option.some.inj a
 exact Bp<|Al<|Al<|Bd<|Cm<|Ac rfl<|Ab rfl<|Ab rfl<|Bc<|Bx rfl rfl rfl<|⟨p,l,ts,rfl,⟨AI d,fun q m=>(B q m).at'⟩,B,hV2⟩
theorem WO (v:Value) (z:List N5) (u:Value) (ws:List T4) (t:T4) (W:World) (h:GN W v z) (S:CN W u ws) (N:t.at W):
  AM prog 22 [.agg [v].toArray,u,t.v] W (fun r L=>Below W.heap.size W L∧match FW z (ws.map pv) (pv t) with
   |none=>r= .tuple #[.agg #[.slice none 0 0, .slice none 0 0], .int .i64 1]
   |some vs=>∃c:T4,r= .tuple #[c.v, .int .i64 0]∧c.at L∧pv c=K6 vs):=by
 have g:=Below.refl W.heap.size W
 obtain ⟨R,J⟩:∃R,R=FW z (ws.map pv) (pv t):=⟨_,rfl⟩
 rw [← J]
 refine Bb (n:=27) func22 O<|Af<|B5 (cs:=[v]) O O O ?_
 rintro A_g w Q d l -
 have g:=g.bs l
 have yg:=AH d
 refine B5 (cs:=[t.x,t.y]) O O O ?_
 rintro T w H f l -
 have g:=g.bs l
 have d:=d.bs l
 have yi:=AH f
 refine Cx AY O ?_
 rintro Z w X a l -
 have g:=g.bs l
 have d:=d.bs l
 have f:=f.bs l
 refine Ab O<|Bl<|Aa (B9 (FC _) (DR _) O O ‹_›) O ?_
 refine Ac O<|Aa (B9 (AT _) (AP _) O O ‹_›) O ?_
 have z0:=AA g
 have yr:=AH a
 refine Aj O O (Tg v z u ws t w (h.bs g) (S.bs g) (N.bs g)) ?_
 rintro r w1 ⟨o,C⟩
 rw [← J] at C
 have a:=a.bs o
 have z1:=o.size
 have x:=g.trans (o.mono z0)
 cases eR:R with
 |none=>
  rw [eR] at C
  obtain rfl:=C
  refine Ac O<|Aa (As (i:=0) O O) O<|Aa (As (i:=1) O O) O<|Ab O<|Ab O<|Bh<|Ac O<|Aa (Cs O O) O<|Ak<|Ca O true (rfl)<|Af<|C8 O<|Ac O<|Az (Bv (cs:=[.slice none 0 0, .slice none 0 0]) (k:=2) (by kernel_rfl) O O O O a O) ?_
  rintro Y ⟨a,y,hz⟩
  have s:=x.grown y (by omega) (by rintro _ e;have:=Option.some.inj e;omega)
  refine Ab O<|Bu<|Bt O O O ‹_› underlying33 O O O ?_
  exact ⟨s,rfl⟩
 |some vs=>
  rw [eR] at C
  obtain ⟨q,ts,rfl,hT,hM,V⟩:=C
  obtain ⟨⟨ss,D⟩, -, -,F⟩:=H2 (J.symm.trans eR)
  have lts:ts.length=z.length:=by rw [← F,← V,length_map]
  have hl1:=(JK D).2.2.1
  have M:=(JK D).2.2.2
  have j:ts.length - 1<ts.length:=by omega
  obtain ⟨c,K⟩:∃c,c=ts[ts.length - 1]:=⟨_,rfl⟩
  have E:c ∈ ts:=K ▸ getElem_mem j
  have p:=hM c E
  have A:=BN j
  rw [← K] at A
  have c1:[c.x,c.y].all (·.oneCell')=true:=p.at'.one
  have B:=hT.1
  refine Ac O<|Aa (As (i:=0) O O) O<|Aa (As (i:=1) O O) O<|Ab O<|Ab O<|Bh<|Ac O<|Aa (Cs O O) O<|Ak<|Ca O false (rfl)<|Co<|Ac O<|Ac O<|Aa (Au AR O ‹_›) O ?_
  refine Aa (Ex.as (Du O O (by omega)) (cngA (Value.int .i64) (show (ts.length:Int) - 1=((ts.length - 1:Nat):Int) by omega))) O<|Aa (Ci AR O O B (ts.length - 1) O j) O<|Aa (Cq (cs:=[c.x,c.y]) (AT _) (AP _) O B O (by decide) A) O<|Az (Bv (cs:=[c.x,c.y]) (k:=2) (by kernel_rfl) O O O c1 a O) ?_
  rintro Y ⟨U,y,hz⟩
  have s:=x.grown y (by omega) (by rintro _ e;have:=Option.some.inj e;omega)
  have I:c.at Y:=by
   rcases p.from' with m|m
   ·have G:c.at W:=(List.mem_cons.1 m).elim (fun e=>e ▸ N) (S.2 c)
    exact Hn G p.at' (AX _) (ET y (by omega) (by rintro _ e;have:=Option.some.inj e;omega))
   ·exact (m.ty y (fun b e=>by cases e;exact ⟨_,a⟩) (by decide) (by decide)).at
  have hp:pv c=K6 vs:=by
   unfold K6
   rw [← V,length_map,getD_eq_getElem?_getD,getElem?_map,getElem?_eq_getElem j,← K];rfl
  refine Ab O<|Bc<|Bt O O O ‹_› underlying33 O O O ?_
  exact ⟨s,c,rfl,I,hp⟩
end Go.Proofs.YtmipoeanpnnjoaaGreatDoor

namespace Go.Proofs.YtmipoeanpnnjoaaGreatDoor
open Go Go.Dd Go.RowKit Go.ChangeShapes Go.WideShapes List Go.Proofs.Tryz
set_option maxRecDepth 100000
theorem W8 {α:Type} {l:List α} (h:l.length=2):∃a b,l=[a,b]:=by
 match l,h with
 |[a,b],_=>exact ⟨a,b,rfl⟩
theorem TB {H:Type} {enc:TypeId×Value→H} {w:World} {cs:List Value} (h:In enc prog w 33 cs):∃a:T4,cs=[a.x,a.y]∧a.at w∧a.s.length≤17592186044416∧a.l.length≤35184372088832:=by
 obtain ⟨b,c⟩:=h.struct underlying33
 have f:Tryz.prog.cellsOf 33=2:=by kernel_rfl
 have o:Tryz.prog.cellsOf 23=1:=by kernel_rfl
 have k:Tryz.prog.cellsOf 31=1:=by kernel_rfl
 rw [f] at b
 obtain ⟨x,y,rfl⟩:=W8 b
 obtain ⟨q,s,d,n,g⟩:=(c 0 _ rfl).slT Q2 (by kernel_rfl) (fun cs h=>(In.int NW h).imp fun _ h=>h.1)
 obtain ⟨r,l,e1,m,j⟩:=(c 1 _ rfl).slT Wh (by kernel_rfl) (fun cs h=>In.num (BitVec.ofInt 32) i32 (fun _ h=>W6 h) M1 h)
 have i:Tryz.prog.bytesOf 3=8:=by kernel_rfl
 have e:Tryz.prog.bytesOf 21=4:=by kernel_rfl
 rw [i] at g
 rw [e] at j
 simp [o,k] at d e1
 subst d e1
 have p:reachBytes≤140737488355328:=by decide
 exact ⟨⟨x,y,s,l⟩,rfl,⟨n,m⟩,by simp only;omega,by simp only;omega⟩

def Mu (a:T4):Prop:=a.s.length≤1125899906842624∧a.l.length≤1125899906842624
theorem Q9 {H:Type} {enc:TypeId×Value→H} {w:World}:∀{n:Nat} {xs:List Value},xs.length=n*2→(∀i,i<n→In enc prog w 33 ((xs.drop (i*2)).take 2))→
  ∃ts:List T4,ts.length=n∧cellsOf ts=xs∧∀t ∈ ts,t.at w∧Mu t
 |0,xs,hl,_=>by
  obtain rfl:xs=[]:=eq_nil_of_length_eq_zero (by omega)
  exact ⟨[],rfl,rfl,fun t b=>by simp at b⟩
 |n+1,[],hl,_=>by simp at hl
 |n+1,[_],hl,_=>by simp at hl;omega
 |n+1,x::y::xs,hl,h=>by
  obtain ⟨a,c,d,j,k⟩:=TB (h 0 (by omega))
  obtain ⟨ts,f,e,g⟩:=Q9 (n:=n) (xs:=xs) (by simp at hl;omega) fun i l=>by
   have:=h (i+1) (by omega)
   rw [show (i+1)*2=i*2+1+1 by omega] at this
   simpa using this
  simp at c
  refine ⟨a::ts,by simp [f],by rw [cellsOf,e,c.1,c.2],fun t b=> ?_⟩
  rcases List.mem_cons.1 b with rfl|b
  ·exact ⟨d,by omega,by omega⟩
  ·exact g t b
theorem V6 {H:Type} {enc:TypeId×Value→H} {w:World} {cs:List Value} (h:In enc prog w 26 cs):∃v,cs=[v]∧∃ts:List T4,CN w v ts∧ts.length≤1125899906842624∧∀t ∈ ts,Mu t:=by
 obtain ⟨v,n,xs,e,hs,f,i⟩:=h.slice XY (sz:=2) (by kernel_rfl)
 obtain ⟨ts,d,c,b⟩:=Q9 hs.len i
 subst d c
 have j:reachBytes≤140737488355328:=by decide
 have g:Tryz.prog.bytesOf 33=48:=by kernel_rfl
 rw [g] at f
 exact ⟨v,e,ts,⟨hs,fun t a=>(b t a).1⟩,by omega,fun t a=>(b t a).2⟩
def J0:Int→List Int→Int
 |n,[]=>n
 |n,x::l=>if n≤1048576 then J0 (n+x) l else n
theorem Jc:∀{l:List Int} {n:Int},(∀x ∈ l,0≤x)→n≤J0 n l
 |[],n,_=>Int.le_refl _
 |x::l,n,h=>by
  unfold J0
  split
  ·have:=Jc (n:=n+x) fun y a=>h y (mem_cons_of_mem _ a)
   have:=h x (by simp)
   omega
  ·exact Int.le_refl _
theorem Lo:∀{l:List Int} {n:Int},(∀x ∈ l,0≤x)→J0 n l≤1048576→∀x ∈ l,n+x≤J0 n l
 |[],_,_,_,x,a=>by simp at a
 |y::l,n,h,hle,x,a=>by
  have b:∀z ∈ l,0≤z:=fun z c=>h z (mem_cons_of_mem _ c)
  have d:=Jc (n:=n) h
  have e:J0 n (y::l)=J0 (n+y) l:=by
   show (if n≤1048576 then J0 (n+y) l else n)=_
   rw [if_pos (by omega)]
  rw [e] at hle ⊢
  rcases List.mem_cons.1 a with rfl|a
  ·exact Jc b
  ·have:=Lo b hle x a
   have:=h y (by simp)
   omega
theorem Jz (s:List Int) (l:List (BitVec 32)):1≤Jx s l:=by unfold Jx;split<;>omega
theorem Q6 {a:T4} (h:Mu a):Jx a.s a.l≤4503599627370496:=by have b:=h.1;have c:=h.2;unfold Jx;split<;>omega
theorem Ob {l:List Int} {i:Nat} {n:Int} (a:i<l.length):J0 n (l.drop i)=if n≤1048576 then J0 (n+l.getD i default) (l.drop (i+1)) else n:=by
 rw [drop_eq_getElem_cons a]
 simp only [J0,getD_eq_getElem?_getD,getElem?_eq_getElem a,Option.getD_some]
theorem Pj {ts:List T4} {j:Nat} (h:j<ts.length):∀i,i<2→∃q,[ts[j].x,ts[j].y][i]? =some q∧(cellsOf ts)[j*2+i]? =some q:=FA (CW h).1 (CW h).2
theorem Sp (v:Value) (ts:List T4) (w:World) (h:CN w v ts) (E:ts.length≤1125899906842624) (B:∀t ∈ ts,Mu t):AM prog 6 [v] w (fun r m=>r= .int .i64 (J0 (ts.length:Int) (ts.map fun t=>Jx t.s t.l))∧Below w.heap.size w m):=by
 have f:=h.1
 have G:=f.le
 obtain ⟨T,u⟩:∃T,T=J0 (ts.length:Int) (ts.map fun t=>Jx t.s t.l):=⟨_,rfl⟩
 rw [← u]
 refine Bb (n:=25) func6 O<|Af<|Ab O<|Bl<|Ac O<|Aa (Au AR O ‹_›) O ?_
 refine Ab O<|Bh<|Ab O<|Ak<|Ao ?_
 refine Bq (S:=(Nat×Int)) (fun p=>[(0,v),(3, .int .i64 p.2),(4, .int .i64 (p.1:Int))]) (fun p m=>p.1≤ts.length∧0≤p.2∧p.2≤1125899906842624+4503599627370496+1048576∧J0 p.2 ((ts.map fun t=>Jx t.s t.l).drop p.1)=T∧Below w.heap.size w m) (fun p=>ts.length - p.1) ((0,(ts.length:Int))) ⟨rfl,rfl,rfl,trivial⟩ ?_ ?_
 ·exact ⟨Nat.zero_le _,by simp only;omega,by simp only;omega,u.symm,Below.refl _ _⟩
 rintro ⟨i,n⟩ A ⟨y,s,x,c,k⟩
 replace y:i≤ts.length:=y
 replace s:0≤n:=s
 replace x:n≤1125899906842624+4503599627370496+1048576:=x
 replace c:J0 n ((ts.map fun t=>Jx t.s t.l).drop i)=T:=c
 have f:=f.bs k
 refine An<|Af<|Ac O<|Ac O<|Aa (Au AR O ‹_›) O ?_
 refine B3 O<|Ac O ?_
 refine Cc 11 O ?_ ?_
 ·intro g
  have b:i<ts.length:=by have:=AD g;omega
  have e1:=Ob (n:=n) (l:=ts.map fun t=>Jx t.s t.l) (i:=i) (by rw [length_map];exact b)
  obtain ⟨a,q⟩:∃a,a=ts[i]:=⟨_,rfl⟩
  have e2:(ts.map fun t=>Jx t.s t.l).getD i default=Jx a.s a.l:=by rw [getD_eq_getElem?_getD,getElem?_map,getElem?_eq_getElem b,← q];rfl
  have z:a ∈ ts:=q ▸ getElem_mem b
  have d:=B a z
  have D:=Jz a.s a.l
  have F:=Q6 d
  have j:=Pj b
  rw [← q] at j
  rw [e1,e2] at c
  refine Ag (dj:=11) O O<|Ac O<|Ag (dj:=11) O O<|Aa (D8 O O) O<|B4 O<|Ak<|Aq O ?_ ?_
  ·intro e
   have e:n≤1048576:=AD e
   rw [if_pos e] at c
   refine B0<|An<|Ao<|Bw<|Ac O<|Ac O<|Ac O<|Aa (Ci AR O O f i O b) O<|Aa (Cq (cs:=[a.x,a.y]) (AT _) (AP _) O f O (by decide) j) O<|Aj O O (Q7 a A ((h.2 a z).bs k) d.1 d.2) ?_
   rintro _ H ⟨rfl,C⟩
   refine B7 O (by omega)<|Ab O<|Bf<|Bn<|Ch<|Ac O<|B7 O (by omega)<|Ab O<|Bf ?_
   exact Ap (Pw.next ((i+1,n+Jx a.s a.l)) ⟨rfl,rfl,rfl,trivial⟩ (⟨b,by simp only;omega,by simp only;omega,c,bt k C⟩) (by simp only;omega))
  intro e
  have e:¬n≤1048576:=AB e
  rw [if_neg e] at c
  exact Bp<|Al<|Al<|Bd<|Cm<|Ac rfl<|Ab rfl<|Bc<|Ax rfl rfl<|⟨by rw [← c],k⟩
 intro g
 have b:i=ts.length:=by have:=AB g;omega
 have o:n=T:=by
  rw [b,drop_of_length_le (by simp)] at c;exact c
 exact Ae (dj:=11) rfl rfl rfl rfl<|Ae (dj:=11) rfl rfl rfl rfl<|Cn rfl<|Ak<|D6 rfl<|Bp<|Al<|Al<|Bd<|Cm<|Ac rfl<|Ab rfl<|Bc<|Ax rfl rfl<|⟨by rw [o],k⟩
theorem Q5 {s:List Int} {l:List (BitVec 32)} {m:Int} (h:Jx s l≤m) (a:m≤1048576):(s.length:Int)+l.length+1≤m:=by unfold Jx at h;split at h<;>omega
theorem Pf:∀{l:List Int} {n m:Int},(∀x ∈ l,x≤m)→0≤m→J0 n l≤max n (1048576+m)
 |[],n,m,_,_=>by simp only [J0];omega
 |x::l,n,m,h,hm=>by
  unfold J0
  split
  ·have:=Pf (n:=n+x) (m:=m) (fun y a=>h y (mem_cons_of_mem _ a)) hm
   have:=h x (by simp)
   omega
  ·omega

structure N5.few (a:N5):Prop where
 i:a.i.length≤1125899906842624
 s:a.s.length≤1125899906842624
 n: -9223372036854775808≤a.n∧a.n≤9223372036854775807
 p: -9223372036854775808≤a.p∧a.p≤9223372036854775807
theorem VC {α:Type} {l:List α} (h:l.length=5):∃a b c d e,l=[a,b,c,d,e]:=by
 match l,h with
 |[a,b,c,d,e],_=>exact ⟨a,b,c,d,e,rfl⟩
theorem V7 {H:Type} {enc:TypeId×Value→H} {w:World} {cs:List Value} (h:In enc prog w GC cs):∃a:N5,cs=a.cells∧N5.at w a∧a.few:=by
 obtain ⟨c,b⟩:=h.struct underlying25
 have v:Tryz.prog.cellsOf GC=5:=by kernel_rfl
 have u:Tryz.prog.cellsOf 23=1:=by kernel_rfl
 have r:Tryz.prog.cellsOf 3=1:=by kernel_rfl
 have e1:Tryz.prog.cellsOf 22=1:=by kernel_rfl
 rw [v] at c
 obtain ⟨f,l,z,B,E,rfl⟩:=VC c
 obtain ⟨k,e⟩:=In.num (BitVec.ofInt 8) b8 (fun _ h=>XT h) FX (b 0 _ rfl)
 obtain ⟨A,i,d,o,m⟩:=(b 1 _ rfl).slT Q2 (by kernel_rfl) (fun cs h=>(In.int NW h).imp fun _ h=>h.1)
 obtain ⟨C,s,e2,t,q⟩:=(b 2 _ rfl).slT Q2 (by kernel_rfl) (fun cs h=>(In.int NW h).imp fun _ h=>h.1)
 obtain ⟨n,g,y⟩:=In.int NW (b 3 _ rfl)
 obtain ⟨p,j,x⟩:=In.int NW (b 4 _ rfl)
 have f:Tryz.prog.bytesOf 3=8:=by kernel_rfl
 rw [f] at m q
 simp [u,r,e1] at e d e2 g j
 subst d e2 e g j
 have D:reachBytes≤140737488355328:=by decide
 exact ⟨⟨k,l,z,i,s,n,p⟩,rfl,⟨o,t⟩,⟨by simp only;omega,by simp only;omega,Sg y,Sg x⟩⟩
theorem Oq {H:Type} {enc:TypeId×Value→H} {w:World}:∀{n:Nat} {xs:List Value},xs.length=n*5→(∀i,i<n→In enc prog w GC ((xs.drop (i*5)).take 5))→
  ∃b:List N5,b.length=n∧Hg N5.cells b=xs∧∀a ∈ b,N5.at w a∧a.few
 |0,xs,hl,_=>by
  obtain rfl:xs=[]:=eq_nil_of_length_eq_zero (by omega)
  exact ⟨[],rfl,rfl,fun t c=>by simp at c⟩
 |n+1,xs,hl,h=>by
  obtain ⟨a,j,e,d⟩:=V7 (h 0 (by omega))
  obtain ⟨b,g,f,k⟩:=Oq (n:=n) (xs:=xs.drop 5) (by simp;omega) fun i l=>by
   have:=h (i+1) (by omega)
   rwa [drop_drop,show 5+i*5=(i+1)*5 by omega]
  refine ⟨a::b,by simp [g], ?_,fun t c=> ?_⟩
  ·rw [show Hg N5.cells (a::b)=a.cells++Hg N5.cells b from by simp [Hg],f,← j]
   simp
  ·rcases List.mem_cons.1 c with rfl|c
   ·exact ⟨e,d⟩
   ·exact k t c
theorem TC {H:Type} {enc:TypeId×Value→H} {w:World} {cs:List Value} (h:In enc prog w 62 cs):∃v,cs=[v]∧∃a:List N5,GN w v a∧a.length≤1125899906842624∧∀t ∈ a,t.few:=by
 obtain ⟨v,n,xs,e,hs,g,j⟩:=h.slice XW (sz:=5) (by kernel_rfl)
 obtain ⟨a,f,d,c⟩:=Oq hs.len j
 subst f d
 have k:reachBytes≤140737488355328:=by decide
 have i:Tryz.prog.bytesOf 25=72:=by kernel_rfl
 rw [i] at g
 exact ⟨v,e,a,⟨hs,fun t b=>(c t b).1⟩,by omega,fun t b=>(c t b).2⟩
theorem TD {H:Type} {enc:TypeId×Value→H} {w:World} {cs:List Value} (h:In enc prog w 64 cs):∃v,cs=[v]∧∃c:List N5,GN w v c∧c.length≤1125899906842624∧∀t ∈ c,t.few:=by
 obtain ⟨a,b⟩:=h.struct underlying64
 have f:Tryz.prog.cellsOf 64=1:=by kernel_rfl
 have e:Tryz.prog.cellsOf 62=1:=by kernel_rfl
 rw [f] at a
 have d:In enc prog w 62 ((cs.drop 0).take (Tryz.prog.cellsOf 62)):=b 0 _ rfl
 rw [e,drop_zero,take_of_length_le (by omega)] at d
 exact TC d
def L5 (a:N5):Int:=if 1+(a.i.length:Int)≤1048576 then 1+(a.i.length:Int)+(a.s.length:Int) else 1+(a.i.length:Int)
theorem Nr (a:N5):1≤L5 a:=by unfold L5;split<;>omega
theorem QN {a:N5} (h:a.few):L5 a≤4503599627370496:=by have b:=h.i;have c:=h.s;unfold L5;split<;>omega
theorem Xe {a:N5} {m:Int} (h:L5 a≤m) (b:m≤1048576):(a.i.length:Int)+a.s.length+1≤m:=by unfold L5 at h;split at h<;>omega
theorem Vp (a:N5) (w:World) (k:N5.at w a) (j:a.few):AM prog 5 [a.v] w (fun r l=>r= .int .i64 (L5 a)∧Below w.heap.size w l):=by
 have f:=Below.refl w.heap.size w
 have c:=k.i
 have b:=k.s
 have p:=j.i
 have q:=j.s
 refine Bb (n:=19) func5 O<|Af<|B5 (cs:=a.cells) O O O ?_
 rintro m w i e d -
 have f:=f.bs d
 have c:=c.bs d
 have b:=b.bs d
 refine Ab O<|Bl<|Ab O<|Bh<|Ac O<|Aa (D8 O O) O<|Ak<|Ca O true (by decide)<|Bw<|Ac O<|Be underlying25 O (AN _)<|Aa (Ah (AF _) O ‹_› rfl) O ?_
 refine Aj O O (Jq a.x a.i _ c) ?_
 rintro _ o ⟨rfl,d⟩
 have f:=f.bs d
 have c:=c.bs d
 have b:=b.bs d
 have e:=e.bs d
 refine B7 O (by omega)<|Ab O<|Bh<|Ac O<|Aa (D8 O O) O<|Ak<|Aq O ?_ ?_
 ·intro g
  have h:=AD g
  refine Bw<|Ac O<|Be underlying25 O (AN _)<|Aa (Ah (AF _) O ‹_› rfl) O ?_
  refine Aj O O (Jq a.y a.s o b) ?_
  rintro _ s ⟨rfl,d⟩
  have f:=f.bs d
  have c:=c.bs d
  have b:=b.bs d
  have e:=e.bs d
  refine B7 O (by omega)<|Ab O<|Bl<|Ac O<|Ab O<|Bc<|Ax O O ?_
  exact ⟨by rw [L5,if_pos h],f⟩
 ·intro g
  have h:=AB g
  exact Co<|Ac rfl<|Ab rfl<|Bc<|Ax rfl rfl<|⟨by rw [L5,if_neg h],f⟩
theorem Tn (v:Value) (b:List N5) (w:World) (h:GN w v b) (F:b.length≤1125899906842624) (C:∀t ∈ b,t.few):AM prog 185 [v] w (fun r o=>r= .int .i64 (J0 (b.length:Int) (b.map L5))∧Below w.heap.size w o):=by
 have j:=h.1
 have H:=j.le
 obtain ⟨T,x⟩:∃T,T=J0 (b.length:Int) (b.map L5):=⟨_,rfl⟩
 rw [← x]
 refine Bb (n:=25) func185 O<|Af<|Ab O<|Bl<|Ac O<|Aa (Au BQ O ‹_›) O ?_
 refine Ab O<|Bh<|Ab O<|Ak<|Ao ?_
 refine Bq (S:=(Nat×Int)) (fun p=>[(0,v),(3, .int .i64 p.2),(4, .int .i64 (p.1:Int))]) (fun p o=>p.1≤b.length∧0≤p.2∧p.2≤1125899906842624+4503599627370496+1048576∧J0 p.2 ((b.map L5).drop p.1)=T∧Below w.heap.size w o) (fun p=>b.length - p.1) ((0,(b.length:Int))) ⟨rfl,rfl,rfl,trivial⟩ ?_ ?_
 ·exact ⟨Nat.zero_le _,by simp only;omega,by simp only;omega,x.symm,Below.refl _ _⟩
 rintro ⟨i,n⟩ B ⟨z,u,y,d,m⟩
 replace z:i≤b.length:=z
 replace u:0≤n:=u
 replace y:n≤1125899906842624+4503599627370496+1048576:=y
 replace d:J0 n ((b.map L5).drop i)=T:=d
 have j:=j.bs m
 refine An<|Af<|Ac O<|Ac O<|Aa (Au BQ O ‹_›) O ?_
 refine B3 O<|Ac O ?_
 refine Cc 11 O ?_ ?_
 ·intro g
  have c:i<b.length:=by have:=AD g;omega
  have e1:=Ob (n:=n) (l:=b.map L5) (i:=i) (by rw [length_map];exact c)
  obtain ⟨a,s⟩:∃a,a=b[i]:=⟨_,rfl⟩
  have e2:(b.map L5).getD i default=L5 a:=by rw [getD_eq_getElem?_getD,getElem?_map,getElem?_eq_getElem c,← s];rfl
  have A:a ∈ b:=s ▸ getElem_mem c
  have f:=C a A
  have E:=Nr a
  have G:=QN f
  have k:=h.cells c
  rw [← s] at k
  rw [e1,e2] at d
  refine Ag (dj:=11) O O<|Ac O<|Ag (dj:=11) O O<|Aa (D8 O O) O<|B4 O<|Ak<|Aq O ?_ ?_
  ·intro e
   have e:n≤1048576:=AD e
   rw [if_pos e] at d
   refine B0<|An<|Ao<|Bw<|Ac O<|Ac O<|Ac O<|Aa (Ci BQ O O j i O c) O<|Aa (Cq (cs:=a.cells) (EM _) (EJ _) O j O (by decide) k) O<|Aj O O (Vp a B ((h.each a A).bs m) f) ?_
   rintro _ I ⟨rfl,D⟩
   refine B7 O (by omega)<|Ab O<|Bf<|Bn<|Ch<|Ac O<|B7 O (by omega)<|Ab O<|Bf ?_
   exact Ap (Pw.next ((i+1,n+L5 a)) ⟨rfl,rfl,rfl,trivial⟩ (⟨c,by simp only;omega,by simp only;omega,d,bt m D⟩) (by simp only;omega))
  intro e
  have e:¬n≤1048576:=AB e
  rw [if_neg e] at d
  exact Bp<|Al<|Al<|Bd<|Cm<|Ac rfl<|Ab rfl<|Bc<|Ax rfl rfl<|⟨by rw [← d],m⟩
 intro g
 have c:i=b.length:=by have:=AB g;omega
 have q:n=T:=by
  rw [c,drop_of_length_le (by simp)] at d;exact d
 exact Ae (dj:=11) rfl rfl rfl rfl<|Ae (dj:=11) rfl rfl rfl rfl<|Cn rfl<|Ak<|D6 rfl<|Bp<|Al<|Al<|Bd<|Cm<|Ac rfl<|Ab rfl<|Bc<|Ax rfl rfl<|⟨by rw [q],m⟩
def YN (ls:List N5):Int:=1+J0 (ls.length:Int) (ls.map L5)
theorem V9 (v:Value) (b:List N5) (w:World) (h:GN w v b) (o:b.length≤1125899906842624) (i:∀t ∈ b,t.few):AM prog 97 [.agg [v].toArray] w (fun r k=>r= .int .i64 (YN b)∧Below w.heap.size w k):=by
 have e:=Below.refl w.heap.size w
 have q:=Pf (l:=b.map L5) (n:=(b.length:Int)) (m:=4503599627370496) (fun x f=>by
  obtain ⟨a,j,rfl⟩:=List.mem_map.1 f
  exact QN (i a j)) (by decide)
 have s:=Jc (l:=b.map L5) (n:=(b.length:Int)) (fun x f=>by
  obtain ⟨a,j,rfl⟩:=List.mem_map.1 f
  have:=Nr a;omega)
 refine Bb (n:=12) func97 O<|Af<|B5 (cs:=[v]) O O O ?_
 rintro p w g d c -
 have e:=e.bs c
 have h:=h.bs c
 refine Ab O<|Bl<|Ab O<|Bh<|Ac O<|Aa (D8 O O) O<|Ak<|Ca O true (by decide)<|Bw<|Ac O<|Be underlying64 O (CQ _)<|Aa (Ah (CZ _) O ‹_› rfl) O ?_
 refine Aj O O (Tn v b _ h o i) ?_
 rintro _ u ⟨rfl,c⟩
 have e:=e.bs c
 have h:=h.bs c
 have d:=d.bs c
 refine B7 O (by omega)<|Ab O<|Bl<|Ac O<|Ab O<|Bc<|Ax O O ?_
 exact ⟨rfl,e⟩
end Go.Proofs.YtmipoeanpnnjoaaGreatDoor

namespace Go.Proofs.YtmipoeanpnnjoaaGreatDoor
open Go Go.Dd Go.RowKit List
set_option maxRecDepth 100000
theorem _root_.Go.Dd.Twn.own {α:Type} {w:World} {base:Nat} {T:TypeId} {enc:α→Value} {a v:Value} {l:List α} (h:Twn w base T enc a v l):w.ownsRow base T 1 v l.length (l.map enc):=by
 obtain ⟨b,cap,rfl,c⟩:=h
 exact Ki c (by simp)
end Go.Proofs.YtmipoeanpnnjoaaGreatDoor

namespace Go.Proofs.YtmipoeanpnnjoaaGreatDoor
open Go Go.Dd Go.RowKit List Go.Proofs.Tryz
set_option maxRecDepth 100000
theorem Jy {α:Type} {w:World} {B B' :Nat} {T:TypeId} {enc:α→Value} {a v:Value} {l:List α} (h:Go.Dd.Twn w B T enc a v l) (d:B' ≤B):Go.Dd.Twn w B' T enc a v l:=by
 obtain ⟨b,cap,e,c⟩:=h
 exact ⟨b,cap,e,BH c d⟩
theorem Sk {α:Type} {w c:World} {B:Nat} {r:Option Nat} {T:TypeId} {enc:α→Value} {a v:Value} {l:List α} (h:Go.Dd.Twn w B T enc a v l) (g:w.grownBy c r) (f:v.ownBlock≠r):Go.Dd.Twn c B T enc a v l:=by
 obtain ⟨b,cap,rfl,d⟩:=h
 exact ⟨b,cap,rfl,d.kept g (.inr fun e=>f e)⟩
abbrev tI (w:World) (B:Nat) (v:Value) (l:List Int):Prop:=Go.Dd.Twn w B 3 (Value.int .i64) (Value.int .i64 77) v l
structure FI (w:World) (lo hi:Nat) (x y:Value) (a:N5):Prop where
 tx:tI w lo x a.i
 ty:tI w lo y a.s
 bx:∀b,x.ownBlock=some b→lo≤b∧b<hi
 by' :∀b,y.ownBlock=some b→lo≤b∧b<hi
 apart:∀b,x.ownBlock=some b→y.ownBlock≠some b
theorem FI.bs {w b:World} {d c:Nat} {x y:Value} {a:N5} (h:FI w d c x y a) (g:Below w.heap.size w b):FI b d c x y a:=⟨h.tx.bs g,h.ty.bs g,h.bx,h.by',h.apart⟩
theorem FI.at {w:World} {b c:Nat} {x y:Value} {a:N5} (h:FI w b c x y a) (k:BitVec 8) (n p:Int):N5.at w ⟨k,x,y,a.i,a.s,n,p⟩:=⟨h.tx.sl,h.ty.sl⟩
theorem Ug (k:BitVec 8) (x y:Value) (n p:Int) (f:x.cells=[x].toArray) (c:y.cells=[y].toArray):Tryz.prog.built GC [(0,b8 k),(1,x),(2,y),(3, .int .i64 n),(4, .int .i64 p)]=some [b8 k,x,y, .int .i64 n, .int .i64 p].toArray:=by
 have d:Tryz.prog.info? GC=some Tryz.t25:=by kernel_rfl
 have a:Tryz.prog.info? 3=some Tryz.t3:=by kernel_rfl
 have e:Tryz.prog.info? 22=some Tryz.t22:=by kernel_rfl
 have b:Tryz.prog.info? 23=some Tryz.t23:=by kernel_rfl
 simp [Program.built,d,underlying25,a,e,b,Instr.fill,f,c]
 rfl
theorem Pe (a:N5) (W:World) (F:N5.at W a) (N:a.i.length≤4194304) (hs:a.s.length≤4194304):
  AM prog 7 [a.v] W (fun r u=>Below W.heap.size W u∧∃x y,r=(N5.mk a.k x y a.i a.s a.n a.p).v∧FI u W.heap.size u.heap.size x y a):=by
 have p:=Below.refl W.heap.size W
 have o:=F.i
 have m:=F.s
 refine Bb (n:=16) func7 O<|Af<|B5 (cs:=a.cells) O O O ?_
 rintro C w H c f -
 have p:=p.bs f
 have o:=o.bs f
 have m:=m.bs f
 have S:=AH c
 have z1:=AA p
 refine Cx GD O ?_
 rintro t V G z f J
 have p:=p.bs f
 have o:=o.bs f
 have m:=m.bs f
 have c:=c.bs f
 have X:=AA p
 have Y:=AH z
 refine Ak<|An ?_
 refine Cw.any AS (fun w j _=> ?_)
 have c:=c.bs j
 refine Dh (fun u=>AO u C GC a.cells) (fun R=> ?_) (c)
 have A:=z
 refine Cj (Am Bo)<|Ai 0 O (fun l g=>Cd underlying25 O (DF _)) O<|Ai 1 O (fun l g=>Ah (DG _) O g O) O<|Ai 2 O (fun l g=>Cd underlying25 O (AN _)) O<|Ai 3 O (fun l g=>Ah (AF _) O g O) O<|Ai 5 O (fun l g=>Cd underlying25 O (AN _)) O<|Ai 6 O (fun l g=>Ah (AF _) O g O) O<|Ai 8 O (fun l g=>Cd underlying25 O (BA _)) O<|Ai 9 O (fun l g=>Ah (AK _) O g O) O<|Ai 10 O (fun l g=>Cd underlying25 O (BA _)) O<|Ai 11 O (fun l g=>Ah (AK _) O g O) O<|Cb ?_
 refine AZ.only ‹_› (i:=4) (by kernel_rfl) O ?_
 refine Aj O O (GT a.x a.i w (o.bs j) N) ?_
 rintro x l ⟨d,f⟩
 have Z:=j.size
 have j:=bt j f
 have c:=c.bs f
 have q:=fun b B=>AG d.own b B
 refine AZ.back<|AZ.only ‹_› (i:=7) (by kernel_rfl) O ?_
 refine Aj O O (GT a.y a.s l (m.bs j) hs) ?_
 rintro y w2 ⟨h,f⟩
 have Q:=j.size
 have d:=d.bs f
 have M:=f.size
 have j:=bt j f
 have c:=c.bs f
 have I:=j.size
 have s:=fun b B=>AG h.own b B
 refine AZ.back<|Cj (Am Bo)<|Ai 12 O (fun l g=>C4 (cs:=[b8 a.k,x,y, .int .i64 a.n, .int .i64 a.p]) O (Ug a.k x y a.n a.p d.sl.one h.sl.one)) O<|Cb<|AZ.only ‹_› (i:=13) (by kernel_rfl) O ?_
 refine Az (Bv (cs:=[b8 a.k,x,y, .int .i64 a.n, .int .i64 a.p]) (k:=5) (by kernel_rfl) O O O (by rw [all_cons,all_cons,all_cons,d.sl.one',h.sl.one'];rfl) (A.bs j) O) ?_
 rintro D ⟨E,v,T⟩
 have L:=(bt p j).grown v (AA (bt p j)) (by rintro _ ⟨⟩;omega)
 have U:=v.size
 have c:=c.by v (by rintro ⟨⟩;omega)
 have d:=Sk d v fun e=>by have:=q t e;omega
 have h:=Sk h v fun e=>by have:=s t e;omega
 have K:FI D W.heap.size D.heap.size x y a:=⟨Jy d (by omega),Jy h (by omega),fun b e=>by have:=q b e;omega,fun b e=>by have:=s b e;omega,fun b e e2=>by have:=q b e;have:=s b e2;omega⟩
 refine AZ.back<|Cu ‹_› (by kernel_rfl) ?_
 refine Ap<|B8<|Df<|Ee O O ‹_› underlying25 O O O ?_
 exact ⟨L,x,y,rfl,K⟩

abbrev BO:TypeId:=56
abbrev CP (n:Int):Value:=b8 (BitVec.ofInt 8 n)
theorem LB (n:Int) (w:World) (_hn:0≤n∧n≤4000000):AM prog 155 [.int .i64 n] w (fun r a=>r=CP n∧Below w.heap.size w a):=by
 exact Bb (n:=5) func155 rfl<|Af<|Aa (Cf (show _=some (b8 (0#8)) from rfl)) rfl<|Bl<|Ac rfl<|Aa (Ga UF XX rfl) rfl<|Ab rfl<|Bc<|Ax rfl rfl<|⟨rfl,Below.refl _ _⟩
theorem O2 (n:Int) (w:World) (_hn:0≤n∧n≤4000000):AM prog 170 [CP n, .int .i64 n] w (fun r a=>r= .bool true∧Below w.heap.size w a):=by
 exact Bb (n:=9) func170 rfl<|Af<|Ab rfl<|Bl<|Ac rfl<|Ac rfl<|Aa (Ga UF XX rfl) rfl<|Aa (Cl rfl rfl) rfl<|Ab rfl<|Bc<|Ax rfl rfl<|⟨cngA Value.bool (by simp),Below.refl _ _⟩
theorem Qf (A:Nat) (p:List Value) (u:Value) (hs:List Hd) (lo base:Nat) (w:World) (hA:AO w A BO p) (Y:p[1]? =some u) (X:w.ownsRow lo 132 3 u hs.length (BF hs)) (m:FJ w base 5 1 hs)
  (M:¬BL hs A) (K:∀b,u.ownBlock=some b→¬BL hs b):
  AM prog 52 [.pointer (some ⟨A,0,none⟩)] w (fun r g=>r= .tuple #[]∧BY (BL hs) w g∧He g base 5 CP hs):=by
 have hle:=(AI X).le
 refine Bb (n:=35) func52 O<|Af<|Ab O<|Ak<|Ao ?_
 refine Bq (S:=Nat) (fun i=>[(0, .pointer (some ⟨A,0,none⟩)),(2, .int .i64 (i:Int))]) (fun i g=>i≤hs.length∧BY (BL hs) w g∧(∀j (f:j<hs.length),j<i→BM g base 5 1 hs[j].v hs[j].k (CA CP hs[j].k hs[j].n))∧(∀j (f:j<hs.length),i≤j→BM g base 5 1 hs[j].v hs[j].k hs[j].xs)) (fun i=>hs.length - i) (0) ⟨rfl,rfl,trivial⟩ ?_ ?_
 ·exact ⟨by omega,BY.refl _ _,fun j f h=>by omega,fun j f _=>m.own _ (getElem_mem f)⟩
 rintro i o ⟨hi,C,N,R⟩
 have Q:=hA.chg C M
 have I:=AI (AV X C K)
 refine An<|Af<|Ac O<|Ac O<|Aa (Br O) O<|Be underlying56 O (Lq _)<|Aa (Ah (Mh _) O Q Y) O<|Aa (Au (sz:=3) Ls O I) O<|B3 O<|Ak<|Aq O ?_ ?_
 ·intro h
  have a:i<hs.length:=by simp at h;omega
  have s:=getElem_mem a
  have Z:=m.few _ s
  have E:=m.num _ s
  have D:hs[i].g.oneCell' =true:=by rw [m.new _ s];rfl
  have v:=(m.own _ s).len
  have G:∀b,hs[i].v.ownBlock=some b→b<w.heap.size:=fun b e=>(m.blk ⟨_,s,e⟩).2
  refine B0<|An<|Ao<|Af<|Ac O<|Aa (Br O) O<|Be underlying56 O (Lq _)<|Aa (Ah (Mh _) O Q Y) O<|Ac O<|Aa (Ci Ls O O I i O a) O<|Aa (Cq (cs:=hs[i].cells) (Qr _) (Pn _) O I O (by decide) (BV a)) O<|C1 (cs:=hs[i].cells) PJ O O O O (fun _=>rfl) (by simp [Hd.cells,(m.own _ s).sl.one',D,EB]) ?_
  rintro B w2 T l q U
  have J:=C.below q
  have z1:=C.size
  have V:=(R i a (AX _)).bs q
  refine Bl<|Ab O<|Ak<|Ao ?_
  refine Bq (S:=Nat) (fun k=>[(0, .pointer (some ⟨A,0,none⟩)),(2, .int .i64 (i:Int)),(3, .pointer (some ⟨B,0,none⟩)),(4, .int .i64 (k:Int))]) (fun k g=>k≤hs[i].k∧AO g B 132 hs[i].cells∧BY (BL hs) w g∧BY (fun b=>hs[i].v.ownBlock=some b) w2 g∧BM g base 5 1 hs[i].v hs[i].k (CA CP k hs[i].n++hs[i].xs.drop k)) (fun k=>hs[i].k - k) (0) ⟨rfl,rfl,rfl,rfl,trivial⟩ ?_ ?_
  ·exact ⟨by omega,l,J,BY.refl _ _,by simpa [CA] using V⟩
  clear l V
  rintro k w3 ⟨L,l,F,z,y⟩
  refine An<|Af<|Ac O<|Be underlying132 O (GU _)<|Aa (Ah (HN _) O ‹_› rfl) O ?_
  refine Aa (Au (sz:=1) Hq O y.sl) O<|B3 O<|Ak<|Aq O ?_ ?_
  ·intro h
   have c:k<hs[i].k:=by simp at h;omega
   refine B0<|An<|Ao<|Cw.tail 7 AS (by kernel_rfl)<|Ad (fun o d=>Cd underlying132 O (GU _)) O<|Ad (fun o d=>Ah (HN _) O (AO.bs ‹_› d) O) O ?_
   refine Bg O<|Ad (fun o d=>Cd underlying132 O (BA _)) O<|Ad (fun o d=>Ah (AK _) O (AO.bs ‹_› d) O) O ?_
   refine C3 O O (fun o d=>(LB hs[i].n o E).q d)<|Ad (fun o d=>Dn Hq O O y.sl.shp k O c) O ?_
   refine Dc (fun w4 d=> ?_)
   refine Az (Ge (YS _) O O O (y.bs d) (by rw [Kt (by simpa using v) L];exact c)) ?_
   rintro w5 ⟨W,t, -⟩
   rw [Jm (by simpa using v) c] at W
   have b5:=(l.bs d).by t (fun e=>by have:=G _ e.symm;omega)
   refine Bf<|Bn<|Ch<|Ac O<|B7 O (by omega)<|Ab O<|Bf ?_
   exact Ap (Pw.next (k+1) ⟨rfl,rfl,rfl,rfl,trivial⟩ (⟨c,b5,(F.below d).grown t (fun b e=> .inl ⟨_,s,e⟩),(z.below d).grown t (fun b e=> .inl e),W⟩) (by omega))
  intro h
  have c:k=hs[i].k:=by simp at h;omega
  rw [drop_of_length_le (by omega),append_nil,c] at y
  have hall:BY (fun b=>hs[i].v.ownBlock=some b) o w3:=(BY.of_below q).trans z
  refine Bp<|Al<|Al<|Bd<|Bn<|Ch<|Ac O<|B7 O (by omega)<|Ab O<|Bf ?_
  exact Ap (Pw.next (i+1) ⟨rfl,rfl,trivial⟩ (⟨a,F,fun j f H=>(if e:j=i then by subst e;exact y else (N j f (by omega)).chg hall fun b e1 e2=>BX m.apart a f (Ne.symm e) b e2 e1),fun j f H=>(R j f (by omega)).chg hall fun b e1 e2=>BX m.apart a f (by omega) b e2 e1⟩) (by omega))
 intro h
 have a:i=hs.length:=by simp at h;omega
 refine Bp<|Al<|Al<|Bd<|C9 O ?_
 refine ⟨rfl,C,fun x hx=> ?_⟩
 obtain ⟨j,f,rfl⟩:=List.mem_iff_getElem.1 hx
 exact N j f (by omega)
theorem PX (A:Nat) (B:List Value) (u:Value) (hs:List Hd) (lo base:Nat) (w:World) (hA:AO w A BO B) (hu:B[1]? =some u) (ho:w.ownsRow lo 132 3 u hs.length (BF hs)) (E:KOk hs) (hf:He w base 5 CP hs)
  (Z:¬BL hs A) (l:∀b,u.ownBlock=some b→¬BL hs b) (R:u.ownBlock≠some A) (hbase:base≤w.heap.size):
  AM prog 67 [.pointer (some ⟨A,0,none⟩)] w (fun r m=>r= .tuple #[]∧BY (fun b=>BL hs b∨u.ownBlock=some b) w m∧∃ts,EA w hs ts∧m.ownsRow lo 132 3 u hs.length (BF ts)∧∀t ∈ ts,EE m CP t):=by
 have hle:=(AI ho).le
 refine Bb (n:=42) func67 O<|Af<|Ab O<|Ak<|Ao ?_
 refine Bq (S:=(Nat×List Hd)) (fun s=>[(0, .pointer (some ⟨A,0,none⟩)),(2, .int .i64 (s.1:Int))]) (fun s m=>s.1≤hs.length∧EA w hs s.2∧(∀t ∈ s.2,t.g.oneCell' =true)∧BY (fun b=>BL hs b∨u.ownBlock=some b) w m∧m.ownsRow lo 132 3 u hs.length (BF s.2)∧(∀j (f:j<s.2.length),j<s.1→EE m CP s.2[j])∧(∀j (f:j<hs.length),s.1≤j→BM m base 5 1 hs[j].v hs[j].k (CA CP hs[j].k hs[j].n))) (fun s=>hs.length - s.1) ((0,hs)) ⟨rfl,rfl,trivial⟩ ?_ ?_
 ·exact ⟨by simp,Ep w E.new,fun t N=>(by rw [E.new t N];rfl),BY.refl _ _,ho,fun j f h=>by simp at h,fun j f _=>hf _ (getElem_mem f)⟩
 rintro ⟨i,ts⟩ w1 ⟨hi,K,h1,L,o1,hd,N⟩
 dsimp only at hi K h1 L o1 hd N ⊢
 have b1:=hA.chg L (fun e=>e.elim Z R)
 have s1:=AI o1
 have hlen:=K.len
 refine An<|Af<|Ac O<|Ac O<|Aa (Br O) O<|Be underlying56 O (Lq _)<|Aa (Ah (Mh _) O b1 hu) O<|Aa (Au (sz:=3) Ls O s1) O<|B3 O<|Ak<|Aq O ?_ ?_
 ·intro h
  have a:i<hs.length:=by simp at h;omega
  have q:i<ts.length:=by omega
  obtain ⟨ev,ek,en,eg⟩:=K.all i a q
  have z:=getElem_mem a
  have hmt:=getElem_mem q
  have hfew:=E.few _ z
  have Y:=E.num _ z
  have Q:=h1 _ hmt
  have V:∀b,hs[i].v.ownBlock=some b→b<w.heap.size:=fun b e=>(hf.blk ⟨_,z,e⟩).2
  refine B0<|An<|Ao<|Af<|Ac O<|Aa (Br O) O<|Be underlying56 O (Lq _)<|Aa (Ah (Mh _) O b1 hu) O<|Ac O<|Aa (Ci Ls O O s1 i O a) O<|Aa (Cq (cs:=ts[i].cells) (Qr _) (Pn _) O s1 O (by decide) (BV q)) O<|C1 (cs:=ts[i].cells) PJ O O O O (fun _=>rfl) (by simp [Hd.cells,ev,(hf _ z).sl.one',Q,EB]) ?_
  rintro I w2 eA_h x J zhn2
  have hc2:=L.below J
  have z1:=L.size
  have z2:=hc2.size
  have r0:=(N i a (AX _)).bs J
  refine Bl<|Be underlying132 O (GU _)<|Aa (Ah (HN _) O ‹_› rfl) O ?_
  refine Ab O<|Bh<|Ab O<|Ak<|Ao<|D5 4 (v' :=hs[i].v) O (ev) ?_
  refine Bq (S:=(Nat×Value)) (fun s=>[(0, .pointer (some ⟨A,0,none⟩)),(2, .int .i64 (i:Int)),(3, .pointer (some ⟨I,0,none⟩)),(4,s.2),(5, .int .i64 (s.1:Int))]) (fun s m=>s.1≤40∧AO m I 132 ts[i].cells∧BY (fun b=>hs[i].v.ownBlock=some b) w2 m∧BM m base 5 1 s.2 (hs[i].k+s.1) (CA CP (hs[i].k+s.1) hs[i].n)∧(∀b,s.2.ownBlock=some b→hs[i].v.ownBlock=some b∨w2.heap.size≤b)∧Sl m 1 hs[i].v hs[i].k (CA CP hs[i].k hs[i].n)) (fun s=>40 - s.1) ((0,hs[i].v)) ⟨rfl,rfl,rfl,rfl,rfl,trivial⟩ ?_ ?_
  ·exact ⟨by simp,x,BY.refl _ _,r0,fun b e=> .inl e,r0.sl⟩
  clear x
  rintro ⟨k,g⟩ w3 ⟨hk3,x,D,T,o,l3⟩
  dsimp only at hk3 T o ⊢
  have z3:=D.size
  refine An<|Af<|Ac O<|B3 O<|Ak<|Aq O ?_ ?_
  ·intro h
   have C:k<40:=by simp at h;omega
   refine B0<|An<|Ao<|Bw<|Ac O<|Be underlying132 O (BA _)<|Aa (Ah (AK _) O ‹_› rfl) O ?_
   refine C5 30 (v' := .int .i64 hs[i].n) O (cngA (Value.int .i64) en)<|Aj O O (LB hs[i].n w3 Y) ?_
   rintro _ F ⟨rfl,hn4⟩
   refine Bk (Dl (vs:=[CP hs[i].n]) Hq Y3 O O O O O) O ?_
   rintro nv w5 ⟨o5, -,hn5, -⟩
   have d:=bt hn4 hn5
   have z5:=d.size
   have r5:=T.bs d
   refine Bk (Eo (base:=base) Hq Y3 O (by decide) O O r5 (AI o5) O (by omega) (by omega) (by omega) (AX _)) O ?_
   rintro g' w6 ⟨r6,G,v⟩
   have l5:=l3.bs d
   have b5:=x.bs d
   have e6:CA CP (hs[i].k+k) hs[i].n++[CP hs[i].n]=CA CP (hs[i].k+(k+1)) hs[i].n:=Jn
   rw [e6] at r6
   have hgA:some I≠g.ownBlock:=fun e=>by
    rcases o _ e.symm with c|c
    ·have:=V _ c;omega
    ·omega
   have l6:Sl w6 1 hs[i].v hs[i].k (CA CP hs[i].k hs[i].n):=Js r0 (.inl r6) G v l5 (by omega) (by simp [CA])
   have U:∀b,g'.ownBlock=some b→hs[i].v.ownBlock=some b∨w2.heap.size≤b:=fun b e=>by
    rcases v with c|⟨c, -⟩
    ·rw [c] at e;exact o b e
    ·exact .inr (by have:=c b e;omega)
   refine Ab O<|Bf<|Bn<|Ch<|Ac O<|B7 O (by omega)<|Ab O<|Bf ?_
   exact Ap (Pw.next ((k+1,g')) ⟨rfl,rfl,rfl,rfl,rfl,trivial⟩ (⟨C,b5.by G hgA,(D.below d).grown G o, .inl r6,U,l6⟩) (by simp only;omega))
  intro h
  have C:k=40:=by simp at h;omega
  subst C
  have hall:BY (fun b=>hs[i].v.ownBlock=some b) w1 w3:=(BY.of_below J).trans D
  have W:BY (fun b=>BL hs b∨u.ownBlock=some b) w w3:=L.trans (hall.mono fun b e=> .inl ⟨_,z,e⟩)
  have b3:=hA.chg W (fun e=>e.elim Z R)
  have o3:=AV o1 hall (fun b e1 e2=>l b e1 ⟨_,z,e2⟩)
  refine Bp<|Al<|Al<|Bd<|Ch<|Ac O<|Aa (Br O) O<|Be underlying56 O (Lq _)<|Aa (Ah (Mh _) O b3 hu) O<|Ac O<|Ac O<|Aa (Ci Ls O O (AI o3) i O a) O<|Aa (C2 underlying132 O (GU _) O (Im o3 (by omega))) O<|Az (D3 (j:=i*3+1) (GU _) O O T.sl.one' o3 (by rw [Gp];omega)) ?_
  rintro F ⟨o4,y, -⟩
  have e4:=Gn q g
  have o4:F.ownsRow lo 132 3 u hs.length (BF (ts.set i {ts[i] with g:=g})):=by rw [← e4];exact o4
  have hG4:=K.set a q (g:=g) (fun b e=>by
   rcases o b e with c|c
   ·exact .inl c
   ·exact .inr (by omega))
  have p:BY (fun b=>hs[i].v.ownBlock=some b∨u.ownBlock=some b) w1 F:=(hall.mono fun b e=> .inl e).grown y (fun b e=> .inl (.inr e))
  have hS4:BY (fun b=>BL hs b∨u.ownBlock=some b) w F:=W.grown y (fun b e=> .inl (.inr e))
  have t4:EE F CP {ts[i] with g:=g}:=by
   refine ⟨?_, ?_⟩
   ·simp only;rw [ev,ek,en]
    refine l3.by y ?_
    cases hv:hs[i].v.ownBlock with
    |none=>exact .inl rfl
    |some b=>exact .inr fun e=>l b e.symm ⟨_,z,hv⟩
   ·simp only;rw [ek,en]
    refine T.sl.by y ?_
    cases hv:g.ownBlock with
    |none=>exact .inl rfl
    |some b=>
     refine .inr fun e=> ?_
     rcases o b hv with c|c
     ·exact l b e.symm ⟨_,z,c⟩
     ·have:=(AG ho b e.symm).2;omega
  have h14:∀t ∈ ts.set i {ts[i] with g:=g},t.g.oneCell' =true:=fun t H=>by
   rcases mem_or_eq_of_mem_set H with c|c
   ·exact h1 t c
   ·rw [c];exact T.sl.one'
  have hd4:∀j (f:j<(ts.set i {ts[i] with g:=g}).length),j<i+1→EE F CP (ts.set i {ts[i] with g:=g})[j]:=fun j f hji=>by
    rw [getElem_set]
    split
    ·exact t4
    ·rename_i M
     have X:j<ts.length:=by simpa using f
     obtain ⟨fv,_,_,fg⟩:=K.all j (by omega) X
     refine (hd j X (by omega)).chg p (fun b e1 _ e2=> ?_) (fun b e1 _ e2=> ?_)
     ·rw [fv] at e1
      rcases e2 with e2|e2
      ·exact BX E.apart a (show j<hs.length by omega) M b e2 e1
      ·exact l b e2 ⟨_,getElem_mem _,e1⟩
     ·rcases e2 with e2|e2
      ·rcases fg b e1 with c|c
       ·exact BX E.apart a (show j<hs.length by omega) M b e2 c
       ·have:=V b e2;omega
      ·rcases fg b e1 with c|c
       ·exact l b e2 ⟨_,getElem_mem _,c⟩
       ·have:=(AG ho b e2).2;omega
  have ht4:∀j (f:j<hs.length),i+1≤j→BM F base 5 1 hs[j].v hs[j].k (CA CP hs[j].k hs[j].n):=fun j f hji=>(N j f (by omega)).chg p (fun b e1 e2=>(by
    rcases e2 with e2|e2
    ·exact BX E.apart a f (by omega) b e2 e1
    ·exact l b e2 ⟨_,getElem_mem _,e1⟩))
  refine Bf<|Bn<|Ch<|Ac O<|B7 O (by omega)<|Ab O<|Bf ?_
  exact Ap (Pw.next ((i+1,ts.set i {ts[i] with g:=g})) ⟨rfl,rfl,trivial⟩ (⟨a,hG4,h14,hS4,o4,hd4,ht4⟩) (by simp only;omega))
 intro h
 have a:i=hs.length:=by simp at h;omega
 refine Bp<|Al<|Al<|Bd<|C9 O ?_
 refine ⟨rfl,L,ts,K,o1,fun t H=> ?_⟩
 obtain ⟨j,f,rfl⟩:=List.mem_iff_getElem.1 H
 exact hd j f (by omega)
theorem PE (A:Nat) (j:List Value) (u:Value) (ts:List Hd) (U:Nat) (w:World) (N:AO w A BO j) (H:j[1]? =some u) (G:w.ownsRow U 132 3 u ts.length (BF ts)) (M:∀t ∈ ts,EE w CP t) (R:∀t ∈ ts,(0≤t.n∧t.n≤4000000)∧t.k≤16777216):
  AM prog 82 [.pointer (some ⟨A,0,none⟩)] w (fun r o=>r= .bool true∧Below w.heap.size w o):=by
 have T:=(AI G).le
 refine Bb (n:=64) func82 O<|Af<|Ab O<|Bh<|Ab O<|Ak<|Ao ?_
 refine Bq (S:=Nat) (fun i=>[(0, .pointer (some ⟨A,0,none⟩)),(2, .bool false),(3, .int .i64 (i:Int))]) (fun i o=>i≤ts.length∧Below w.heap.size w o) (fun i=>ts.length - i) (0) ⟨rfl,rfl,rfl,trivial⟩ ?_ ?_
 ·exact ⟨by omega,Below.refl _ _⟩
 rintro i b ⟨X,f⟩
 have C:=N.bs f
 have y:=(AI G).bs f
 refine An<|Af<|Ac O<|Ac O<|Aa (Br O) O<|Be underlying56 O (Lq _)<|Aa (Ah (Mh _) O C H) O<|Aa (Au (sz:=3) Ls O y) O<|B3 O<|Ak<|Aq O ?_ ?_
 ·intro h
  have e:i<ts.length:=by simp at h;omega
  have I:=getElem_mem e
  obtain ⟨l,J⟩:=R _ I
  have q:=M _ I
  refine B0<|An<|Ao<|Af<|Ac O<|Aa (Br O) O<|Be underlying56 O (Lq _)<|Aa (Ah (Mh _) O C H) O<|Ac O<|Aa (Ci Ls O O y i O e) O<|Aa (Cq (cs:=ts[i].cells) (Qr _) (Pn _) O y O (by decide) (BV e)) O<|C1 (cs:=ts[i].cells) PJ O O O O (fun _=>rfl) (by simp [Hd.cells,q.l.one',q.g.one',EB]) ?_
  rintro v K D s z F
  have m:=bt f z
  have l2:=q.l.bs m
  have E:=q.g.bs m
  refine Bh<|Be underlying132 O (GU _)<|Aa (Ah (HN _) O ‹_› rfl) O ?_
  refine Aa (Au (sz:=1) Hq O E) O<|Be underlying132 O (GU _)<|Aa (Ah (HN _) O ‹_› rfl) O ?_
  refine Aa (Au (sz:=1) Hq O l2) O<|B7 O (by omega)<|Aa (Cs O O) O<|Ak<|Ca O false (by simp)<|Co<|Ab O<|Ak<|Ao ?_
  refine Bq (S:=Nat) (fun k=>[(0, .pointer (some ⟨A,0,none⟩)),(2, .bool false),(3, .int .i64 (i:Int)),(4, .pointer (some ⟨v,0,none⟩)),(5, .int .i64 (k:Int))]) (fun k o=>k≤ts[i].k+40∧Below K.heap.size K o) (fun k=>ts[i].k+40 - k) (0) ⟨rfl,rfl,rfl,rfl,rfl,trivial⟩ ?_ ?_
  ·exact ⟨by omega,Below.refl _ _⟩
  rintro k V ⟨Q,c⟩
  have x:=l2.bs c
  have B:=E.bs c
  have W:=s.bs c
  refine An<|Af<|Ac O<|Be underlying132 O (GU _)<|Aa (Ah (HN _) O ‹_› rfl) O ?_
  refine Aa (Au (sz:=1) Hq O B) O<|B3 O<|Ak<|Aq O ?_ ?_
  ·intro h
   have d:k<ts[i].k+40:=by simp at h;omega
   refine B0<|An<|Ao<|An<|Cv AS (by kernel_rfl)<|Ad (fun b a=>Cd underlying132 O (GU _)) O<|Ad (fun b a=>Ah (HN _) O (AO.bs ‹_› a) O) O ?_
   refine Bg O<|Ad (fun b a=>Dn Hq O O B.shp k O d) O<|Ad (fun b a=>D1 (u:=CP ts[i].n) (YE _) O (B.bs a) (GO d)) O<|Ad (fun b a=>Cd underlying132 O (BA _)) O<|Ad (fun b a=>Ah (AK _) O (AO.bs ‹_› a) O) O ?_
   refine C3 O O (fun b a=>(O2 ts[i].n b l).q a)<|Ad (fun b a=>Ck O) O<|Bg O<|Eu 46 (v' := .bool false) O (cngA Value.bool (rfl))<|Ba (dj:=46) O O<|Bg O<|Ba (dj:=46) O O<|Ad (fun b a=>Cd underlying132 O (GU _)) O<|Ba (dj:=46) O O<|Ad (fun b a=>Ah (HN _) O (AO.bs ‹_› a) O) O ?_
   refine Ba (dj:=46) O O<|Ad (fun b a=>Au (sz:=1) Hq O (x.bs a)) O<|Ba (dj:=46) O O<|Ad (fun b a=>Eh O O) O<|Ba (dj:=46) O O<|Bg O ?_
   refine Dm 52 O ?_ ?_
   ·intro g
    have p:k<ts[i].k:=by simpa using g
    refine Ba (dj:=52) O O<|Ad (fun b a=>Cd underlying132 O (GU _)) O<|Ba (dj:=52) O O<|Ad (fun b a=>Ah (HN _) O (AO.bs ‹_› a) O) O ?_
    refine Ba (dj:=52) O O<|Bg O<|Ba (dj:=52) O O<|Ad (fun b a=>Dn Hq O O x.shp k O p) O<|Ba (dj:=52) O O<|Ad (fun b a=>D1 (u:=CP ts[i].n) (YE _) O (x.bs a) (GO p)) O<|Ba (dj:=52) O O<|Ad (fun b a=>Cd underlying132 O (BA _)) O<|Ba (dj:=52) O O<|Ad (fun b a=>Ah (AK _) O (AO.bs ‹_› a) O) O ?_
    refine Ba (dj:=52) O O<|C3 O O (fun b a=>(O2 ts[i].n b l).q a)<|Ba (dj:=52) O O<|Ad (fun b a=>Ck O) O<|Ba (dj:=46) O O<|Ad (fun b a=>Ct O O) O<|Ad (fun b a=>Cz O O) O ?_
    refine Cr (fun L a=> ?_)
    refine Ap<|B8<|Ca O false (rfl)<|Cp<|Bn<|Ch<|Ac O<|B7 O (by omega)<|Ab O<|Bf ?_
    exact Ap (Pw.next (k+1) ⟨rfl,rfl,rfl,rfl,rfl,trivial⟩ (⟨d,bt c a⟩) (by omega))
   ·intro g
    refine Ar (dj:=52) O O O O<|Ar (dj:=52) O O O O<|Ar (dj:=52) O O O O<|Ar (dj:=52) O O O O<|Ar (dj:=52) O O O O<|Ar (dj:=52) O O O O<|Ar (dj:=52) O O O O<|Ar (dj:=52) O O O O<|Ar (dj:=52) O O O O<|Ba (dj:=46) O O<|Ad (fun b a=>Cz O O) O<|Ad (fun b a=>Cz O O) O ?_
    refine Cr (fun L a=> ?_)
    refine Ap<|B8<|D6 O<|Cp<|Bn<|Ch<|Ac O<|B7 O (by omega)<|Ab O<|Bf ?_
    exact Ap (Pw.next (k+1) ⟨rfl,rfl,rfl,rfl,rfl,trivial⟩ (⟨d,bt c a⟩) (by omega))
  intro h
  refine Bp<|Al<|Al<|Bd<|Bn<|Ch<|Ac O<|B7 O (by omega)<|Ab O<|Bf ?_
  exact Ap (Pw.next (i+1) ⟨rfl,rfl,rfl,trivial⟩ (⟨e,bt m c⟩) (by omega))
 intro h
 exact Bp<|Al<|Al<|Bd<|Cm<|Ab rfl<|Bc<|Ax rfl rfl<|⟨rfl,f⟩
abbrev DT (n:Int):Value:= .int .i64 (-n)
theorem MH (n:Int) (w:World) (_hn:0≤n∧n≤4000000):AM prog 156 [.int .i64 n] w (fun r a=>r=DT n∧Below w.heap.size w a):=by
 refine Bb (n:=5) func156 O<|Af<|Ab O<|Bl<|Ac O<|Aa (Es O (by omega)) O<|Ab O<|Bc<|Ax O O ?_
 exact ⟨rfl,Below.refl _ _⟩
theorem QX (n:Int) (w:World) (_hn:0≤n∧n≤4000000):AM prog 171 [DT n, .int .i64 n] w (fun r a=>r= .bool true∧Below w.heap.size w a):=by
 refine Bb (n:=9) func171 O<|Af<|Ab O<|Bl<|Ac O<|Ac O<|Aa (Es O (by omega)) O<|Aa (Da O O) O<|Ab O<|Bc<|Ax O O ?_
 exact ⟨cngA Value.bool (by simp),Below.refl _ _⟩
theorem RK (A:Nat) (p:List Value) (u:Value) (hs:List Hd) (lo base:Nat) (w:World) (hA:AO w A BO p) (Y:p[2]? =some u) (X:w.ownsRow lo 135 3 u hs.length (BF hs)) (m:FJ w base 3 1 hs)
  (M:¬BL hs A) (K:∀b,u.ownBlock=some b→¬BL hs b):
  AM prog 53 [.pointer (some ⟨A,0,none⟩)] w (fun r g=>r= .tuple #[]∧BY (BL hs) w g∧He g base 3 DT hs):=by
 have hle:=(AI X).le
 refine Bb (n:=35) func53 O<|Af<|Ab O<|Ak<|Ao ?_
 refine Bq (S:=Nat) (fun i=>[(0, .pointer (some ⟨A,0,none⟩)),(2, .int .i64 (i:Int))]) (fun i g=>i≤hs.length∧BY (BL hs) w g∧(∀j (f:j<hs.length),j<i→BM g base 3 1 hs[j].v hs[j].k (CA DT hs[j].k hs[j].n))∧(∀j (f:j<hs.length),i≤j→BM g base 3 1 hs[j].v hs[j].k hs[j].xs)) (fun i=>hs.length - i) (0) ⟨rfl,rfl,trivial⟩ ?_ ?_
 ·exact ⟨by omega,BY.refl _ _,fun j f h=>by omega,fun j f _=>m.own _ (getElem_mem f)⟩
 rintro i o ⟨hi,C,N,R⟩
 have Q:=hA.chg C M
 have I:=AI (AV X C K)
 refine An<|Af<|Ac O<|Ac O<|Aa (Br O) O<|Be underlying56 O (IR _)<|Aa (Ah (KH _) O Q Y) O<|Aa (Au (sz:=3) J5 O I) O<|B3 O<|Ak<|Aq O ?_ ?_
 ·intro h
  have a:i<hs.length:=by simp at h;omega
  have s:=getElem_mem a
  have Z:=m.few _ s
  have E:=m.num _ s
  have D:hs[i].g.oneCell' =true:=by rw [m.new _ s];rfl
  have v:=(m.own _ s).len
  have G:∀b,hs[i].v.ownBlock=some b→b<w.heap.size:=fun b e=>(m.blk ⟨_,s,e⟩).2
  refine B0<|An<|Ao<|Af<|Ac O<|Aa (Br O) O<|Be underlying56 O (IR _)<|Aa (Ah (KH _) O Q Y) O<|Ac O<|Aa (Ci J5 O O I i O a) O<|Aa (Cq (cs:=hs[i].cells) (Qq _) (Pm _) O I O (by decide) (BV a)) O<|C1 (cs:=hs[i].cells) LN O O O O (fun _=>rfl) (by simp [Hd.cells,(m.own _ s).sl.one',D,EB]) ?_
  rintro B w2 T l q U
  have J:=C.below q
  have z1:=C.size
  have V:=(R i a (AX _)).bs q
  refine Bl<|Ab O<|Ak<|Ao ?_
  refine Bq (S:=Nat) (fun k=>[(0, .pointer (some ⟨A,0,none⟩)),(2, .int .i64 (i:Int)),(3, .pointer (some ⟨B,0,none⟩)),(4, .int .i64 (k:Int))]) (fun k g=>k≤hs[i].k∧AO g B 135 hs[i].cells∧BY (BL hs) w g∧BY (fun b=>hs[i].v.ownBlock=some b) w2 g∧BM g base 3 1 hs[i].v hs[i].k (CA DT k hs[i].n++hs[i].xs.drop k)) (fun k=>hs[i].k - k) (0) ⟨rfl,rfl,rfl,rfl,trivial⟩ ?_ ?_
  ·exact ⟨by omega,l,J,BY.refl _ _,by simpa [CA] using V⟩
  clear l V
  rintro k w3 ⟨L,l,F,z,y⟩
  refine An<|Af<|Ac O<|Be underlying135 O (AN _)<|Aa (Ah (AF _) O ‹_› rfl) O ?_
  refine Aa (Au (sz:=1) AC O y.sl) O<|B3 O<|Ak<|Aq O ?_ ?_
  ·intro h
   have c:k<hs[i].k:=by simp at h;omega
   refine B0<|An<|Ao<|Cw.tail 7 AS (by kernel_rfl)<|Ad (fun o d=>Cd underlying135 O (AN _)) O<|Ad (fun o d=>Ah (AF _) O (AO.bs ‹_› d) O) O ?_
   refine Bg O<|Ad (fun o d=>Cd underlying135 O (BA _)) O<|Ad (fun o d=>Ah (AK _) O (AO.bs ‹_› d) O) O ?_
   refine C3 O O (fun o d=>(MH hs[i].n o E).q d)<|Ad (fun o d=>Dn AC O O y.sl.shp k O c) O ?_
   refine Dc (fun w4 d=> ?_)
   refine Az (Ge (BA _) O O O (y.bs d) (by rw [Kt (by simpa using v) L];exact c)) ?_
   rintro w5 ⟨W,t, -⟩
   rw [Jm (by simpa using v) c] at W
   have b5:=(l.bs d).by t (fun e=>by have:=G _ e.symm;omega)
   refine Bf<|Bn<|Ch<|Ac O<|B7 O (by omega)<|Ab O<|Bf ?_
   exact Ap (Pw.next (k+1) ⟨rfl,rfl,rfl,rfl,trivial⟩ (⟨c,b5,(F.below d).grown t (fun b e=> .inl ⟨_,s,e⟩),(z.below d).grown t (fun b e=> .inl e),W⟩) (by omega))
  intro h
  have c:k=hs[i].k:=by simp at h;omega
  rw [drop_of_length_le (by omega),append_nil,c] at y
  have hall:BY (fun b=>hs[i].v.ownBlock=some b) o w3:=(BY.of_below q).trans z
  refine Bp<|Al<|Al<|Bd<|Bn<|Ch<|Ac O<|B7 O (by omega)<|Ab O<|Bf ?_
  exact Ap (Pw.next (i+1) ⟨rfl,rfl,trivial⟩ (⟨a,F,fun j f H=>(if e:j=i then by subst e;exact y else (N j f (by omega)).chg hall fun b e1 e2=>BX m.apart a f (Ne.symm e) b e2 e1),fun j f H=>(R j f (by omega)).chg hall fun b e1 e2=>BX m.apart a f (by omega) b e2 e1⟩) (by omega))
 intro h
 have a:i=hs.length:=by simp at h;omega
 refine Bp<|Al<|Al<|Bd<|C9 O ?_
 refine ⟨rfl,C,fun x hx=> ?_⟩
 obtain ⟨j,f,rfl⟩:=List.mem_iff_getElem.1 hx
 exact N j f (by omega)
theorem RD (A:Nat) (B:List Value) (u:Value) (hs:List Hd) (lo base:Nat) (w:World) (hA:AO w A BO B) (hu:B[2]? =some u) (ho:w.ownsRow lo 135 3 u hs.length (BF hs)) (E:KOk hs) (hf:He w base 3 DT hs)
  (Z:¬BL hs A) (l:∀b,u.ownBlock=some b→¬BL hs b) (R:u.ownBlock≠some A) (hbase:base≤w.heap.size):
  AM prog 68 [.pointer (some ⟨A,0,none⟩)] w (fun r m=>r= .tuple #[]∧BY (fun b=>BL hs b∨u.ownBlock=some b) w m∧∃ts,EA w hs ts∧m.ownsRow lo 135 3 u hs.length (BF ts)∧∀t ∈ ts,EE m DT t):=by
 have hle:=(AI ho).le
 refine Bb (n:=42) func68 O<|Af<|Ab O<|Ak<|Ao ?_
 refine Bq (S:=(Nat×List Hd)) (fun s=>[(0, .pointer (some ⟨A,0,none⟩)),(2, .int .i64 (s.1:Int))]) (fun s m=>s.1≤hs.length∧EA w hs s.2∧(∀t ∈ s.2,t.g.oneCell' =true)∧BY (fun b=>BL hs b∨u.ownBlock=some b) w m∧m.ownsRow lo 135 3 u hs.length (BF s.2)∧(∀j (f:j<s.2.length),j<s.1→EE m DT s.2[j])∧(∀j (f:j<hs.length),s.1≤j→BM m base 3 1 hs[j].v hs[j].k (CA DT hs[j].k hs[j].n))) (fun s=>hs.length - s.1) ((0,hs)) ⟨rfl,rfl,trivial⟩ ?_ ?_
 ·exact ⟨by simp,Ep w E.new,fun t N=>(by rw [E.new t N];rfl),BY.refl _ _,ho,fun j f h=>by simp at h,fun j f _=>hf _ (getElem_mem f)⟩
 rintro ⟨i,ts⟩ w1 ⟨hi,K,h1,L,o1,hd,N⟩
 dsimp only at hi K h1 L o1 hd N ⊢
 have b1:=hA.chg L (fun e=>e.elim Z R)
 have s1:=AI o1
 have hlen:=K.len
 refine An<|Af<|Ac O<|Ac O<|Aa (Br O) O<|Be underlying56 O (IR _)<|Aa (Ah (KH _) O b1 hu) O<|Aa (Au (sz:=3) J5 O s1) O<|B3 O<|Ak<|Aq O ?_ ?_
 ·intro h
  have a:i<hs.length:=by simp at h;omega
  have q:i<ts.length:=by omega
  obtain ⟨ev,ek,en,eg⟩:=K.all i a q
  have z:=getElem_mem a
  have hmt:=getElem_mem q
  have hfew:=E.few _ z
  have Y:=E.num _ z
  have Q:=h1 _ hmt
  have V:∀b,hs[i].v.ownBlock=some b→b<w.heap.size:=fun b e=>(hf.blk ⟨_,z,e⟩).2
  refine B0<|An<|Ao<|Af<|Ac O<|Aa (Br O) O<|Be underlying56 O (IR _)<|Aa (Ah (KH _) O b1 hu) O<|Ac O<|Aa (Ci J5 O O s1 i O a) O<|Aa (Cq (cs:=ts[i].cells) (Qq _) (Pm _) O s1 O (by decide) (BV q)) O<|C1 (cs:=ts[i].cells) LN O O O O (fun _=>rfl) (by simp [Hd.cells,ev,(hf _ z).sl.one',Q,EB]) ?_
  rintro I w2 eA_h x J zhn2
  have hc2:=L.below J
  have z1:=L.size
  have z2:=hc2.size
  have r0:=(N i a (AX _)).bs J
  refine Bl<|Be underlying135 O (AN _)<|Aa (Ah (AF _) O ‹_› rfl) O ?_
  refine Ab O<|Bh<|Ab O<|Ak<|Ao<|D5 4 (v' :=hs[i].v) O (ev) ?_
  refine Bq (S:=(Nat×Value)) (fun s=>[(0, .pointer (some ⟨A,0,none⟩)),(2, .int .i64 (i:Int)),(3, .pointer (some ⟨I,0,none⟩)),(4,s.2),(5, .int .i64 (s.1:Int))]) (fun s m=>s.1≤40∧AO m I 135 ts[i].cells∧BY (fun b=>hs[i].v.ownBlock=some b) w2 m∧BM m base 3 1 s.2 (hs[i].k+s.1) (CA DT (hs[i].k+s.1) hs[i].n)∧(∀b,s.2.ownBlock=some b→hs[i].v.ownBlock=some b∨w2.heap.size≤b)∧Sl m 1 hs[i].v hs[i].k (CA DT hs[i].k hs[i].n)) (fun s=>40 - s.1) ((0,hs[i].v)) ⟨rfl,rfl,rfl,rfl,rfl,trivial⟩ ?_ ?_
  ·exact ⟨by simp,x,BY.refl _ _,r0,fun b e=> .inl e,r0.sl⟩
  clear x
  rintro ⟨k,g⟩ w3 ⟨hk3,x,D,T,o,l3⟩
  dsimp only at hk3 T o ⊢
  have z3:=D.size
  refine An<|Af<|Ac O<|B3 O<|Ak<|Aq O ?_ ?_
  ·intro h
   have C:k<40:=by simp at h;omega
   refine B0<|An<|Ao<|Bw<|Ac O<|Be underlying135 O (BA _)<|Aa (Ah (AK _) O ‹_› rfl) O ?_
   refine C5 30 (v' := .int .i64 hs[i].n) O (cngA (Value.int .i64) en)<|Aj O O (MH hs[i].n w3 Y) ?_
   rintro _ F ⟨rfl,hn4⟩
   refine Bk (Dl (vs:=[DT hs[i].n]) AC DI O O O O O) O ?_
   rintro nv w5 ⟨o5, -,hn5, -⟩
   have d:=bt hn4 hn5
   have z5:=d.size
   have r5:=T.bs d
   refine Bk (Eo (base:=base) AC DI O (by decide) O O r5 (AI o5) O (by omega) (by omega) (by omega) (AX _)) O ?_
   rintro g' w6 ⟨r6,G,v⟩
   have l5:=l3.bs d
   have b5:=x.bs d
   have e6:CA DT (hs[i].k+k) hs[i].n++[DT hs[i].n]=CA DT (hs[i].k+(k+1)) hs[i].n:=Jn
   rw [e6] at r6
   have hgA:some I≠g.ownBlock:=fun e=>by
    rcases o _ e.symm with c|c
    ·have:=V _ c;omega
    ·omega
   have l6:Sl w6 1 hs[i].v hs[i].k (CA DT hs[i].k hs[i].n):=Js r0 (.inl r6) G v l5 (by omega) (by simp [CA])
   have U:∀b,g'.ownBlock=some b→hs[i].v.ownBlock=some b∨w2.heap.size≤b:=fun b e=>by
    rcases v with c|⟨c, -⟩
    ·rw [c] at e;exact o b e
    ·exact .inr (by have:=c b e;omega)
   refine Ab O<|Bf<|Bn<|Ch<|Ac O<|B7 O (by omega)<|Ab O<|Bf ?_
   exact Ap (Pw.next ((k+1,g')) ⟨rfl,rfl,rfl,rfl,rfl,trivial⟩ (⟨C,b5.by G hgA,(D.below d).grown G o, .inl r6,U,l6⟩) (by simp only;omega))
  intro h
  have C:k=40:=by simp at h;omega
  subst C
  have hall:BY (fun b=>hs[i].v.ownBlock=some b) w1 w3:=(BY.of_below J).trans D
  have W:BY (fun b=>BL hs b∨u.ownBlock=some b) w w3:=L.trans (hall.mono fun b e=> .inl ⟨_,z,e⟩)
  have b3:=hA.chg W (fun e=>e.elim Z R)
  have o3:=AV o1 hall (fun b e1 e2=>l b e1 ⟨_,z,e2⟩)
  refine Bp<|Al<|Al<|Bd<|Ch<|Ac O<|Aa (Br O) O<|Be underlying56 O (IR _)<|Aa (Ah (KH _) O b3 hu) O<|Ac O<|Ac O<|Aa (Ci J5 O O (AI o3) i O a) O<|Aa (C2 underlying135 O (AN _) O (Im o3 (by omega))) O<|Az (D3 (j:=i*3+1) (AN _) O O T.sl.one' o3 (by rw [Gp];omega)) ?_
  rintro F ⟨o4,y, -⟩
  have e4:=Gn q g
  have o4:F.ownsRow lo 135 3 u hs.length (BF (ts.set i {ts[i] with g:=g})):=by rw [← e4];exact o4
  have hG4:=K.set a q (g:=g) (fun b e=>by
   rcases o b e with c|c
   ·exact .inl c
   ·exact .inr (by omega))
  have p:BY (fun b=>hs[i].v.ownBlock=some b∨u.ownBlock=some b) w1 F:=(hall.mono fun b e=> .inl e).grown y (fun b e=> .inl (.inr e))
  have hS4:BY (fun b=>BL hs b∨u.ownBlock=some b) w F:=W.grown y (fun b e=> .inl (.inr e))
  have t4:EE F DT {ts[i] with g:=g}:=by
   refine ⟨?_, ?_⟩
   ·simp only;rw [ev,ek,en]
    refine l3.by y ?_
    cases hv:hs[i].v.ownBlock with
    |none=>exact .inl rfl
    |some b=>exact .inr fun e=>l b e.symm ⟨_,z,hv⟩
   ·simp only;rw [ek,en]
    refine T.sl.by y ?_
    cases hv:g.ownBlock with
    |none=>exact .inl rfl
    |some b=>
     refine .inr fun e=> ?_
     rcases o b hv with c|c
     ·exact l b e.symm ⟨_,z,c⟩
     ·have:=(AG ho b e.symm).2;omega
  have h14:∀t ∈ ts.set i {ts[i] with g:=g},t.g.oneCell' =true:=fun t H=>by
   rcases mem_or_eq_of_mem_set H with c|c
   ·exact h1 t c
   ·rw [c];exact T.sl.one'
  have hd4:∀j (f:j<(ts.set i {ts[i] with g:=g}).length),j<i+1→EE F DT (ts.set i {ts[i] with g:=g})[j]:=fun j f hji=>by
    rw [getElem_set]
    split
    ·exact t4
    ·rename_i M
     have X:j<ts.length:=by simpa using f
     obtain ⟨fv,_,_,fg⟩:=K.all j (by omega) X
     refine (hd j X (by omega)).chg p (fun b e1 _ e2=> ?_) (fun b e1 _ e2=> ?_)
     ·rw [fv] at e1
      rcases e2 with e2|e2
      ·exact BX E.apart a (show j<hs.length by omega) M b e2 e1
      ·exact l b e2 ⟨_,getElem_mem _,e1⟩
     ·rcases e2 with e2|e2
      ·rcases fg b e1 with c|c
       ·exact BX E.apart a (show j<hs.length by omega) M b e2 c
       ·have:=V b e2;omega
      ·rcases fg b e1 with c|c
       ·exact l b e2 ⟨_,getElem_mem _,c⟩
       ·have:=(AG ho b e2).2;omega
  have ht4:∀j (f:j<hs.length),i+1≤j→BM F base 3 1 hs[j].v hs[j].k (CA DT hs[j].k hs[j].n):=fun j f hji=>(N j f (by omega)).chg p (fun b e1 e2=>(by
    rcases e2 with e2|e2
    ·exact BX E.apart a f (by omega) b e2 e1
    ·exact l b e2 ⟨_,getElem_mem _,e1⟩))
  refine Bf<|Bn<|Ch<|Ac O<|B7 O (by omega)<|Ab O<|Bf ?_
  exact Ap (Pw.next ((i+1,ts.set i {ts[i] with g:=g})) ⟨rfl,rfl,trivial⟩ (⟨a,hG4,h14,hS4,o4,hd4,ht4⟩) (by simp only;omega))
 intro h
 have a:i=hs.length:=by simp at h;omega
 refine Bp<|Al<|Al<|Bd<|C9 O ?_
 refine ⟨rfl,L,ts,K,o1,fun t H=> ?_⟩
 obtain ⟨j,f,rfl⟩:=List.mem_iff_getElem.1 H
 exact hd j f (by omega)
theorem Ry (A:Nat) (j:List Value) (u:Value) (ts:List Hd) (U:Nat) (w:World) (N:AO w A BO j) (H:j[2]? =some u) (G:w.ownsRow U 135 3 u ts.length (BF ts)) (M:∀t ∈ ts,EE w DT t) (R:∀t ∈ ts,(0≤t.n∧t.n≤4000000)∧t.k≤16777216):
  AM prog 83 [.pointer (some ⟨A,0,none⟩)] w (fun r o=>r= .bool true∧Below w.heap.size w o):=by
 have T:=(AI G).le
 refine Bb (n:=64) func83 O<|Af<|Ab O<|Bh<|Ab O<|Ak<|Ao ?_
 refine Bq (S:=Nat) (fun i=>[(0, .pointer (some ⟨A,0,none⟩)),(2, .bool false),(3, .int .i64 (i:Int))]) (fun i o=>i≤ts.length∧Below w.heap.size w o) (fun i=>ts.length - i) (0) ⟨rfl,rfl,rfl,trivial⟩ ?_ ?_
 ·exact ⟨by omega,Below.refl _ _⟩
 rintro i b ⟨X,f⟩
 have C:=N.bs f
 have y:=(AI G).bs f
 refine An<|Af<|Ac O<|Ac O<|Aa (Br O) O<|Be underlying56 O (IR _)<|Aa (Ah (KH _) O C H) O<|Aa (Au (sz:=3) J5 O y) O<|B3 O<|Ak<|Aq O ?_ ?_
 ·intro h
  have e:i<ts.length:=by simp at h;omega
  have I:=getElem_mem e
  obtain ⟨l,J⟩:=R _ I
  have q:=M _ I
  refine B0<|An<|Ao<|Af<|Ac O<|Aa (Br O) O<|Be underlying56 O (IR _)<|Aa (Ah (KH _) O C H) O<|Ac O<|Aa (Ci J5 O O y i O e) O<|Aa (Cq (cs:=ts[i].cells) (Qq _) (Pm _) O y O (by decide) (BV e)) O<|C1 (cs:=ts[i].cells) LN O O O O (fun _=>rfl) (by simp [Hd.cells,q.l.one',q.g.one',EB]) ?_
  rintro v K D s z F
  have m:=bt f z
  have l2:=q.l.bs m
  have E:=q.g.bs m
  refine Bh<|Be underlying135 O (AN _)<|Aa (Ah (AF _) O ‹_› rfl) O ?_
  refine Aa (Au (sz:=1) AC O E) O<|Be underlying135 O (AN _)<|Aa (Ah (AF _) O ‹_› rfl) O ?_
  refine Aa (Au (sz:=1) AC O l2) O<|B7 O (by omega)<|Aa (Cs O O) O<|Ak<|Ca O false (by simp)<|Co<|Ab O<|Ak<|Ao ?_
  refine Bq (S:=Nat) (fun k=>[(0, .pointer (some ⟨A,0,none⟩)),(2, .bool false),(3, .int .i64 (i:Int)),(4, .pointer (some ⟨v,0,none⟩)),(5, .int .i64 (k:Int))]) (fun k o=>k≤ts[i].k+40∧Below K.heap.size K o) (fun k=>ts[i].k+40 - k) (0) ⟨rfl,rfl,rfl,rfl,rfl,trivial⟩ ?_ ?_
  ·exact ⟨by omega,Below.refl _ _⟩
  rintro k V ⟨Q,c⟩
  have x:=l2.bs c
  have B:=E.bs c
  have W:=s.bs c
  refine An<|Af<|Ac O<|Be underlying135 O (AN _)<|Aa (Ah (AF _) O ‹_› rfl) O ?_
  refine Aa (Au (sz:=1) AC O B) O<|B3 O<|Ak<|Aq O ?_ ?_
  ·intro h
   have d:k<ts[i].k+40:=by simp at h;omega
   refine B0<|An<|Ao<|An<|Cv AS (by kernel_rfl)<|Ad (fun b a=>Cd underlying135 O (AN _)) O<|Ad (fun b a=>Ah (AF _) O (AO.bs ‹_› a) O) O ?_
   refine Bg O<|Ad (fun b a=>Dn AC O O B.shp k O d) O<|Ad (fun b a=>D1 (u:=DT ts[i].n) (AK _) O (B.bs a) (GO d)) O<|Ad (fun b a=>Cd underlying135 O (BA _)) O<|Ad (fun b a=>Ah (AK _) O (AO.bs ‹_› a) O) O ?_
   refine C3 O O (fun b a=>(QX ts[i].n b l).q a)<|Ad (fun b a=>Ck O) O<|Bg O<|Eu 46 (v' := .bool false) O (cngA Value.bool (rfl))<|Ba (dj:=46) O O<|Bg O<|Ba (dj:=46) O O<|Ad (fun b a=>Cd underlying135 O (AN _)) O<|Ba (dj:=46) O O<|Ad (fun b a=>Ah (AF _) O (AO.bs ‹_› a) O) O ?_
   refine Ba (dj:=46) O O<|Ad (fun b a=>Au (sz:=1) AC O (x.bs a)) O<|Ba (dj:=46) O O<|Ad (fun b a=>Eh O O) O<|Ba (dj:=46) O O<|Bg O ?_
   refine Dm 52 O ?_ ?_
   ·intro g
    have p:k<ts[i].k:=by simpa using g
    refine Ba (dj:=52) O O<|Ad (fun b a=>Cd underlying135 O (AN _)) O<|Ba (dj:=52) O O<|Ad (fun b a=>Ah (AF _) O (AO.bs ‹_› a) O) O ?_
    refine Ba (dj:=52) O O<|Bg O<|Ba (dj:=52) O O<|Ad (fun b a=>Dn AC O O x.shp k O p) O<|Ba (dj:=52) O O<|Ad (fun b a=>D1 (u:=DT ts[i].n) (AK _) O (x.bs a) (GO p)) O<|Ba (dj:=52) O O<|Ad (fun b a=>Cd underlying135 O (BA _)) O<|Ba (dj:=52) O O<|Ad (fun b a=>Ah (AK _) O (AO.bs ‹_› a) O) O ?_
    refine Ba (dj:=52) O O<|C3 O O (fun b a=>(QX ts[i].n b l).q a)<|Ba (dj:=52) O O<|Ad (fun b a=>Ck O) O<|Ba (dj:=46) O O<|Ad (fun b a=>Ct O O) O<|Ad (fun b a=>Cz O O) O ?_
    refine Cr (fun L a=> ?_)
    refine Ap<|B8<|Ca O false (rfl)<|Cp<|Bn<|Ch<|Ac O<|B7 O (by omega)<|Ab O<|Bf ?_
    exact Ap (Pw.next (k+1) ⟨rfl,rfl,rfl,rfl,rfl,trivial⟩ (⟨d,bt c a⟩) (by omega))
   ·intro g
    refine Ar (dj:=52) O O O O<|Ar (dj:=52) O O O O<|Ar (dj:=52) O O O O<|Ar (dj:=52) O O O O<|Ar (dj:=52) O O O O<|Ar (dj:=52) O O O O<|Ar (dj:=52) O O O O<|Ar (dj:=52) O O O O<|Ar (dj:=52) O O O O<|Ba (dj:=46) O O<|Ad (fun b a=>Cz O O) O<|Ad (fun b a=>Cz O O) O ?_
    refine Cr (fun L a=> ?_)
    refine Ap<|B8<|D6 O<|Cp<|Bn<|Ch<|Ac O<|B7 O (by omega)<|Ab O<|Bf ?_
    exact Ap (Pw.next (k+1) ⟨rfl,rfl,rfl,rfl,rfl,trivial⟩ (⟨d,bt c a⟩) (by omega))
  intro h
  refine Bp<|Al<|Al<|Bd<|Bn<|Ch<|Ac O<|B7 O (by omega)<|Ab O<|Bf ?_
  exact Ap (Pw.next (i+1) ⟨rfl,rfl,rfl,trivial⟩ (⟨e,bt m c⟩) (by omega))
 intro h
 exact Bp<|Al<|Al<|Bd<|Cm<|Ab rfl<|Bc<|Ax rfl rfl<|⟨rfl,f⟩
abbrev BU (n:Int):Value:=i32 (BitVec.ofInt 32 (-n))
theorem JF (n:Int) (w:World) (_hn:0≤n∧n≤4000000):AM prog 157 [.int .i64 n] w (fun r a=>r=BU n∧Below w.heap.size w a):=by
 refine Bb (n:=6) func157 O<|Af<|Aa (Cf (show _=some (i32 (0#32)) from rfl)) O<|Bl<|Ac O<|Aa (Es O (by omega)) O<|Aa (Ez UF M1 O) O<|Ab O<|Bc<|Ax O O ?_
 exact ⟨rfl,Below.refl _ _⟩
theorem LS (n:Int) (w:World) (_hn:0≤n∧n≤4000000):AM prog 172 [BU n, .int .i64 n] w (fun r a=>r= .bool true∧Below w.heap.size w a):=by
 refine Bb (n:=10) func172 O<|Af<|Ab O<|Bl<|Ac O<|Ac O<|Aa (Es O (by omega)) O<|Aa (Ez UF M1 O) O<|Aa (Fx O O) O<|Ab O<|Bc<|Ax O O ?_
 exact ⟨cngA Value.bool (by simp),Below.refl _ _⟩
theorem N9 (A:Nat) (p:List Value) (u:Value) (hs:List Hd) (lo base:Nat) (w:World) (hA:AO w A BO p) (Y:p[3]? =some u) (X:w.ownsRow lo 138 3 u hs.length (BF hs)) (m:FJ w base 21 1 hs)
  (M:¬BL hs A) (K:∀b,u.ownBlock=some b→¬BL hs b):
  AM prog 54 [.pointer (some ⟨A,0,none⟩)] w (fun r g=>r= .tuple #[]∧BY (BL hs) w g∧He g base 21 BU hs):=by
 have hle:=(AI X).le
 refine Bb (n:=35) func54 O<|Af<|Ab O<|Ak<|Ao ?_
 refine Bq (S:=Nat) (fun i=>[(0, .pointer (some ⟨A,0,none⟩)),(2, .int .i64 (i:Int))]) (fun i g=>i≤hs.length∧BY (BL hs) w g∧(∀j (f:j<hs.length),j<i→BM g base 21 1 hs[j].v hs[j].k (CA BU hs[j].k hs[j].n))∧(∀j (f:j<hs.length),i≤j→BM g base 21 1 hs[j].v hs[j].k hs[j].xs)) (fun i=>hs.length - i) (0) ⟨rfl,rfl,trivial⟩ ?_ ?_
 ·exact ⟨by omega,BY.refl _ _,fun j f h=>by omega,fun j f _=>m.own _ (getElem_mem f)⟩
 rintro i o ⟨hi,C,N,R⟩
 have Q:=hA.chg C M
 have I:=AI (AV X C K)
 refine An<|Af<|Ac O<|Ac O<|Aa (Br O) O<|Be underlying56 O (IQ _)<|Aa (Ah (KG _) O Q Y) O<|Aa (Au (sz:=3) J3 O I) O<|B3 O<|Ak<|Aq O ?_ ?_
 ·intro h
  have a:i<hs.length:=by simp at h;omega
  have s:=getElem_mem a
  have Z:=m.few _ s
  have E:=m.num _ s
  have D:hs[i].g.oneCell' =true:=by rw [m.new _ s];rfl
  have v:=(m.own _ s).len
  have G:∀b,hs[i].v.ownBlock=some b→b<w.heap.size:=fun b e=>(m.blk ⟨_,s,e⟩).2
  refine B0<|An<|Ao<|Af<|Ac O<|Aa (Br O) O<|Be underlying56 O (IQ _)<|Aa (Ah (KG _) O Q Y) O<|Ac O<|Aa (Ci J3 O O I i O a) O<|Aa (Cq (cs:=hs[i].cells) (Qp _) (Pl _) O I O (by decide) (BV a)) O<|C1 (cs:=hs[i].cells) LM O O O O (fun _=>rfl) (by simp [Hd.cells,(m.own _ s).sl.one',D,EB]) ?_
  rintro B w2 T l q U
  have J:=C.below q
  have z1:=C.size
  have V:=(R i a (AX _)).bs q
  refine Bl<|Ab O<|Ak<|Ao ?_
  refine Bq (S:=Nat) (fun k=>[(0, .pointer (some ⟨A,0,none⟩)),(2, .int .i64 (i:Int)),(3, .pointer (some ⟨B,0,none⟩)),(4, .int .i64 (k:Int))]) (fun k g=>k≤hs[i].k∧AO g B 138 hs[i].cells∧BY (BL hs) w g∧BY (fun b=>hs[i].v.ownBlock=some b) w2 g∧BM g base 21 1 hs[i].v hs[i].k (CA BU k hs[i].n++hs[i].xs.drop k)) (fun k=>hs[i].k - k) (0) ⟨rfl,rfl,rfl,rfl,trivial⟩ ?_ ?_
  ·exact ⟨by omega,l,J,BY.refl _ _,by simpa [CA] using V⟩
  clear l V
  rintro k w3 ⟨L,l,F,z,y⟩
  refine An<|Af<|Ac O<|Be underlying138 O (BC _)<|Aa (Ah (BG _) O ‹_› rfl) O ?_
  refine Aa (Au (sz:=1) AU O y.sl) O<|B3 O<|Ak<|Aq O ?_ ?_
  ·intro h
   have c:k<hs[i].k:=by simp at h;omega
   refine B0<|An<|Ao<|Cw.tail 7 AS (by kernel_rfl)<|Ad (fun o d=>Cd underlying138 O (BC _)) O<|Ad (fun o d=>Ah (BG _) O (AO.bs ‹_› d) O) O ?_
   refine Bg O<|Ad (fun o d=>Cd underlying138 O (BA _)) O<|Ad (fun o d=>Ah (AK _) O (AO.bs ‹_› d) O) O ?_
   refine C3 O O (fun o d=>(JF hs[i].n o E).q d)<|Ad (fun o d=>Dn AU O O y.sl.shp k O c) O ?_
   refine Dc (fun w4 d=> ?_)
   refine Az (Ge (ER _) O O O (y.bs d) (by rw [Kt (by simpa using v) L];exact c)) ?_
   rintro w5 ⟨W,t, -⟩
   rw [Jm (by simpa using v) c] at W
   have b5:=(l.bs d).by t (fun e=>by have:=G _ e.symm;omega)
   refine Bf<|Bn<|Ch<|Ac O<|B7 O (by omega)<|Ab O<|Bf ?_
   exact Ap (Pw.next (k+1) ⟨rfl,rfl,rfl,rfl,trivial⟩ (⟨c,b5,(F.below d).grown t (fun b e=> .inl ⟨_,s,e⟩),(z.below d).grown t (fun b e=> .inl e),W⟩) (by omega))
  intro h
  have c:k=hs[i].k:=by simp at h;omega
  rw [drop_of_length_le (by omega),append_nil,c] at y
  have hall:BY (fun b=>hs[i].v.ownBlock=some b) o w3:=(BY.of_below q).trans z
  refine Bp<|Al<|Al<|Bd<|Bn<|Ch<|Ac O<|B7 O (by omega)<|Ab O<|Bf ?_
  exact Ap (Pw.next (i+1) ⟨rfl,rfl,trivial⟩ (⟨a,F,fun j f H=>(if e:j=i then by subst e;exact y else (N j f (by omega)).chg hall fun b e1 e2=>BX m.apart a f (Ne.symm e) b e2 e1),fun j f H=>(R j f (by omega)).chg hall fun b e1 e2=>BX m.apart a f (by omega) b e2 e1⟩) (by omega))
 intro h
 have a:i=hs.length:=by simp at h;omega
 refine Bp<|Al<|Al<|Bd<|C9 O ?_
 refine ⟨rfl,C,fun x hx=> ?_⟩
 obtain ⟨j,f,rfl⟩:=List.mem_iff_getElem.1 hx
 exact N j f (by omega)
theorem N6 (A:Nat) (B:List Value) (u:Value) (hs:List Hd) (lo base:Nat) (w:World) (hA:AO w A BO B) (hu:B[3]? =some u) (ho:w.ownsRow lo 138 3 u hs.length (BF hs)) (E:KOk hs) (hf:He w base 21 BU hs)
  (Z:¬BL hs A) (l:∀b,u.ownBlock=some b→¬BL hs b) (R:u.ownBlock≠some A) (hbase:base≤w.heap.size):
  AM prog 69 [.pointer (some ⟨A,0,none⟩)] w (fun r m=>r= .tuple #[]∧BY (fun b=>BL hs b∨u.ownBlock=some b) w m∧∃ts,EA w hs ts∧m.ownsRow lo 138 3 u hs.length (BF ts)∧∀t ∈ ts,EE m BU t):=by
 have hle:=(AI ho).le
 refine Bb (n:=42) func69 O<|Af<|Ab O<|Ak<|Ao ?_
 refine Bq (S:=(Nat×List Hd)) (fun s=>[(0, .pointer (some ⟨A,0,none⟩)),(2, .int .i64 (s.1:Int))]) (fun s m=>s.1≤hs.length∧EA w hs s.2∧(∀t ∈ s.2,t.g.oneCell' =true)∧BY (fun b=>BL hs b∨u.ownBlock=some b) w m∧m.ownsRow lo 138 3 u hs.length (BF s.2)∧(∀j (f:j<s.2.length),j<s.1→EE m BU s.2[j])∧(∀j (f:j<hs.length),s.1≤j→BM m base 21 1 hs[j].v hs[j].k (CA BU hs[j].k hs[j].n))) (fun s=>hs.length - s.1) ((0,hs)) ⟨rfl,rfl,trivial⟩ ?_ ?_
 ·exact ⟨by simp,Ep w E.new,fun t N=>(by rw [E.new t N];rfl),BY.refl _ _,ho,fun j f h=>by simp at h,fun j f _=>hf _ (getElem_mem f)⟩
 rintro ⟨i,ts⟩ w1 ⟨hi,K,h1,L,o1,hd,N⟩
 dsimp only at hi K h1 L o1 hd N ⊢
 have b1:=hA.chg L (fun e=>e.elim Z R)
 have s1:=AI o1
 have hlen:=K.len
 refine An<|Af<|Ac O<|Ac O<|Aa (Br O) O<|Be underlying56 O (IQ _)<|Aa (Ah (KG _) O b1 hu) O<|Aa (Au (sz:=3) J3 O s1) O<|B3 O<|Ak<|Aq O ?_ ?_
 ·intro h
  have a:i<hs.length:=by simp at h;omega
  have q:i<ts.length:=by omega
  obtain ⟨ev,ek,en,eg⟩:=K.all i a q
  have z:=getElem_mem a
  have hmt:=getElem_mem q
  have hfew:=E.few _ z
  have Y:=E.num _ z
  have Q:=h1 _ hmt
  have V:∀b,hs[i].v.ownBlock=some b→b<w.heap.size:=fun b e=>(hf.blk ⟨_,z,e⟩).2
  refine B0<|An<|Ao<|Af<|Ac O<|Aa (Br O) O<|Be underlying56 O (IQ _)<|Aa (Ah (KG _) O b1 hu) O<|Ac O<|Aa (Ci J3 O O s1 i O a) O<|Aa (Cq (cs:=ts[i].cells) (Qp _) (Pl _) O s1 O (by decide) (BV q)) O<|C1 (cs:=ts[i].cells) LM O O O O (fun _=>rfl) (by simp [Hd.cells,ev,(hf _ z).sl.one',Q,EB]) ?_
  rintro I w2 eA_h x J zhn2
  have hc2:=L.below J
  have z1:=L.size
  have z2:=hc2.size
  have r0:=(N i a (AX _)).bs J
  refine Bl<|Be underlying138 O (BC _)<|Aa (Ah (BG _) O ‹_› rfl) O ?_
  refine Ab O<|Bh<|Ab O<|Ak<|Ao<|D5 4 (v' :=hs[i].v) O (ev) ?_
  refine Bq (S:=(Nat×Value)) (fun s=>[(0, .pointer (some ⟨A,0,none⟩)),(2, .int .i64 (i:Int)),(3, .pointer (some ⟨I,0,none⟩)),(4,s.2),(5, .int .i64 (s.1:Int))]) (fun s m=>s.1≤40∧AO m I 138 ts[i].cells∧BY (fun b=>hs[i].v.ownBlock=some b) w2 m∧BM m base 21 1 s.2 (hs[i].k+s.1) (CA BU (hs[i].k+s.1) hs[i].n)∧(∀b,s.2.ownBlock=some b→hs[i].v.ownBlock=some b∨w2.heap.size≤b)∧Sl m 1 hs[i].v hs[i].k (CA BU hs[i].k hs[i].n)) (fun s=>40 - s.1) ((0,hs[i].v)) ⟨rfl,rfl,rfl,rfl,rfl,trivial⟩ ?_ ?_
  ·exact ⟨by simp,x,BY.refl _ _,r0,fun b e=> .inl e,r0.sl⟩
  clear x
  rintro ⟨k,g⟩ w3 ⟨hk3,x,D,T,o,l3⟩
  dsimp only at hk3 T o ⊢
  have z3:=D.size
  refine An<|Af<|Ac O<|B3 O<|Ak<|Aq O ?_ ?_
  ·intro h
   have C:k<40:=by simp at h;omega
   refine B0<|An<|Ao<|Bw<|Ac O<|Be underlying138 O (BA _)<|Aa (Ah (AK _) O ‹_› rfl) O ?_
   refine C5 30 (v' := .int .i64 hs[i].n) O (cngA (Value.int .i64) en)<|Aj O O (JF hs[i].n w3 Y) ?_
   rintro _ F ⟨rfl,hn4⟩
   refine Bk (Dl (vs:=[BU hs[i].n]) AU DY O O O O O) O ?_
   rintro nv w5 ⟨o5, -,hn5, -⟩
   have d:=bt hn4 hn5
   have z5:=d.size
   have r5:=T.bs d
   refine Bk (Eo (base:=base) AU DY O (by decide) O O r5 (AI o5) O (by omega) (by omega) (by omega) (AX _)) O ?_
   rintro g' w6 ⟨r6,G,v⟩
   have l5:=l3.bs d
   have b5:=x.bs d
   have e6:CA BU (hs[i].k+k) hs[i].n++[BU hs[i].n]=CA BU (hs[i].k+(k+1)) hs[i].n:=Jn
   rw [e6] at r6
   have hgA:some I≠g.ownBlock:=fun e=>by
    rcases o _ e.symm with c|c
    ·have:=V _ c;omega
    ·omega
   have l6:Sl w6 1 hs[i].v hs[i].k (CA BU hs[i].k hs[i].n):=Js r0 (.inl r6) G v l5 (by omega) (by simp [CA])
   have U:∀b,g'.ownBlock=some b→hs[i].v.ownBlock=some b∨w2.heap.size≤b:=fun b e=>by
    rcases v with c|⟨c, -⟩
    ·rw [c] at e;exact o b e
    ·exact .inr (by have:=c b e;omega)
   refine Ab O<|Bf<|Bn<|Ch<|Ac O<|B7 O (by omega)<|Ab O<|Bf ?_
   exact Ap (Pw.next ((k+1,g')) ⟨rfl,rfl,rfl,rfl,rfl,trivial⟩ (⟨C,b5.by G hgA,(D.below d).grown G o, .inl r6,U,l6⟩) (by simp only;omega))
  intro h
  have C:k=40:=by simp at h;omega
  subst C
  have hall:BY (fun b=>hs[i].v.ownBlock=some b) w1 w3:=(BY.of_below J).trans D
  have W:BY (fun b=>BL hs b∨u.ownBlock=some b) w w3:=L.trans (hall.mono fun b e=> .inl ⟨_,z,e⟩)
  have b3:=hA.chg W (fun e=>e.elim Z R)
  have o3:=AV o1 hall (fun b e1 e2=>l b e1 ⟨_,z,e2⟩)
  refine Bp<|Al<|Al<|Bd<|Ch<|Ac O<|Aa (Br O) O<|Be underlying56 O (IQ _)<|Aa (Ah (KG _) O b3 hu) O<|Ac O<|Ac O<|Aa (Ci J3 O O (AI o3) i O a) O<|Aa (C2 underlying138 O (BC _) O (Im o3 (by omega))) O<|Az (D3 (j:=i*3+1) (BC _) O O T.sl.one' o3 (by rw [Gp];omega)) ?_
  rintro F ⟨o4,y, -⟩
  have e4:=Gn q g
  have o4:F.ownsRow lo 138 3 u hs.length (BF (ts.set i {ts[i] with g:=g})):=by rw [← e4];exact o4
  have hG4:=K.set a q (g:=g) (fun b e=>by
   rcases o b e with c|c
   ·exact .inl c
   ·exact .inr (by omega))
  have p:BY (fun b=>hs[i].v.ownBlock=some b∨u.ownBlock=some b) w1 F:=(hall.mono fun b e=> .inl e).grown y (fun b e=> .inl (.inr e))
  have hS4:BY (fun b=>BL hs b∨u.ownBlock=some b) w F:=W.grown y (fun b e=> .inl (.inr e))
  have t4:EE F BU {ts[i] with g:=g}:=by
   refine ⟨?_, ?_⟩
   ·simp only;rw [ev,ek,en]
    refine l3.by y ?_
    cases hv:hs[i].v.ownBlock with
    |none=>exact .inl rfl
    |some b=>exact .inr fun e=>l b e.symm ⟨_,z,hv⟩
   ·simp only;rw [ek,en]
    refine T.sl.by y ?_
    cases hv:g.ownBlock with
    |none=>exact .inl rfl
    |some b=>
     refine .inr fun e=> ?_
     rcases o b hv with c|c
     ·exact l b e.symm ⟨_,z,c⟩
     ·have:=(AG ho b e.symm).2;omega
  have h14:∀t ∈ ts.set i {ts[i] with g:=g},t.g.oneCell' =true:=fun t H=>by
   rcases mem_or_eq_of_mem_set H with c|c
   ·exact h1 t c
   ·rw [c];exact T.sl.one'
  have hd4:∀j (f:j<(ts.set i {ts[i] with g:=g}).length),j<i+1→EE F BU (ts.set i {ts[i] with g:=g})[j]:=fun j f hji=>by
    rw [getElem_set]
    split
    ·exact t4
    ·rename_i M
     have X:j<ts.length:=by simpa using f
     obtain ⟨fv,_,_,fg⟩:=K.all j (by omega) X
     refine (hd j X (by omega)).chg p (fun b e1 _ e2=> ?_) (fun b e1 _ e2=> ?_)
     ·rw [fv] at e1
      rcases e2 with e2|e2
      ·exact BX E.apart a (show j<hs.length by omega) M b e2 e1
      ·exact l b e2 ⟨_,getElem_mem _,e1⟩
     ·rcases e2 with e2|e2
      ·rcases fg b e1 with c|c
       ·exact BX E.apart a (show j<hs.length by omega) M b e2 c
       ·have:=V b e2;omega
      ·rcases fg b e1 with c|c
       ·exact l b e2 ⟨_,getElem_mem _,c⟩
       ·have:=(AG ho b e2).2;omega
  have ht4:∀j (f:j<hs.length),i+1≤j→BM F base 21 1 hs[j].v hs[j].k (CA BU hs[j].k hs[j].n):=fun j f hji=>(N j f (by omega)).chg p (fun b e1 e2=>(by
    rcases e2 with e2|e2
    ·exact BX E.apart a f (by omega) b e2 e1
    ·exact l b e2 ⟨_,getElem_mem _,e1⟩))
  refine Bf<|Bn<|Ch<|Ac O<|B7 O (by omega)<|Ab O<|Bf ?_
  exact Ap (Pw.next ((i+1,ts.set i {ts[i] with g:=g})) ⟨rfl,rfl,trivial⟩ (⟨a,hG4,h14,hS4,o4,hd4,ht4⟩) (by simp only;omega))
 intro h
 have a:i=hs.length:=by simp at h;omega
 refine Bp<|Al<|Al<|Bd<|C9 O ?_
 refine ⟨rfl,L,ts,K,o1,fun t H=> ?_⟩
 obtain ⟨j,f,rfl⟩:=List.mem_iff_getElem.1 H
 exact hd j f (by omega)
theorem Nv (A:Nat) (j:List Value) (u:Value) (ts:List Hd) (U:Nat) (w:World) (N:AO w A BO j) (H:j[3]? =some u) (G:w.ownsRow U 138 3 u ts.length (BF ts)) (M:∀t ∈ ts,EE w BU t) (R:∀t ∈ ts,(0≤t.n∧t.n≤4000000)∧t.k≤16777216):
  AM prog 84 [.pointer (some ⟨A,0,none⟩)] w (fun r o=>r= .bool true∧Below w.heap.size w o):=by
 have T:=(AI G).le
 refine Bb (n:=64) func84 O<|Af<|Ab O<|Bh<|Ab O<|Ak<|Ao ?_
 refine Bq (S:=Nat) (fun i=>[(0, .pointer (some ⟨A,0,none⟩)),(2, .bool false),(3, .int .i64 (i:Int))]) (fun i o=>i≤ts.length∧Below w.heap.size w o) (fun i=>ts.length - i) (0) ⟨rfl,rfl,rfl,trivial⟩ ?_ ?_
 ·exact ⟨by omega,Below.refl _ _⟩
 rintro i b ⟨X,f⟩
 have C:=N.bs f
 have y:=(AI G).bs f
 refine An<|Af<|Ac O<|Ac O<|Aa (Br O) O<|Be underlying56 O (IQ _)<|Aa (Ah (KG _) O C H) O<|Aa (Au (sz:=3) J3 O y) O<|B3 O<|Ak<|Aq O ?_ ?_
 ·intro h
  have e:i<ts.length:=by simp at h;omega
  have I:=getElem_mem e
  obtain ⟨l,J⟩:=R _ I
  have q:=M _ I
  refine B0<|An<|Ao<|Af<|Ac O<|Aa (Br O) O<|Be underlying56 O (IQ _)<|Aa (Ah (KG _) O C H) O<|Ac O<|Aa (Ci J3 O O y i O e) O<|Aa (Cq (cs:=ts[i].cells) (Qp _) (Pl _) O y O (by decide) (BV e)) O<|C1 (cs:=ts[i].cells) LM O O O O (fun _=>rfl) (by simp [Hd.cells,q.l.one',q.g.one',EB]) ?_
  rintro v K D s z F
  have m:=bt f z
  have l2:=q.l.bs m
  have E:=q.g.bs m
  refine Bh<|Be underlying138 O (BC _)<|Aa (Ah (BG _) O ‹_› rfl) O ?_
  refine Aa (Au (sz:=1) AU O E) O<|Be underlying138 O (BC _)<|Aa (Ah (BG _) O ‹_› rfl) O ?_
  refine Aa (Au (sz:=1) AU O l2) O<|B7 O (by omega)<|Aa (Cs O O) O<|Ak<|Ca O false (by simp)<|Co<|Ab O<|Ak<|Ao ?_
  refine Bq (S:=Nat) (fun k=>[(0, .pointer (some ⟨A,0,none⟩)),(2, .bool false),(3, .int .i64 (i:Int)),(4, .pointer (some ⟨v,0,none⟩)),(5, .int .i64 (k:Int))]) (fun k o=>k≤ts[i].k+40∧Below K.heap.size K o) (fun k=>ts[i].k+40 - k) (0) ⟨rfl,rfl,rfl,rfl,rfl,trivial⟩ ?_ ?_
  ·exact ⟨by omega,Below.refl _ _⟩
  rintro k V ⟨Q,c⟩
  have x:=l2.bs c
  have B:=E.bs c
  have W:=s.bs c
  refine An<|Af<|Ac O<|Be underlying138 O (BC _)<|Aa (Ah (BG _) O ‹_› rfl) O ?_
  refine Aa (Au (sz:=1) AU O B) O<|B3 O<|Ak<|Aq O ?_ ?_
  ·intro h
   have d:k<ts[i].k+40:=by simp at h;omega
   refine B0<|An<|Ao<|An<|Cv AS (by kernel_rfl)<|Ad (fun b a=>Cd underlying138 O (BC _)) O<|Ad (fun b a=>Ah (BG _) O (AO.bs ‹_› a) O) O ?_
   refine Bg O<|Ad (fun b a=>Dn AU O O B.shp k O d) O<|Ad (fun b a=>D1 (u:=BU ts[i].n) (CF _) O (B.bs a) (GO d)) O<|Ad (fun b a=>Cd underlying138 O (BA _)) O<|Ad (fun b a=>Ah (AK _) O (AO.bs ‹_› a) O) O ?_
   refine C3 O O (fun b a=>(LS ts[i].n b l).q a)<|Ad (fun b a=>Ck O) O<|Bg O<|Eu 46 (v' := .bool false) O (cngA Value.bool (rfl))<|Ba (dj:=46) O O<|Bg O<|Ba (dj:=46) O O<|Ad (fun b a=>Cd underlying138 O (BC _)) O<|Ba (dj:=46) O O<|Ad (fun b a=>Ah (BG _) O (AO.bs ‹_› a) O) O ?_
   refine Ba (dj:=46) O O<|Ad (fun b a=>Au (sz:=1) AU O (x.bs a)) O<|Ba (dj:=46) O O<|Ad (fun b a=>Eh O O) O<|Ba (dj:=46) O O<|Bg O ?_
   refine Dm 52 O ?_ ?_
   ·intro g
    have p:k<ts[i].k:=by simpa using g
    refine Ba (dj:=52) O O<|Ad (fun b a=>Cd underlying138 O (BC _)) O<|Ba (dj:=52) O O<|Ad (fun b a=>Ah (BG _) O (AO.bs ‹_› a) O) O ?_
    refine Ba (dj:=52) O O<|Bg O<|Ba (dj:=52) O O<|Ad (fun b a=>Dn AU O O x.shp k O p) O<|Ba (dj:=52) O O<|Ad (fun b a=>D1 (u:=BU ts[i].n) (CF _) O (x.bs a) (GO p)) O<|Ba (dj:=52) O O<|Ad (fun b a=>Cd underlying138 O (BA _)) O<|Ba (dj:=52) O O<|Ad (fun b a=>Ah (AK _) O (AO.bs ‹_› a) O) O ?_
    refine Ba (dj:=52) O O<|C3 O O (fun b a=>(LS ts[i].n b l).q a)<|Ba (dj:=52) O O<|Ad (fun b a=>Ck O) O<|Ba (dj:=46) O O<|Ad (fun b a=>Ct O O) O<|Ad (fun b a=>Cz O O) O ?_
    refine Cr (fun L a=> ?_)
    refine Ap<|B8<|Ca O false (rfl)<|Cp<|Bn<|Ch<|Ac O<|B7 O (by omega)<|Ab O<|Bf ?_
    exact Ap (Pw.next (k+1) ⟨rfl,rfl,rfl,rfl,rfl,trivial⟩ (⟨d,bt c a⟩) (by omega))
   ·intro g
    refine Ar (dj:=52) O O O O<|Ar (dj:=52) O O O O<|Ar (dj:=52) O O O O<|Ar (dj:=52) O O O O<|Ar (dj:=52) O O O O<|Ar (dj:=52) O O O O<|Ar (dj:=52) O O O O<|Ar (dj:=52) O O O O<|Ar (dj:=52) O O O O<|Ba (dj:=46) O O<|Ad (fun b a=>Cz O O) O<|Ad (fun b a=>Cz O O) O ?_
    refine Cr (fun L a=> ?_)
    refine Ap<|B8<|D6 O<|Cp<|Bn<|Ch<|Ac O<|B7 O (by omega)<|Ab O<|Bf ?_
    exact Ap (Pw.next (k+1) ⟨rfl,rfl,rfl,rfl,rfl,trivial⟩ (⟨d,bt c a⟩) (by omega))
  intro h
  refine Bp<|Al<|Al<|Bd<|Bn<|Ch<|Ac O<|B7 O (by omega)<|Ab O<|Bf ?_
  exact Ap (Pw.next (i+1) ⟨rfl,rfl,rfl,trivial⟩ (⟨e,bt m c⟩) (by omega))
 intro h
 exact Bp<|Al<|Al<|Bd<|Cm<|Ab rfl<|Bc<|Ax rfl rfl<|⟨rfl,f⟩
theorem TU (A:Nat) (a:List Value) (w:World) (d:AO w A BO a) (c:a[4]? =some (.slice none 0 0)):AM prog 55 [.pointer (some ⟨A,0,none⟩)] w (fun r b=>r= .tuple #[]∧w=b):=by
 refine Bb (n:=35) func55 O<|Af<|Ab O<|Ak<|Ao ?_
 refine Bq (S:=Unit) (fun s=>[(0, .pointer (some ⟨A,0,none⟩)),(2, .int .i64 0)]) (fun s b=>w=b) (fun s=>0) (()) ⟨rfl,rfl,trivial⟩ ?_ ?_
 ·rfl
 rintro _ _ rfl
 exact An<|Af<|Ac rfl<|Ac rfl<|Aa (Br rfl) rfl<|Be underlying56 rfl (S6 _)<|Aa (Ah (U1 _) rfl d c) rfl<|Aa (Au (sz:=3) SL rfl (C0 _ _)) rfl<|B3 rfl<|Ak<|Ca rfl false (rfl)<|Bp<|Al<|Al<|Bd<|C9 rfl<|⟨rfl,rfl⟩
theorem TK (A:Nat) (a:List Value) (w:World) (d:AO w A BO a) (c:a[4]? =some (.slice none 0 0)):AM prog 70 [.pointer (some ⟨A,0,none⟩)] w (fun r b=>r= .tuple #[]∧w=b):=by
 refine Bb (n:=42) func70 O<|Af<|Ab O<|Ak<|Ao ?_
 refine Bq (S:=Unit) (fun s=>[(0, .pointer (some ⟨A,0,none⟩)),(2, .int .i64 0)]) (fun s b=>w=b) (fun s=>0) (()) ⟨rfl,rfl,trivial⟩ ?_ ?_
 ·rfl
 rintro _ _ rfl
 exact An<|Af<|Ac rfl<|Ac rfl<|Aa (Br rfl) rfl<|Be underlying56 rfl (S6 _)<|Aa (Ah (U1 _) rfl d c) rfl<|Aa (Au (sz:=3) SL rfl (C0 _ _)) rfl<|B3 rfl<|Ak<|Ca rfl false (rfl)<|Bp<|Al<|Al<|Bd<|C9 rfl<|⟨rfl,rfl⟩
theorem Tr (A:Nat) (a:List Value) (w:World) (d:AO w A BO a) (c:a[4]? =some (.slice none 0 0)):AM prog 85 [.pointer (some ⟨A,0,none⟩)] w (fun r b=>r= .bool true∧w=b):=by
 refine Bb (n:=64) func85 O<|Af<|Ab O<|Bh<|Ab O<|Ak<|Ao ?_
 refine Bq (S:=Unit) (fun s=>[(0, .pointer (some ⟨A,0,none⟩)),(2, .bool false),(3, .int .i64 0)]) (fun s b=>w=b) (fun s=>0) (()) ⟨rfl,rfl,rfl,trivial⟩ ?_ ?_
 ·rfl
 rintro _ _ rfl
 exact An<|Af<|Ac rfl<|Ac rfl<|Aa (Br rfl) rfl<|Be underlying56 rfl (S6 _)<|Aa (Ah (U1 _) rfl d c) rfl<|Aa (Au (sz:=3) SL rfl (C0 _ _)) rfl<|B3 rfl<|Ak<|Ca rfl false (rfl)<|Bp<|Al<|Al<|Bd<|Cm<|Ab rfl<|Bc<|Ax rfl rfl<|⟨rfl,rfl⟩
theorem PY (A:Nat) (a:List Value) (w:World) (d:AO w A BO a) (c:a[5]? =some (.slice none 0 0)):AM prog 56 [.pointer (some ⟨A,0,none⟩)] w (fun r b=>r= .tuple #[]∧w=b):=by
 refine Bb (n:=35) func56 O<|Af<|Ab O<|Ak<|Ao ?_
 refine Bq (S:=Unit) (fun s=>[(0, .pointer (some ⟨A,0,none⟩)),(2, .int .i64 0)]) (fun s b=>w=b) (fun s=>0) (()) ⟨rfl,rfl,trivial⟩ ?_ ?_
 ·rfl
 rintro _ _ rfl
 exact An<|Af<|Ac rfl<|Ac rfl<|Aa (Br rfl) rfl<|Be underlying56 rfl (S5 _)<|Aa (Ah (U0 _) rfl d c) rfl<|Aa (Au (sz:=3) SK rfl (C0 _ _)) rfl<|B3 rfl<|Ak<|Ca rfl false (rfl)<|Bp<|Al<|Al<|Bd<|C9 rfl<|⟨rfl,rfl⟩
theorem PO (A:Nat) (a:List Value) (w:World) (d:AO w A BO a) (c:a[5]? =some (.slice none 0 0)):AM prog 71 [.pointer (some ⟨A,0,none⟩)] w (fun r b=>r= .tuple #[]∧w=b):=by
 refine Bb (n:=42) func71 O<|Af<|Ab O<|Ak<|Ao ?_
 refine Bq (S:=Unit) (fun s=>[(0, .pointer (some ⟨A,0,none⟩)),(2, .int .i64 0)]) (fun s b=>w=b) (fun s=>0) (()) ⟨rfl,rfl,trivial⟩ ?_ ?_
 ·rfl
 rintro _ _ rfl
 exact An<|Af<|Ac rfl<|Ac rfl<|Aa (Br rfl) rfl<|Be underlying56 rfl (S5 _)<|Aa (Ah (U0 _) rfl d c) rfl<|Aa (Au (sz:=3) SK rfl (C0 _ _)) rfl<|B3 rfl<|Ak<|Ca rfl false (rfl)<|Bp<|Al<|Al<|Bd<|C9 rfl<|⟨rfl,rfl⟩
theorem P7 (A:Nat) (a:List Value) (w:World) (d:AO w A BO a) (c:a[5]? =some (.slice none 0 0)):AM prog 86 [.pointer (some ⟨A,0,none⟩)] w (fun r b=>r= .bool true∧w=b):=by
 refine Bb (n:=64) func86 O<|Af<|Ab O<|Bh<|Ab O<|Ak<|Ao ?_
 refine Bq (S:=Unit) (fun s=>[(0, .pointer (some ⟨A,0,none⟩)),(2, .bool false),(3, .int .i64 0)]) (fun s b=>w=b) (fun s=>0) (()) ⟨rfl,rfl,rfl,trivial⟩ ?_ ?_
 ·rfl
 rintro _ _ rfl
 exact An<|Af<|Ac rfl<|Ac rfl<|Aa (Br rfl) rfl<|Be underlying56 rfl (S5 _)<|Aa (Ah (U0 _) rfl d c) rfl<|Aa (Au (sz:=3) SK rfl (C0 _ _)) rfl<|B3 rfl<|Ak<|Ca rfl false (rfl)<|Bp<|Al<|Al<|Bd<|Cm<|Ab rfl<|Bc<|Ax rfl rfl<|⟨rfl,rfl⟩
theorem PZ (A:Nat) (a:List Value) (w:World) (d:AO w A BO a) (c:a[8]? =some (.slice none 0 0)):AM prog 59 [.pointer (some ⟨A,0,none⟩)] w (fun r b=>r= .tuple #[]∧w=b):=by
 refine Bb (n:=35) func59 O<|Af<|Ab O<|Ak<|Ao ?_
 refine Bq (S:=Unit) (fun s=>[(0, .pointer (some ⟨A,0,none⟩)),(2, .int .i64 0)]) (fun s b=>w=b) (fun s=>0) (()) ⟨rfl,rfl,trivial⟩ ?_ ?_
 ·rfl
 rintro _ _ rfl
 exact An<|Af<|Ac rfl<|Ac rfl<|Aa (Br rfl) rfl<|Be underlying56 rfl (S4 _)<|Aa (Ah (Uz _) rfl d c) rfl<|Aa (Au (sz:=3) SJ rfl (C0 _ _)) rfl<|B3 rfl<|Ak<|Ca rfl false (rfl)<|Bp<|Al<|Al<|Bd<|C9 rfl<|⟨rfl,rfl⟩
theorem PP (A:Nat) (a:List Value) (w:World) (d:AO w A BO a) (c:a[8]? =some (.slice none 0 0)):AM prog 74 [.pointer (some ⟨A,0,none⟩)] w (fun r b=>r= .tuple #[]∧w=b):=by
 refine Bb (n:=42) func74 O<|Af<|Ab O<|Ak<|Ao ?_
 refine Bq (S:=Unit) (fun s=>[(0, .pointer (some ⟨A,0,none⟩)),(2, .int .i64 0)]) (fun s b=>w=b) (fun s=>0) (()) ⟨rfl,rfl,trivial⟩ ?_ ?_
 ·rfl
 rintro _ _ rfl
 exact An<|Af<|Ac rfl<|Ac rfl<|Aa (Br rfl) rfl<|Be underlying56 rfl (S4 _)<|Aa (Ah (Uz _) rfl d c) rfl<|Aa (Au (sz:=3) SJ rfl (C0 _ _)) rfl<|B3 rfl<|Ak<|Ca rfl false (rfl)<|Bp<|Al<|Al<|Bd<|C9 rfl<|⟨rfl,rfl⟩
theorem P8 (A:Nat) (a:List Value) (w:World) (d:AO w A BO a) (c:a[8]? =some (.slice none 0 0)):AM prog 89 [.pointer (some ⟨A,0,none⟩)] w (fun r b=>r= .bool true∧w=b):=by
 refine Bb (n:=64) func89 O<|Af<|Ab O<|Bh<|Ab O<|Ak<|Ao ?_
 refine Bq (S:=Unit) (fun s=>[(0, .pointer (some ⟨A,0,none⟩)),(2, .bool false),(3, .int .i64 0)]) (fun s b=>w=b) (fun s=>0) (()) ⟨rfl,rfl,rfl,trivial⟩ ?_ ?_
 ·rfl
 rintro _ _ rfl
 exact An<|Af<|Ac rfl<|Ac rfl<|Aa (Br rfl) rfl<|Be underlying56 rfl (S4 _)<|Aa (Ah (Uz _) rfl d c) rfl<|Aa (Au (sz:=3) SJ rfl (C0 _ _)) rfl<|B3 rfl<|Ak<|Ca rfl false (rfl)<|Bp<|Al<|Al<|Bd<|Cm<|Ab rfl<|Bc<|Ax rfl rfl<|⟨rfl,rfl⟩
theorem Qe (A:Nat) (a:List Value) (w:World) (d:AO w A BO a) (c:a[9]? =some (.slice none 0 0)):AM prog 60 [.pointer (some ⟨A,0,none⟩)] w (fun r b=>r= .tuple #[]∧w=b):=by
 refine Bb (n:=35) func60 O<|Af<|Ab O<|Ak<|Ao ?_
 refine Bq (S:=Unit) (fun s=>[(0, .pointer (some ⟨A,0,none⟩)),(2, .int .i64 0)]) (fun s b=>w=b) (fun s=>0) (()) ⟨rfl,rfl,trivial⟩ ?_ ?_
 ·rfl
 rintro _ _ rfl
 exact An<|Af<|Ac rfl<|Ac rfl<|Aa (Br rfl) rfl<|Be underlying56 rfl (S3 _)<|Aa (Ah (Uy _) rfl d c) rfl<|Aa (Au (sz:=3) SI rfl (C0 _ _)) rfl<|B3 rfl<|Ak<|Ca rfl false (rfl)<|Bp<|Al<|Al<|Bd<|C9 rfl<|⟨rfl,rfl⟩
theorem PW (A:Nat) (a:List Value) (w:World) (d:AO w A BO a) (c:a[9]? =some (.slice none 0 0)):AM prog 75 [.pointer (some ⟨A,0,none⟩)] w (fun r b=>r= .tuple #[]∧w=b):=by
 refine Bb (n:=42) func75 O<|Af<|Ab O<|Ak<|Ao ?_
 refine Bq (S:=Unit) (fun s=>[(0, .pointer (some ⟨A,0,none⟩)),(2, .int .i64 0)]) (fun s b=>w=b) (fun s=>0) (()) ⟨rfl,rfl,trivial⟩ ?_ ?_
 ·rfl
 rintro _ _ rfl
 exact An<|Af<|Ac rfl<|Ac rfl<|Aa (Br rfl) rfl<|Be underlying56 rfl (S3 _)<|Aa (Ah (Uy _) rfl d c) rfl<|Aa (Au (sz:=3) SI rfl (C0 _ _)) rfl<|B3 rfl<|Ak<|Ca rfl false (rfl)<|Bp<|Al<|Al<|Bd<|C9 rfl<|⟨rfl,rfl⟩
theorem PD (A:Nat) (a:List Value) (w:World) (d:AO w A BO a) (c:a[9]? =some (.slice none 0 0)):AM prog 90 [.pointer (some ⟨A,0,none⟩)] w (fun r b=>r= .bool true∧w=b):=by
 refine Bb (n:=64) func90 O<|Af<|Ab O<|Bh<|Ab O<|Ak<|Ao ?_
 refine Bq (S:=Unit) (fun s=>[(0, .pointer (some ⟨A,0,none⟩)),(2, .bool false),(3, .int .i64 0)]) (fun s b=>w=b) (fun s=>0) (()) ⟨rfl,rfl,rfl,trivial⟩ ?_ ?_
 ·rfl
 rintro _ _ rfl
 exact An<|Af<|Ac rfl<|Ac rfl<|Aa (Br rfl) rfl<|Be underlying56 rfl (S3 _)<|Aa (Ah (Uy _) rfl d c) rfl<|Aa (Au (sz:=3) SI rfl (C0 _ _)) rfl<|B3 rfl<|Ak<|Ca rfl false (rfl)<|Bp<|Al<|Al<|Bd<|Cm<|Ab rfl<|Bc<|Ax rfl rfl<|⟨rfl,rfl⟩
theorem N8 (A:Nat) (a:List Value) (w:World) (d:AO w A BO a) (c:a[10]? =some (.slice none 0 0)):AM prog 61 [.pointer (some ⟨A,0,none⟩)] w (fun r b=>r= .tuple #[]∧w=b):=by
 refine Bb (n:=35) func61 O<|Af<|Ab O<|Ak<|Ao ?_
 refine Bq (S:=Unit) (fun s=>[(0, .pointer (some ⟨A,0,none⟩)),(2, .int .i64 0)]) (fun s b=>w=b) (fun s=>0) (()) ⟨rfl,rfl,trivial⟩ ?_ ?_
 ·rfl
 rintro _ _ rfl
 exact An<|Af<|Ac rfl<|Ac rfl<|Aa (Br rfl) rfl<|Be underlying56 rfl (S2 _)<|Aa (Ah (Ux _) rfl d c) rfl<|Aa (Au (sz:=3) SH rfl (C0 _ _)) rfl<|B3 rfl<|Ak<|Ca rfl false (rfl)<|Bp<|Al<|Al<|Bd<|C9 rfl<|⟨rfl,rfl⟩
theorem N4 (A:Nat) (a:List Value) (w:World) (d:AO w A BO a) (c:a[10]? =some (.slice none 0 0)):AM prog 76 [.pointer (some ⟨A,0,none⟩)] w (fun r b=>r= .tuple #[]∧w=b):=by
 refine Bb (n:=42) func76 O<|Af<|Ab O<|Ak<|Ao ?_
 refine Bq (S:=Unit) (fun s=>[(0, .pointer (some ⟨A,0,none⟩)),(2, .int .i64 0)]) (fun s b=>w=b) (fun s=>0) (()) ⟨rfl,rfl,trivial⟩ ?_ ?_
 ·rfl
 rintro _ _ rfl
 exact An<|Af<|Ac rfl<|Ac rfl<|Aa (Br rfl) rfl<|Be underlying56 rfl (S2 _)<|Aa (Ah (Ux _) rfl d c) rfl<|Aa (Au (sz:=3) SH rfl (C0 _ _)) rfl<|B3 rfl<|Ak<|Ca rfl false (rfl)<|Bp<|Al<|Al<|Bd<|C9 rfl<|⟨rfl,rfl⟩
theorem Nu (A:Nat) (a:List Value) (w:World) (d:AO w A BO a) (c:a[10]? =some (.slice none 0 0)):AM prog 91 [.pointer (some ⟨A,0,none⟩)] w (fun r b=>r= .bool true∧w=b):=by
 refine Bb (n:=64) func91 O<|Af<|Ab O<|Bh<|Ab O<|Ak<|Ao ?_
 refine Bq (S:=Unit) (fun s=>[(0, .pointer (some ⟨A,0,none⟩)),(2, .bool false),(3, .int .i64 0)]) (fun s b=>w=b) (fun s=>0) (()) ⟨rfl,rfl,rfl,trivial⟩ ?_ ?_
 ·rfl
 rintro _ _ rfl
 exact An<|Af<|Ac rfl<|Ac rfl<|Aa (Br rfl) rfl<|Be underlying56 rfl (S2 _)<|Aa (Ah (Ux _) rfl d c) rfl<|Aa (Au (sz:=3) SH rfl (C0 _ _)) rfl<|B3 rfl<|Ak<|Ca rfl false (rfl)<|Bp<|Al<|Al<|Bd<|Cm<|Ab rfl<|Bc<|Ax rfl rfl<|⟨rfl,rfl⟩
theorem OI (A:Nat) (a:List Value) (w:World) (d:AO w A BO a) (c:a[11]? =some (.slice none 0 0)):AM prog 62 [.pointer (some ⟨A,0,none⟩)] w (fun r b=>r= .tuple #[]∧w=b):=by
 refine Bb (n:=35) func62 O<|Af<|Ab O<|Ak<|Ao ?_
 refine Bq (S:=Unit) (fun s=>[(0, .pointer (some ⟨A,0,none⟩)),(2, .int .i64 0)]) (fun s b=>w=b) (fun s=>0) (()) ⟨rfl,rfl,trivial⟩ ?_ ?_
 ·rfl
 rintro _ _ rfl
 exact An<|Af<|Ac rfl<|Ac rfl<|Aa (Br rfl) rfl<|Be underlying56 rfl (S1 _)<|Aa (Ah (Uw _) rfl d c) rfl<|Aa (Au (sz:=3) SG rfl (C0 _ _)) rfl<|B3 rfl<|Ak<|Ca rfl false (rfl)<|Bp<|Al<|Al<|Bd<|C9 rfl<|⟨rfl,rfl⟩
theorem OE (A:Nat) (a:List Value) (w:World) (d:AO w A BO a) (c:a[11]? =some (.slice none 0 0)):AM prog 77 [.pointer (some ⟨A,0,none⟩)] w (fun r b=>r= .tuple #[]∧w=b):=by
 refine Bb (n:=42) func77 O<|Af<|Ab O<|Ak<|Ao ?_
 refine Bq (S:=Unit) (fun s=>[(0, .pointer (some ⟨A,0,none⟩)),(2, .int .i64 0)]) (fun s b=>w=b) (fun s=>0) (()) ⟨rfl,rfl,trivial⟩ ?_ ?_
 ·rfl
 rintro _ _ rfl
 exact An<|Af<|Ac rfl<|Ac rfl<|Aa (Br rfl) rfl<|Be underlying56 rfl (S1 _)<|Aa (Ah (Uw _) rfl d c) rfl<|Aa (Au (sz:=3) SG rfl (C0 _ _)) rfl<|B3 rfl<|Ak<|Ca rfl false (rfl)<|Bp<|Al<|Al<|Bd<|C9 rfl<|⟨rfl,rfl⟩
theorem Ou (A:Nat) (a:List Value) (w:World) (d:AO w A BO a) (c:a[11]? =some (.slice none 0 0)):AM prog 92 [.pointer (some ⟨A,0,none⟩)] w (fun r b=>r= .bool true∧w=b):=by
 refine Bb (n:=64) func92 O<|Af<|Ab O<|Bh<|Ab O<|Ak<|Ao ?_
 refine Bq (S:=Unit) (fun s=>[(0, .pointer (some ⟨A,0,none⟩)),(2, .bool false),(3, .int .i64 0)]) (fun s b=>w=b) (fun s=>0) (()) ⟨rfl,rfl,rfl,trivial⟩ ?_ ?_
 ·rfl
 rintro _ _ rfl
 exact An<|Af<|Ac rfl<|Ac rfl<|Aa (Br rfl) rfl<|Be underlying56 rfl (S1 _)<|Aa (Ah (Uw _) rfl d c) rfl<|Aa (Au (sz:=3) SG rfl (C0 _ _)) rfl<|B3 rfl<|Ak<|Ca rfl false (rfl)<|Bp<|Al<|Al<|Bd<|Cm<|Ab rfl<|Bc<|Ax rfl rfl<|⟨rfl,rfl⟩
theorem RL (A:Nat) (a:List Value) (w:World) (d:AO w A BO a) (c:a[12]? =some (.slice none 0 0)):AM prog 63 [.pointer (some ⟨A,0,none⟩)] w (fun r b=>r= .tuple #[]∧w=b):=by
 refine Bb (n:=35) func63 O<|Af<|Ab O<|Ak<|Ao ?_
 refine Bq (S:=Unit) (fun s=>[(0, .pointer (some ⟨A,0,none⟩)),(2, .int .i64 0)]) (fun s b=>w=b) (fun s=>0) (()) ⟨rfl,rfl,trivial⟩ ?_ ?_
 ·rfl
 rintro _ _ rfl
 exact An<|Af<|Ac rfl<|Ac rfl<|Aa (Br rfl) rfl<|Be underlying56 rfl (Sz _)<|Aa (Ah (Uv _) rfl d c) rfl<|Aa (Au (sz:=3) SF rfl (C0 _ _)) rfl<|B3 rfl<|Ak<|Ca rfl false (rfl)<|Bp<|Al<|Al<|Bd<|C9 rfl<|⟨rfl,rfl⟩
theorem RE (A:Nat) (a:List Value) (w:World) (d:AO w A BO a) (c:a[12]? =some (.slice none 0 0)):AM prog 78 [.pointer (some ⟨A,0,none⟩)] w (fun r b=>r= .tuple #[]∧w=b):=by
 refine Bb (n:=42) func78 O<|Af<|Ab O<|Ak<|Ao ?_
 refine Bq (S:=Unit) (fun s=>[(0, .pointer (some ⟨A,0,none⟩)),(2, .int .i64 0)]) (fun s b=>w=b) (fun s=>0) (()) ⟨rfl,rfl,trivial⟩ ?_ ?_
 ·rfl
 rintro _ _ rfl
 exact An<|Af<|Ac rfl<|Ac rfl<|Aa (Br rfl) rfl<|Be underlying56 rfl (Sz _)<|Aa (Ah (Uv _) rfl d c) rfl<|Aa (Au (sz:=3) SF rfl (C0 _ _)) rfl<|B3 rfl<|Ak<|Ca rfl false (rfl)<|Bp<|Al<|Al<|Bd<|C9 rfl<|⟨rfl,rfl⟩
theorem Rz (A:Nat) (a:List Value) (w:World) (d:AO w A BO a) (c:a[12]? =some (.slice none 0 0)):AM prog 93 [.pointer (some ⟨A,0,none⟩)] w (fun r b=>r= .bool true∧w=b):=by
 refine Bb (n:=64) func93 O<|Af<|Ab O<|Bh<|Ab O<|Ak<|Ao ?_
 refine Bq (S:=Unit) (fun s=>[(0, .pointer (some ⟨A,0,none⟩)),(2, .bool false),(3, .int .i64 0)]) (fun s b=>w=b) (fun s=>0) (()) ⟨rfl,rfl,rfl,trivial⟩ ?_ ?_
 ·rfl
 rintro _ _ rfl
 exact An<|Af<|Ac rfl<|Ac rfl<|Aa (Br rfl) rfl<|Be underlying56 rfl (Sz _)<|Aa (Ah (Uv _) rfl d c) rfl<|Aa (Au (sz:=3) SF rfl (C0 _ _)) rfl<|B3 rfl<|Ak<|Ca rfl false (rfl)<|Bp<|Al<|Al<|Bd<|Cm<|Ab rfl<|Bc<|Ax rfl rfl<|⟨rfl,rfl⟩
theorem Qd (A:Nat) (a:List Value) (w:World) (d:AO w A BO a) (c:a[13]? =some (.slice none 0 0)):AM prog 64 [.pointer (some ⟨A,0,none⟩)] w (fun r b=>r= .tuple #[]∧w=b):=by
 refine Bb (n:=35) func64 O<|Af<|Ab O<|Ak<|Ao ?_
 refine Bq (S:=Unit) (fun s=>[(0, .pointer (some ⟨A,0,none⟩)),(2, .int .i64 0)]) (fun s b=>w=b) (fun s=>0) (()) ⟨rfl,rfl,trivial⟩ ?_ ?_
 ·rfl
 rintro _ _ rfl
 exact An<|Af<|Ac rfl<|Ac rfl<|Aa (Br rfl) rfl<|Be underlying56 rfl (Sy _)<|Aa (Ah (Uu _) rfl d c) rfl<|Aa (Au (sz:=3) SE rfl (C0 _ _)) rfl<|B3 rfl<|Ak<|Ca rfl false (rfl)<|Bp<|Al<|Al<|Bd<|C9 rfl<|⟨rfl,rfl⟩
theorem PU (A:Nat) (a:List Value) (w:World) (d:AO w A BO a) (c:a[13]? =some (.slice none 0 0)):AM prog 79 [.pointer (some ⟨A,0,none⟩)] w (fun r b=>r= .tuple #[]∧w=b):=by
 refine Bb (n:=42) func79 O<|Af<|Ab O<|Ak<|Ao ?_
 refine Bq (S:=Unit) (fun s=>[(0, .pointer (some ⟨A,0,none⟩)),(2, .int .i64 0)]) (fun s b=>w=b) (fun s=>0) (()) ⟨rfl,rfl,trivial⟩ ?_ ?_
 ·rfl
 rintro _ _ rfl
 exact An<|Af<|Ac rfl<|Ac rfl<|Aa (Br rfl) rfl<|Be underlying56 rfl (Sy _)<|Aa (Ah (Uu _) rfl d c) rfl<|Aa (Au (sz:=3) SE rfl (C0 _ _)) rfl<|B3 rfl<|Ak<|Ca rfl false (rfl)<|Bp<|Al<|Al<|Bd<|C9 rfl<|⟨rfl,rfl⟩
theorem PC (A:Nat) (a:List Value) (w:World) (d:AO w A BO a) (c:a[13]? =some (.slice none 0 0)):AM prog 94 [.pointer (some ⟨A,0,none⟩)] w (fun r b=>r= .bool true∧w=b):=by
 refine Bb (n:=64) func94 O<|Af<|Ab O<|Bh<|Ab O<|Ak<|Ao ?_
 refine Bq (S:=Unit) (fun s=>[(0, .pointer (some ⟨A,0,none⟩)),(2, .bool false),(3, .int .i64 0)]) (fun s b=>w=b) (fun s=>0) (()) ⟨rfl,rfl,rfl,trivial⟩ ?_ ?_
 ·rfl
 rintro _ _ rfl
 exact An<|Af<|Ac rfl<|Ac rfl<|Aa (Br rfl) rfl<|Be underlying56 rfl (Sy _)<|Aa (Ah (Uu _) rfl d c) rfl<|Aa (Au (sz:=3) SE rfl (C0 _ _)) rfl<|B3 rfl<|Ak<|Ca rfl false (rfl)<|Bp<|Al<|Al<|Bd<|Cm<|Ab rfl<|Bc<|Ax rfl rfl<|⟨rfl,rfl⟩
theorem Qc (A:Nat) (a:List Value) (w:World) (d:AO w A BO a) (c:a[14]? =some (.slice none 0 0)):AM prog 65 [.pointer (some ⟨A,0,none⟩)] w (fun r b=>r= .tuple #[]∧w=b):=by
 refine Bb (n:=35) func65 O<|Af<|Ab O<|Ak<|Ao ?_
 refine Bq (S:=Unit) (fun s=>[(0, .pointer (some ⟨A,0,none⟩)),(2, .int .i64 0)]) (fun s b=>w=b) (fun s=>0) (()) ⟨rfl,rfl,trivial⟩ ?_ ?_
 ·rfl
 rintro _ _ rfl
 exact An<|Af<|Ac rfl<|Ac rfl<|Aa (Br rfl) rfl<|Be underlying56 rfl (Sx _)<|Aa (Ah (Ut _) rfl d c) rfl<|Aa (Au (sz:=3) SD rfl (C0 _ _)) rfl<|B3 rfl<|Ak<|Ca rfl false (rfl)<|Bp<|Al<|Al<|Bd<|C9 rfl<|⟨rfl,rfl⟩
theorem PT (A:Nat) (a:List Value) (w:World) (d:AO w A BO a) (c:a[14]? =some (.slice none 0 0)):AM prog 80 [.pointer (some ⟨A,0,none⟩)] w (fun r b=>r= .tuple #[]∧w=b):=by
 refine Bb (n:=42) func80 O<|Af<|Ab O<|Ak<|Ao ?_
 refine Bq (S:=Unit) (fun s=>[(0, .pointer (some ⟨A,0,none⟩)),(2, .int .i64 0)]) (fun s b=>w=b) (fun s=>0) (()) ⟨rfl,rfl,trivial⟩ ?_ ?_
 ·rfl
 rintro _ _ rfl
 exact An<|Af<|Ac rfl<|Ac rfl<|Aa (Br rfl) rfl<|Be underlying56 rfl (Sx _)<|Aa (Ah (Ut _) rfl d c) rfl<|Aa (Au (sz:=3) SD rfl (C0 _ _)) rfl<|B3 rfl<|Ak<|Ca rfl false (rfl)<|Bp<|Al<|Al<|Bd<|C9 rfl<|⟨rfl,rfl⟩
theorem PB (A:Nat) (a:List Value) (w:World) (d:AO w A BO a) (c:a[14]? =some (.slice none 0 0)):AM prog 95 [.pointer (some ⟨A,0,none⟩)] w (fun r b=>r= .bool true∧w=b):=by
 refine Bb (n:=64) func95 O<|Af<|Ab O<|Bh<|Ab O<|Ak<|Ao ?_
 refine Bq (S:=Unit) (fun s=>[(0, .pointer (some ⟨A,0,none⟩)),(2, .bool false),(3, .int .i64 0)]) (fun s b=>w=b) (fun s=>0) (()) ⟨rfl,rfl,rfl,trivial⟩ ?_ ?_
 ·rfl
 rintro _ _ rfl
 exact An<|Af<|Ac rfl<|Ac rfl<|Aa (Br rfl) rfl<|Be underlying56 rfl (Sx _)<|Aa (Ah (Ut _) rfl d c) rfl<|Aa (Au (sz:=3) SD rfl (C0 _ _)) rfl<|B3 rfl<|Ak<|Ca rfl false (rfl)<|Bp<|Al<|Al<|Bd<|Cm<|Ab rfl<|Bc<|Ax rfl rfl<|⟨rfl,rfl⟩
theorem Qb (A:Nat) (a:List Value) (w:World) (d:AO w A BO a) (c:a[15]? =some (.slice none 0 0)):AM prog 66 [.pointer (some ⟨A,0,none⟩)] w (fun r b=>r= .tuple #[]∧w=b):=by
 refine Bb (n:=35) func66 O<|Af<|Ab O<|Ak<|Ao ?_
 refine Bq (S:=Unit) (fun s=>[(0, .pointer (some ⟨A,0,none⟩)),(2, .int .i64 0)]) (fun s b=>w=b) (fun s=>0) (()) ⟨rfl,rfl,trivial⟩ ?_ ?_
 ·rfl
 rintro _ _ rfl
 exact An<|Af<|Ac rfl<|Ac rfl<|Aa (Br rfl) rfl<|Be underlying56 rfl (Sw _)<|Aa (Ah (Us _) rfl d c) rfl<|Aa (Au (sz:=3) SC rfl (C0 _ _)) rfl<|B3 rfl<|Ak<|Ca rfl false (rfl)<|Bp<|Al<|Al<|Bd<|C9 rfl<|⟨rfl,rfl⟩
theorem PR (A:Nat) (a:List Value) (w:World) (d:AO w A BO a) (c:a[15]? =some (.slice none 0 0)):AM prog 81 [.pointer (some ⟨A,0,none⟩)] w (fun r b=>r= .tuple #[]∧w=b):=by
 refine Bb (n:=42) func81 O<|Af<|Ab O<|Ak<|Ao ?_
 refine Bq (S:=Unit) (fun s=>[(0, .pointer (some ⟨A,0,none⟩)),(2, .int .i64 0)]) (fun s b=>w=b) (fun s=>0) (()) ⟨rfl,rfl,trivial⟩ ?_ ?_
 ·rfl
 rintro _ _ rfl
 exact An<|Af<|Ac rfl<|Ac rfl<|Aa (Br rfl) rfl<|Be underlying56 rfl (Sw _)<|Aa (Ah (Us _) rfl d c) rfl<|Aa (Au (sz:=3) SC rfl (C0 _ _)) rfl<|B3 rfl<|Ak<|Ca rfl false (rfl)<|Bp<|Al<|Al<|Bd<|C9 rfl<|⟨rfl,rfl⟩
theorem PA (A:Nat) (a:List Value) (w:World) (d:AO w A BO a) (c:a[15]? =some (.slice none 0 0)):AM prog 96 [.pointer (some ⟨A,0,none⟩)] w (fun r b=>r= .bool true∧w=b):=by
 refine Bb (n:=64) func96 O<|Af<|Ab O<|Bh<|Ab O<|Ak<|Ao ?_
 refine Bq (S:=Unit) (fun s=>[(0, .pointer (some ⟨A,0,none⟩)),(2, .bool false),(3, .int .i64 0)]) (fun s b=>w=b) (fun s=>0) (()) ⟨rfl,rfl,rfl,trivial⟩ ?_ ?_
 ·rfl
 rintro _ _ rfl
 exact An<|Af<|Ac rfl<|Ac rfl<|Aa (Br rfl) rfl<|Be underlying56 rfl (Sw _)<|Aa (Ah (Us _) rfl d c) rfl<|Aa (Au (sz:=3) SC rfl (C0 _ _)) rfl<|B3 rfl<|Ak<|Ca rfl false (rfl)<|Bp<|Al<|Al<|Bd<|Cm<|Ab rfl<|Bc<|Ax rfl rfl<|⟨rfl,rfl⟩
end Go.Proofs.YtmipoeanpnnjoaaGreatDoor
