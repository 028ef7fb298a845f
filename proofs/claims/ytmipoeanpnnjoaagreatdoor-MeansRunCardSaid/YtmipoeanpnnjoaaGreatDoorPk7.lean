/- Texts of this proof, one behind the other: BookMany, BookKeep, BookFive, BookApart, BookMore, BookList, BookLaw, BookTen, TwinLists, BookIn, NodeCard, TwinGraph, RunPl, MeansWork, MeansGreat, MeansSame, BookArg. -/
import Derived.Test.YtmipoeanpnnjoaaGreatDoorPk6
import Derived.Test.YtmipoeanpnnjoaaGreatDoorPk2
import Derived.Test.YtmipoeanpnnjoaaGreatDoorPk1
import Derived.Test.YtmipoeanpnnjoaaGreatDoorPk3
import Derived.Test.YtmipoeanpnnjoaaGreatDoorPk5
import Derived.Test.YtmipoeanpnnjoaaGreatDoorCards
import Derived.Test.YtmipoeanpnnjoaaGreatDoorTie
import Derived.SevenTiedAt
import Derived.LaidLaws
import Derived.LaidHandle
import Derived.JoinedOf

namespace Go.Proofs.YtmipoeanpnnjoaaGreatDoor
open Go Go.Dd Go.RowKit List Go.Proofs.Tryz
set_option maxRecDepth 100000
theorem SP {w:World} {sz n:Nat} {v:Value} {xs:List Value} (h:Sl w sz v n xs):∃a n c,v= .slice a n c:=by
 obtain ⟨_,a,cap,rfl,_⟩:=h;exact ⟨_,_,_,rfl⟩
theorem VS (x:Value) (f:∃a n c,x= .slice a n c):Tryz.prog.built 33 [(0,x)]=some [x, .slice none 0 0].toArray:=by
 obtain ⟨a,n,c,rfl⟩:=f
 have d:Tryz.prog.info? 33=some Tryz.t33:=by kernel_rfl
 have b:Tryz.prog.info? 23=some Tryz.t23:=by kernel_rfl
 have e:Tryz.prog.info? 31=some Tryz.t31:=by kernel_rfl
 simp [Program.built,d,underlying33,b,e,Instr.fill,Value.cells]
 rfl
theorem JE (B:Nat) (n:Int) (w:World) (l:0≤n∧n≤4000000) (t:B≤w.heap.size):AM prog 160 [.int .i64 n] w (fun r j=>(∃c:List Value,r= .agg c.toArray∧On B 3 n j c)∧Below w.heap.size w j):=by
 have f:=Below.refl w.heap.size w
 refine Bb (n:=7) func160 O<|Af<|Cx AY O ?_
 rintro o w m d l -
 have f:=f.bs l
 refine Bl<|Ac O<|Aa (Es O (by omega)) O ?_
 have u:=AH d
 have p:=AA f
 refine Bk (Dl (vs:=[-n].map (Value.int .i64)) AC DI O O O O O) O ?_
 rintro x w ⟨a, -,h, -⟩
 have f:=f.bs h
 have d:=d.bs h
 refine Aa (C4 (vs:=[(0,x)]) (cs:=[x, .slice none 0 0]) O (VS x (SP (AI a)))) O<|Az (Bv (cs:=[x, .slice none 0 0]) O O O O (by rw [all_cons,(AI a).one'];rfl) d O) ?_
 rintro v ⟨y,g, -⟩
 have k:=CG a (fun b e=>g.block b (AG a b e).2 (fun e2=>by cases e2;have:=(AG a _ e).1;omega))
 have i:=f.grown g (AA f) (by rintro _ ⟨⟩;omega)
 refine Bc<|Ee O O ‹_› underlying33 O O O ?_
 exact ⟨⟨_,rfl,x,rfl,AQ k,fun b e=>by
  obtain ⟨cap,s, -,q, -⟩:=FO k e
  exact ⟨by have:=(AG a b e).1;omega,_,q⟩⟩,i⟩
theorem Uf (m:Int):Tryz.prog.built 25 [(3, .int .i64 m)]=some [b8 0#8, .slice none 0 0, .slice none 0 0, .int .i64 m, .int .i64 0].toArray:=by
 have a:Tryz.prog.info? 25=some Tryz.t25:=by kernel_rfl
 have b:Tryz.prog.info? 23=some Tryz.t23:=by kernel_rfl
 have d:Tryz.prog.info? 3=some Tryz.t3:=by kernel_rfl
 have c:Tryz.prog.info? 22=some Tryz.t22:=by kernel_rfl
 simp [Program.built,a,underlying25,b,d,c,Instr.fill,Value.cells]
 rfl
theorem LA (B:Nat) (n:Int) (w:World) (h:0≤n∧n≤4000000) (_hBw:B≤w.heap.size):AM prog 161 [.int .i64 n] w (fun r f=>(∃c:List Value,r= .agg c.toArray∧Oo n f c)∧Below w.heap.size w f):=by
 have a:=Below.refl w.heap.size w
 refine Bb (n:=6) func161 O<|Af<|Cx GD O ?_
 rintro i w g b h -
 have a:=a.bs h
 refine Bl<|Ac O<|Aa (Es O (by omega)) O<|Aa (C4 (vs:=[(3, .int .i64 (-n))]) (cs:=[b8 0#8, .slice none 0 0, .slice none 0 0, .int .i64 (-n), .int .i64 0]) O (Uf (-n))) O<|Az (Bv (cs:=[b8 0#8, .slice none 0 0, .slice none 0 0, .int .i64 (-n), .int .i64 0]) O O O O O b O) ?_
 rintro j ⟨k,d, -⟩
 have e:=a.grown d (AA a) (by rintro _ ⟨⟩;omega)
 refine Bc<|Ee O O ‹_› underlying25 O O O ?_
 exact ⟨⟨_,rfl,rfl⟩,e⟩
theorem LR (B:Nat) (n:Int) (w:World) (c:List Value) (d:0≤n∧n≤4000000) (h:On B 3 n w c):AM prog 175 [.agg c.toArray, .int .i64 n] w (fun r f=>r= .bool true∧Below w.heap.size w f):=by
 obtain ⟨x,rfl,a, -⟩:=h
 have b:=Below.refl w.heap.size w
 refine Bb (n:=18) func175 O<|Af<|B5 (cs:=[x, .slice none 0 0]) O O O ?_
 rintro i w e g d -
 have b:=b.bs d
 have a:=a.bs d
 refine Ab O<|Bl<|Be underlying33 O (AN _)<|Aa (Ah (AF _) O ‹_› rfl) O ?_
 refine Aa (Au AC O ‹_›) O ?_
 refine Aa (Da O O) O<|Ac O<|C5 9 (v' := .bool true) O (cngA Value.bool (rfl))<|Ag (dj:=9) O O<|Be underlying33 O (AN _)<|Ag (dj:=9) O O<|Aa (Ah (AF _) O ‹_› rfl) O ?_
 refine Ag (dj:=9) O O<|Aa (Ay AC O O a 0 O (by simp)) O<|Ag (dj:=9) O O<|Aa (Bj (AK _) O a (by simp)) O<|Ag (dj:=9) O O<|Ac O<|Ag (dj:=9) O O<|Aa (Es O (by omega)) O<|Ag (dj:=9) O O<|Aa (Da O O) O<|B4 O<|Ab O<|Bc<|Ax O O ?_
 exact ⟨cngA Value.bool (by simp),b⟩
theorem O1 (B:Nat) (n:Int) (w:World) (c:List Value) (d:0≤n∧n≤4000000) (g:Oo n w c):AM prog 176 [.agg c.toArray, .int .i64 n] w (fun r e=>r= .bool true∧Below w.heap.size w e):=by
 have _:=B
 obtain rfl:=g
 have a:=Below.refl w.heap.size w
 refine Bb (n:=10) func176 O<|Af<|B5 (cs:=[b8 0#8, .slice none 0 0, .slice none 0 0, .int .i64 (-n), .int .i64 0]) O O O ?_
 rintro h w b f d -
 have a:=a.bs d
 refine Ab O<|Bl<|Be underlying25 O (BA _)<|Aa (Ah (AK _) O ‹_› rfl) O ?_
 refine Ac O<|Aa (Es O (by omega)) O<|Aa (Da O O) O<|Ab O<|Bc<|Ax O O ?_
 exact ⟨cngA Value.bool (by simp),a⟩
theorem N7 (A:Nat) (y:List Value) (u:Value) (hs:List Hd) (lo base B:Nat) (w:World) (hA:AO w A BO y) (hu:y[6]? =some u) (ho:w.ownsRow lo 129 3 u hs.length (BF hs)) (t:FJ w base 33 2 hs)
  (hb1:¬BL hs A) (hb2:∀b,u.ownBlock=some b→¬BL hs b) (hB:B≤w.heap.size) (hSB:∀b,BL hs b→b<B):
  AM prog 57 [.pointer (some ⟨A,0,none⟩)] w (fun r a=>r= .tuple #[]∧BY (BL hs) w a∧G0 a base 33 2 (On B 3) hs):=by
 have hle:=(AI ho).le
 have st:=(DH B 3)
 refine Bb (n:=35) func57 O<|Af<|Ab O<|Ak<|Ao ?_
 refine Bq (S:=Nat) (fun i=>[(0, .pointer (some ⟨A,0,none⟩)),(2, .int .i64 (i:Int))]) (fun i a=>i≤hs.length∧BY (BL hs) w a∧(∀j (o:j<hs.length),j<i→∃cs,IX (On B 3) 2 hs[j].n a hs[j].k cs∧BM a base 33 2 hs[j].v hs[j].k cs.flatten)∧(∀j (o:j<hs.length),i≤j→BM a base 33 2 hs[j].v hs[j].k hs[j].xs)) (fun i=>hs.length - i) (0) ⟨rfl,rfl,trivial⟩ ?_ ?_
 ·exact ⟨by omega,BY.refl _ _,fun j o h=>by omega,fun j o _=>t.own _ (getElem_mem o)⟩
 rintro i D ⟨hi,l,hd,ht⟩
 have b1:=hA.chg l hb1
 have Y:=AI (AV ho l hb2)
 refine An<|Af<|Ac O<|Ac O<|Aa (Br O) O<|Be underlying56 O (IP _)<|Aa (Ah (KF _) O b1 hu) O<|Aa (Au (sz:=3) J2 O Y) O<|B3 O<|Ak<|Aq O ?_ ?_
 ·intro h
  have d:i<hs.length:=by simp at h;omega
  have z:=getElem_mem d
  have hfew:=t.few _ z
  have R:=t.num _ z
  have N:hs[i].g.oneCell' =true:=by rw [t.new _ z];rfl
  have E:=(t.own _ z).len
  have W:∀b,hs[i].v.ownBlock=some b→b<w.heap.size:=fun b e=>(t.blk ⟨_,z,e⟩).2
  have M:∀b,hs[i].v.ownBlock=some b→b<B:=fun b e=>hSB b ⟨_,z,e⟩
  refine B0<|An<|Ao<|Af<|Ac O<|Aa (Br O) O<|Be underlying56 O (IP _)<|Aa (Ah (KF _) O b1 hu) O<|Ac O<|Aa (Ci J2 O O Y i O d) O<|Aa (Cq (cs:=hs[i].cells) (Qs _) (Po _) O Y O (by decide) (BV d)) O<|C1 (cs:=hs[i].cells) LO O O O O (fun _=>rfl) (by simp [Hd.cells,(t.own _ z).sl.one',N,EB]) ?_
  rintro G w2 eA_h p H zhn2
  have hc2:=l.below H
  have z1:=l.size
  have r0:=(ht i d (AX _)).bs H
  refine Bl<|Ab O<|Ak<|Ao ?_
  refine Bq (S:=(Nat×List (List Value))) (fun s=>[(0, .pointer (some ⟨A,0,none⟩)),(2, .int .i64 (i:Int)),(3, .pointer (some ⟨G,0,none⟩)),(4, .int .i64 (s.1:Int))]) (fun s a=>s.1≤hs[i].k∧AO a G 129 hs[i].cells∧BY (BL hs) w a∧BY (fun b=>hs[i].v.ownBlock=some b) w2 a∧IX (On B 3) 2 hs[i].n a s.1 s.2∧BM a base 33 2 hs[i].v hs[i].k (s.2.flatten++hs[i].xs.drop (s.1*2))) (fun s=>hs[i].k - s.1) ((0,[])) ⟨rfl,rfl,rfl,rfl,trivial⟩ ?_ ?_
  ·exact ⟨by simp,p,hc2,BY.refl _ _,IX.nil _ _ _ _,by simpa using r0⟩
  clear p r0
  rintro ⟨k,cs⟩ w3 ⟨Q,p,I,F,U,J⟩
  dsimp only at Q p I F U J ⊢
  refine An<|Af<|Ac O<|Be underlying129 O (GA _)<|Aa (Ah (EY _) O ‹_› rfl) O ?_
  refine Aa (Au (sz:=2) AR O J.sl) O<|B3 O<|Ak<|Aq O ?_ ?_
  ·intro h
   have m:k<hs[i].k:=by simp at h;omega
   refine B0<|An<|Ao ?_
   refine Cw.any AS (fun C q _=> ?_)
   have r4:=J.bs q
   have m4:=U.bs st q
   have b4:=p.bs q
   have L:=I.below q
   have hd5:=F.below q
   have z4:=L.size
   refine Fk (St:=List Value) (g:=1) [0,1,2,3,4,5,6] 7 (fun c=>[(0, .pointer (some ⟨A,0,none⟩)),(2, .int .i64 (i:Int)),(3, .pointer (some ⟨G,0,none⟩)),(4, .int .i64 (k:Int)),(33, .agg c.toArray),(34,CI hs[i].v (k*2))]) (fun c a=>Below C.heap.size C a∧(On B 3) hs[i].n a c) (by kernel_rfl) O ?_ ?_
   ·have V:=Below.refl C.heap.size C
    refine Dh (fun a=>Below C.heap.size C a) (fun hC=> ?_) (V)
    refine Cj (Am (Bs (Am (Am (Bs (Bs (Am (Am (Bs Bo)))))))))<|Ai 0 O (fun D l=>Cd underlying129 O (GA _)) O<|Ai 1 O (fun D l=>Ah (EY _) O (b4.bs l) O) O<|Ai 2 O (fun D l=>B6 O) O<|Ai 3 O (fun D l=>Cd underlying129 O (BA _)) O<|Ai 4 O (fun D l=>Ah (AK _) O (b4.bs l) O) O<|Cb<|AZ.only ‹_› (i:=5) (by kernel_rfl) O ?_
    refine Aj O O (JE B hs[i].n C R (by omega)) ?_
    rintro _ w5 ⟨⟨c,rfl,K⟩,f⟩
    refine AZ.back<|Cj (Am (Bs (Am (Am (Bs (Bs (Am (Am (Bs Bo)))))))))<|Ai 6 O (fun D l=>Ci AR O O (r4.sl.bs l) k O m) O<|Cb<|Cu ‹_› (by kernel_rfl) ?_
    exact Ap (Fj (c) ⟨rfl,rfl,rfl,rfl,rfl,rfl,trivial⟩ (⟨f,K⟩))
   rintro c w5 ⟨f,K⟩
   have r5:=r4.bs f
   have m5:=m4.bs st f
   have b5:=b4.bs f
   have T:=(No K).1
   have ld:=OJ E m5.els Q
   refine Aw.only (i:=7) (by kernel_rfl) O<|Az (Xu.stKA (k:=2) (ds:=c) O T O O (No K).2 r5 (by omega) (by rw [ld,T];omega)) ?_
   rintro w6 ⟨r6,v, -⟩
   rw [Of E m5.els T m] at r6
   have Z:BY (fun b=>hs[i].v.ownBlock=some b) w5 w6:=(BY.refl _ _).grown v (fun b e=> .inl e)
   have m6:=(m5.snoc T K).chg st Z M
   have b6:=b5.by v (fun e=>by have:=W _ e.symm;omega)
   refine Aw.back<|Ea (by kernel_rfl)<|Bn<|Ch<|Ac O<|B7 O (by omega)<|Ab O<|Bf ?_
   exact Ap (Pw.next ((k+1,cs++[c])) ⟨rfl,rfl,rfl,rfl,trivial⟩ (⟨m,b6,(L.below f).grown v (fun b e=> .inl ⟨_,z,e⟩),(hd5.below f).grown v (fun b e=> .inl e),m6,r6⟩) (by simp only;omega))
  intro h
  have m:k=hs[i].k:=by simp at h;omega
  rw [drop_of_length_le (by rw [E,m];exact AX _),append_nil] at J
  rw [m] at U
  have hall:BY (fun b=>hs[i].v.ownBlock=some b) D w3:=(BY.of_below H).trans F
  refine Bp<|Al<|Al<|Bd<|Bn<|Ch<|Ac O<|B7 O (by omega)<|Ab O<|Bf ?_
  exact Ap (Pw.next (i+1) ⟨rfl,rfl,trivial⟩ (⟨d,I,fun j o X=>(if e:j=i then by subst e;exact ⟨cs,U,J⟩ else by obtain ⟨ds,q1,q2⟩:=hd j o (by omega);exact ⟨ds,q1.chg st hall M,q2.chg hall fun b e1 e2=>BX t.apart d o (Ne.symm e) b e2 e1⟩),fun j o X=>(ht j o (by omega)).chg hall fun b e1 e2=>BX t.apart d o (by omega) b e2 e1⟩) (by omega))
 intro h
 have d:i=hs.length:=by simp at h;omega
 refine Bp<|Al<|Al<|Bd<|C9 O ?_
 refine ⟨rfl,l,fun x hx=> ?_⟩
 obtain ⟨j,o,rfl⟩:=List.mem_iff_getElem.1 hx
 exact hd j o (by omega)
theorem N3 (A:Nat) (I:List Value) (u:Value) (hs:List Hd) (lo base B:Nat) (w:World) (hA:AO w A BO I) (hu:I[6]? =some u) (ho:w.ownsRow lo 129 3 u hs.length (BF hs)) (M:KOk hs) (hf:G0 w base 33 2 (On B 3) hs)
  (hb1:¬BL hs A) (v:∀b,u.ownBlock=some b→¬BL hs b) (hb3:u.ownBlock≠some A) (hbase:base≤w.heap.size) (hB:B≤w.heap.size) (hSB:∀b,BL hs b→b<B) (huB:∀b,u.ownBlock=some b→b<B):
  AM prog 72 [.pointer (some ⟨A,0,none⟩)] w (fun r o=>r= .tuple #[]∧BY (fun b=>BL hs b∨u.ownBlock=some b) w o∧∃ts,EA w hs ts∧o.ownsRow lo 129 3 u hs.length (BF ts)∧∀t ∈ ts,FY o 2 (On B 3) t):=by
 have hle:=(AI ho).le
 have st:=(DH B 3)
 refine Bb (n:=42) func72 O<|Af<|Ab O<|Ak<|Ao ?_
 refine Bq (S:=(Nat×List Hd)) (fun s=>[(0, .pointer (some ⟨A,0,none⟩)),(2, .int .i64 (s.1:Int))]) (fun s o=>s.1≤hs.length∧EA w hs s.2∧(∀t ∈ s.2,t.g.oneCell' =true)∧BY (fun b=>BL hs b∨u.ownBlock=some b) w o∧o.ownsRow lo 129 3 u hs.length (BF s.2)∧(∀j (q:j<s.2.length),j<s.1→FY o 2 (On B 3) s.2[j])∧(∀j (q:j<hs.length),s.1≤j→∃cs,IX (On B 3) 2 hs[j].n o hs[j].k cs∧BM o base 33 2 hs[j].v hs[j].k cs.flatten)) (fun s=>hs.length - s.1) ((0,hs)) ⟨rfl,rfl,trivial⟩ ?_ ?_
 ·exact ⟨by simp,Ep w M.new,fun t Z=>(by rw [M.new t Z];rfl),BY.refl _ _,ho,fun j q h=>by simp at h,fun j q _=>hf _ (getElem_mem q)⟩
 rintro ⟨i,ts⟩ w1 ⟨hi,V,h1,W,o1,hd,Z⟩
 dsimp only at hi V h1 W o1 hd Z ⊢
 have b1:=hA.chg W (fun e=>e.elim hb1 hb3)
 have s1:=AI o1
 have hlen:=V.len
 refine An<|Af<|Ac O<|Ac O<|Aa (Br O) O<|Be underlying56 O (IP _)<|Aa (Ah (KF _) O b1 hu) O<|Aa (Au (sz:=3) J2 O s1) O<|B3 O<|Ak<|Aq O ?_ ?_
 ·intro h
  have d:i<hs.length:=by simp at h;omega
  have x:i<ts.length:=by omega
  obtain ⟨ev,ek,en,eg⟩:=V.all i d x
  have G:=getElem_mem d
  have hmt:=getElem_mem x
  have hfew:=M.few _ G
  have hnum:=M.num _ G
  have hone:=h1 _ hmt
  have hvb:∀b,hs[i].v.ownBlock=some b→b<w.heap.size:=fun b e=>(hf.blk ⟨_,G,e⟩).2
  have hvB:∀b,hs[i].v.ownBlock=some b→b<B:=fun b e=>hSB b ⟨_,G,e⟩
  obtain ⟨X,m0,U⟩:=Z i d (AX _)
  have hvo:=U.sl.one'
  refine B0<|An<|Ao<|Af<|Ac O<|Aa (Br O) O<|Be underlying56 O (IP _)<|Aa (Ah (KF _) O b1 hu) O<|Ac O<|Aa (Ci J2 O O s1 i O d) O<|Aa (Cq (cs:=ts[i].cells) (Qs _) (Po _) O s1 O (by decide) (BV x)) O<|C1 (cs:=ts[i].cells) LO O O O O (fun _=>rfl) (by simp [Hd.cells,ev,hvo,hone,EB]) ?_
  rintro R w2 eA_h y E zhn2
  have hc2:=W.below E
  have z1:=W.size
  have z2:=hc2.size
  have U:=U.bs E
  have m0:=m0.bs st E
  refine Bl<|Be underlying129 O (GA _)<|Aa (Ah (EY _) O ‹_› rfl) O ?_
  refine Ab O<|Bh<|Ab O<|Ak<|Ao<|D5 4 (v' :=hs[i].v) O (ev) ?_
  refine Bq (S:=(Nat×Value×List (List Value))) (fun s=>[(0, .pointer (some ⟨A,0,none⟩)),(2, .int .i64 (i:Int)),(3, .pointer (some ⟨R,0,none⟩)),(4,s.2.1),(5, .int .i64 (s.1:Int))]) (fun s o=>s.1≤40∧AO o R 129 ts[i].cells∧BY (fun b=>hs[i].v.ownBlock=some b) w2 o∧IX (On B 3) 2 hs[i].n o (hs[i].k+s.1) s.2.2∧BM o base 33 2 s.2.1 (hs[i].k+s.1) s.2.2.flatten∧(∀b,s.2.1.ownBlock=some b→hs[i].v.ownBlock=some b∨w2.heap.size≤b)∧s.2.2.take hs[i].k=X∧Sl o 2 hs[i].v hs[i].k X.flatten) (fun s=>40 - s.1) ((0,hs[i].v,X)) ⟨rfl,rfl,rfl,rfl,rfl,trivial⟩ ?_ ?_
  ·exact ⟨by simp,y,BY.refl _ _,m0,U,fun b e=> .inl e,take_of_length_le (by rw [m0.els.1];exact AX _),U.sl⟩
  clear y
  rintro ⟨k,g,cs⟩ w3 ⟨hk3,y,L,m3,r3,p,Q,l3⟩
  dsimp only at hk3 y m3 r3 p Q l3 ⊢
  have z3:=L.size
  refine An<|Af<|Ac O<|B3 O<|Ak<|Aq O ?_ ?_
  ·intro h
   have K:k<40:=by simp at h;omega
   refine B0<|An<|Ao<|Bw<|Ac O<|Be underlying129 O (BA _)<|Aa (Ah (AK _) O ‹_› rfl) O ?_
   refine C5 30 (v' := .int .i64 hs[i].n) O (cngA (Value.int .i64) en)<|Aj O O (JE B hs[i].n w3 hnum (by omega)) ?_
   rintro _ H ⟨⟨c,rfl,hφ⟩,hn4⟩
   have lc:=No hφ
   refine Bk (Dw (cs:=c) AR AY O lc.1 (by decide) (by decide)) O ?_
   rintro nv w5 ⟨o5, -,hn5, -⟩
   have f:=bt hn4 hn5
   have z5:=f.size
   have r5:=r3.bs f
   have m5:=(m3.bs st f).snoc lc.1 (st.bs hφ hn5)
   have hgt:∀b,g.ownBlock=some b→b<B∨∃T cs,AO w5 b T cs∧T≠3:=fun b e=>by
    rcases p b e with a|a
    ·exact .inl (hvB b a)
    ·obtain ⟨cur,hcur⟩:=r5.ty e
     exact .inr ⟨_,cur,hcur,by decide⟩
   refine Bk (Eo (base:=base) AR AY O (by decide) O O r5 (AI o5) lc.2 (by omega) (by omega) (by omega) (AX _)) O ?_
   rintro g' w6 ⟨r6,D,z⟩
   have l5:=l3.bs f
   have b5:=y.bs f
   have e6:cs.flatten++c=(cs++[c]).flatten:=by simp
   rw [e6] at r6
   have m6:=m5.by st D hgt
   have hgA:some R≠g.ownBlock:=fun e=>by
    rcases p _ e.symm with a|a
    ·have:=hvb _ a;omega
    ·omega
   have J:(cs++[c]).take hs[i].k=X:=by rw [take_append_of_le_length (by rw [m3.els.1];omega)];exact Q
   have l6:Sl w6 2 hs[i].v hs[i].k X.flatten:=KA U (.inl r6) D z l5 (by
    rw [E7 (k:=hs[i].k) (m:=k+1) m5.els,J])
   have hgb' :∀b,g'.ownBlock=some b→hs[i].v.ownBlock=some b∨w2.heap.size≤b:=fun b e=>by
    rcases z with a|⟨a, -⟩
    ·rw [a] at e;exact p b e
    ·exact .inr (by have:=a b e;omega)
   refine Ab O<|Bf<|Bn<|Ch<|Ac O<|B7 O (by omega)<|Ab O<|Bf ?_
   exact Ap (Pw.next ((k+1,g',cs++[c])) ⟨rfl,rfl,rfl,rfl,rfl,trivial⟩ (⟨K,b5.by D hgA,(L.below f).grown D p,m6, .inl r6,hgb',J,l6⟩) (by simp only;omega))
  intro h
  have K:k=40:=by simp at h;omega
  subst K
  have hall:BY (fun b=>hs[i].v.ownBlock=some b) w1 w3:=(BY.of_below E).trans L
  have hcS:BY (fun b=>BL hs b∨u.ownBlock=some b) w w3:=W.trans (hall.mono fun b e=> .inl ⟨_,G,e⟩)
  have b3:=hA.chg hcS (fun e=>e.elim hb1 hb3)
  have o3:=AV o1 hall (fun b e1 e2=>v b e1 ⟨_,G,e2⟩)
  refine Bp<|Al<|Al<|Bd<|Ch<|Ac O<|Aa (Br O) O<|Be underlying56 O (IP _)<|Aa (Ah (KF _) O b3 hu) O<|Ac O<|Ac O<|Aa (Ci J2 O O (AI o3) i O d) O<|Aa (C2 underlying129 O (GA _) O (Im o3 (by omega))) O<|Az (D3 (j:=i*3+1) (GA _) O O r3.sl.one' o3 (by rw [Gp];omega)) ?_
  rintro H ⟨o4,C, -⟩
  have e4:=Gn x g
  have o4:H.ownsRow lo 129 3 u hs.length (BF (ts.set i {ts[i] with g:=g})):=by rw [← e4];exact o4
  have hG4:=V.set d x (g:=g) (fun b e=>by
   rcases p b e with a|a
   ·exact .inl a
   ·exact .inr (by omega))
  have l:BY (fun b=>hs[i].v.ownBlock=some b∨u.ownBlock=some b) w1 H:=(hall.mono fun b e=> .inl e).grown C (fun b e=> .inl (.inr e))
  have F:∀b,(hs[i].v.ownBlock=some b∨u.ownBlock=some b)→b<B:=fun b e=>e.elim (hvB b) (huB b)
  have hS4:BY (fun b=>BL hs b∨u.ownBlock=some b) w H:=hcS.grown C (fun b e=> .inl (.inr e))
  have huT:∀b,u.ownBlock=some b→b<B∨∃T cs,AO w3 b T cs∧T≠3:=fun b e=> .inl (huB b e)
  have m4:=m3.by st C huT
  have t4:FY H 2 (On B 3) {ts[i] with g:=g}:=by
   refine ⟨⟨X, ?_, ?_⟩,⟨cs, ?_, ?_⟩⟩
   ·simp only;rw [ek,en,← Q];exact m4.take
   ·simp only;rw [ev,ek]
    refine l3.by C ?_
    cases hv:hs[i].v.ownBlock with
    |none=>exact .inl rfl
    |some b=>exact .inr fun e=>v b e.symm ⟨_,G,hv⟩
   ·simp only;rw [ek,en];exact m4
   ·simp only;rw [ek]
    refine r3.sl.by C ?_
    cases hv:g.ownBlock with
    |none=>exact .inl rfl
    |some b=>
     refine .inr fun e=> ?_
     rcases p b hv with a|a
     ·exact v b e.symm ⟨_,G,a⟩
     ·have:=(AG ho b e.symm).2;omega
  have h14:∀t ∈ ts.set i {ts[i] with g:=g},t.g.oneCell' =true:=fun t N=>by
   rcases mem_or_eq_of_mem_set N with a|a
   ·exact h1 t a
   ·rw [a];exact r3.sl.one'
  have hd4:∀j (q:j<(ts.set i {ts[i] with g:=g}).length),j<i+1→FY H 2 (On B 3) (ts.set i {ts[i] with g:=g})[j]:=fun j q hji=>by
    rw [getElem_set]
    split
    ·exact t4
    ·rename_i Y
     have hj' :j<ts.length:=by simpa using q
     obtain ⟨fv,_,_,fg⟩:=V.all j (by omega) hj'
     refine (hd j hj' (by omega)).chg st l F (fun b e1 _ e2=> ?_) (fun b e1 _ e2=> ?_)
     ·rw [fv] at e1
      rcases e2 with e2|e2
      ·exact BX M.apart d (show j<hs.length by omega) Y b e2 e1
      ·exact v b e2 ⟨_,getElem_mem _,e1⟩
     ·rcases e2 with e2|e2
      ·rcases fg b e1 with a|a
       ·exact BX M.apart d (show j<hs.length by omega) Y b e2 a
       ·have:=hvb b e2;omega
      ·rcases fg b e1 with a|a
       ·exact v b e2 ⟨_,getElem_mem _,a⟩
       ·have:=(AG ho b e2).2;omega
  have ht4:∀j (q:j<hs.length),i+1≤j→∃cs,IX (On B 3) 2 hs[j].n H hs[j].k cs∧BM H base 33 2 hs[j].v hs[j].k cs.flatten:=fun j q hji=>by
   obtain ⟨ds,q1,q2⟩:=Z j q (by omega)
   refine ⟨ds,q1.chg st l F,q2.chg l fun b e1 e2=> ?_⟩
   rcases e2 with e2|e2
   ·exact BX M.apart d q (by omega) b e2 e1
   ·exact v b e2 ⟨_,getElem_mem _,e1⟩
  refine Bf<|Bn<|Ch<|Ac O<|B7 O (by omega)<|Ab O<|Bf ?_
  exact Ap (Pw.next ((i+1,ts.set i {ts[i] with g:=g})) ⟨rfl,rfl,trivial⟩ (⟨d,hG4,h14,hS4,o4,hd4,ht4⟩) (by simp only;omega))
 intro h
 have d:i=hs.length:=by simp at h;omega
 refine Bp<|Al<|Al<|Bd<|C9 O ?_
 refine ⟨rfl,W,ts,V,o1,fun t N=> ?_⟩
 obtain ⟨j,q,rfl⟩:=List.mem_iff_getElem.1 N
 exact hd j q (by omega)
theorem Nt (A:Nat) (l:List Value) (u:Value) (ts:List Hd) (lo B:Nat) (w:World) (Y:AO w A BO l) (Q:l[6]? =some u) (N:w.ownsRow lo 129 3 u ts.length (BF ts)) (X:∀t ∈ ts,FY w 2 (On B 3) t) (hn:∀t ∈ ts,(0≤t.n∧t.n≤4000000)∧t.k≤16777216):
  AM prog 87 [.pointer (some ⟨A,0,none⟩)] w (fun r v=>r= .bool true∧Below w.heap.size w v):=by
 have hle:=(AI N).le
 have st:=(DH B 3)
 refine Bb (n:=64) func87 O<|Af<|Ab O<|Bh<|Ab O<|Ak<|Ao ?_
 refine Bq (S:=Nat) (fun i=>[(0, .pointer (some ⟨A,0,none⟩)),(2, .bool false),(3, .int .i64 (i:Int))]) (fun i v=>i≤ts.length∧Below w.heap.size w v) (fun i=>ts.length - i) (0) ⟨rfl,rfl,rfl,trivial⟩ ?_ ?_
 ·exact ⟨by omega,Below.refl _ _⟩
 rintro i b ⟨hi,d⟩
 have K:=Y.bs d
 have I:=(AI N).bs d
 refine An<|Af<|Ac O<|Ac O<|Aa (Br O) O<|Be underlying56 O (IP _)<|Aa (Ah (KF _) O K Q) O<|Aa (Au (sz:=3) J2 O I) O<|B3 O<|Ak<|Aq O ?_ ?_
 ·intro h
  have j:i<ts.length:=by simp at h;omega
  have R:=getElem_mem j
  obtain ⟨m,T⟩:=hn _ R
  have Z:=(X _ R).bs st d
  obtain ⟨⟨F,s,z⟩,⟨H,q,y⟩⟩:=Z
  refine B0<|An<|Ao<|Af<|Ac O<|Aa (Br O) O<|Be underlying56 O (IP _)<|Aa (Ah (KF _) O K Q) O<|Ac O<|Aa (Ci J2 O O I i O j) O<|Aa (Cq (cs:=ts[i].cells) (Qs _) (Po _) O I O (by decide) (BV j)) O<|C1 (cs:=ts[i].cells) LO O O O O (fun _=>rfl) (by simp [Hd.cells,z.one',y.one',EB]) ?_
  rintro E U L C e M
  have D:=bt d e
  have z:=z.bs e
  have y:=y.bs e
  have s:=s.bs st e
  have q:=q.bs st e
  refine Bh<|Be underlying129 O (GA _)<|Aa (Ah (EY _) O ‹_› rfl) O ?_
  refine Aa (Au (sz:=2) AR O y) O<|Be underlying129 O (GA _)<|Aa (Ah (EY _) O ‹_› rfl) O ?_
  refine Aa (Au (sz:=2) AR O z) O<|B7 O (by omega)<|Aa (Cs O O) O<|Ak<|Ca O false (by simp)<|Co<|Ab O<|Ak<|Ao ?_
  refine Bq (S:=Nat) (fun k=>[(0, .pointer (some ⟨A,0,none⟩)),(2, .bool false),(3, .int .i64 (i:Int)),(4, .pointer (some ⟨E,0,none⟩)),(5, .int .i64 (k:Int))]) (fun k v=>k≤ts[i].k+40∧Below U.heap.size U v) (fun k=>ts[i].k+40 - k) (0) ⟨rfl,rfl,rfl,rfl,rfl,trivial⟩ ?_ ?_
  ·exact ⟨by omega,Below.refl _ _⟩
  rintro k w3 ⟨hk3,c⟩
  have G:=z.bs c
  have J:=y.bs c
  have b3:=C.bs c
  have W:=s.bs st c
  have m4:=q.bs st c
  refine An<|Af<|Ac O<|Be underlying129 O (GA _)<|Aa (Ah (EY _) O ‹_› rfl) O ?_
  refine Aa (Au (sz:=2) AR O J) O<|B3 O<|Ak<|Aq O ?_ ?_
  ·intro h
   have f:k<ts[i].k+40:=by simp at h;omega
   have o:k<H.length:=by rw [q.els.1];exact f
   refine B0<|An<|Ao<|An<|Cv AS (by kernel_rfl)<|Ad (fun b a=>Cd underlying129 O (GA _)) O<|Ad (fun b a=>Ah (EY _) O (AO.bs ‹_› a) O) O ?_
   refine Bg O<|Ad (fun b a=>Ci AR O O (J.bs a) k O f) O<|Ad (fun b a=>Cq (cs:=H[k]) (AT _) (AP _) O (J.bs a) (q.els.2 _ (getElem_mem o)) (by decide) (q.els.cells o)) O<|Ad (fun b a=>Cd underlying129 O (BA _)) O<|Ad (fun b a=>Ah (AK _) O (AO.bs ‹_› a) O) O ?_
   refine C3 O O (fun b a=>(LR B ts[i].n b H[k] m (st.bs (m4.each _ (getElem_mem o)) a)).q a)<|Ad (fun b a=>Ck O) O<|Bg O<|Eu 46 (v' := .bool false) O (cngA Value.bool (rfl))<|Ba (dj:=46) O O<|Bg O<|Ba (dj:=46) O O<|Ad (fun b a=>Cd underlying129 O (GA _)) O<|Ba (dj:=46) O O<|Ad (fun b a=>Ah (EY _) O (AO.bs ‹_› a) O) O ?_
   refine Ba (dj:=46) O O<|Ad (fun b a=>Au (sz:=2) AR O (G.bs a)) O<|Ba (dj:=46) O O<|Ad (fun b a=>Eh O O) O<|Ba (dj:=46) O O<|Bg O ?_
   refine Dm 52 O ?_ ?_
   ·intro g
    have x:k<ts[i].k:=by simpa using g
    have p:k<F.length:=by rw [s.els.1];exact x
    refine Ba (dj:=52) O O<|Ad (fun b a=>Cd underlying129 O (GA _)) O<|Ba (dj:=52) O O<|Ad (fun b a=>Ah (EY _) O (AO.bs ‹_› a) O) O ?_
    refine Ba (dj:=52) O O<|Bg O<|Ba (dj:=52) O O<|Ad (fun b a=>Ci AR O O (G.bs a) k O x) O<|Ba (dj:=52) O O<|Ad (fun b a=>Cq (cs:=F[k]) (AT _) (AP _) O (G.bs a) (s.els.2 _ (getElem_mem p)) (by decide) (s.els.cells p)) O<|Ba (dj:=52) O O<|Ad (fun b a=>Cd underlying129 O (BA _)) O<|Ba (dj:=52) O O<|Ad (fun b a=>Ah (AK _) O (AO.bs ‹_› a) O) O ?_
    refine Ba (dj:=52) O O<|C3 O O (fun b a=>(LR B ts[i].n b F[k] m (st.bs (W.each _ (getElem_mem p)) a)).q a)<|Ba (dj:=52) O O<|Ad (fun b a=>Ck O) O<|Ba (dj:=46) O O<|Ad (fun b a=>Ct O O) O<|Ad (fun b a=>Cz O O) O ?_
    refine Cr (fun V a=> ?_)
    refine Ap<|B8<|Ca O false (rfl)<|Cp<|Bn<|Ch<|Ac O<|B7 O (by omega)<|Ab O<|Bf ?_
    exact Ap (Pw.next (k+1) ⟨rfl,rfl,rfl,rfl,rfl,trivial⟩ (⟨f,bt c a⟩) (by omega))
   ·intro g
    refine Ar (dj:=52) O O O O<|Ar (dj:=52) O O O O<|Ar (dj:=52) O O O O<|Ar (dj:=52) O O O O<|Ar (dj:=52) O O O O<|Ar (dj:=52) O O O O<|Ar (dj:=52) O O O O<|Ar (dj:=52) O O O O<|Ar (dj:=52) O O O O<|Ba (dj:=46) O O<|Ad (fun b a=>Cz O O) O<|Ad (fun b a=>Cz O O) O ?_
    refine Cr (fun V a=> ?_)
    refine Ap<|B8<|D6 O<|Cp<|Bn<|Ch<|Ac O<|B7 O (by omega)<|Ab O<|Bf ?_
    exact Ap (Pw.next (k+1) ⟨rfl,rfl,rfl,rfl,rfl,trivial⟩ (⟨f,bt c a⟩) (by omega))
  intro h
  refine Bp<|Al<|Al<|Bd<|Bn<|Ch<|Ac O<|B7 O (by omega)<|Ab O<|Bf ?_
  exact Ap (Pw.next (i+1) ⟨rfl,rfl,rfl,trivial⟩ (⟨j,bt D c⟩) (by omega))
 intro h
 exact Bp<|Al<|Al<|Bd<|Cm<|Ab rfl<|Bc<|Ax rfl rfl<|⟨rfl,d⟩
theorem Qa (A:Nat) (y:List Value) (u:Value) (hs:List Hd) (lo base B:Nat) (w:World) (hA:AO w A BO y) (hu:y[7]? =some u) (ho:w.ownsRow lo 151 3 u hs.length (BF hs)) (t:FJ w base 25 5 hs)
  (hb1:¬BL hs A) (hb2:∀b,u.ownBlock=some b→¬BL hs b) (hB:B≤w.heap.size) (hSB:∀b,BL hs b→b<B):
  AM prog 58 [.pointer (some ⟨A,0,none⟩)] w (fun r a=>r= .tuple #[]∧BY (BL hs) w a∧G0 a base 25 5 (Oo) hs):=by
 have hle:=(AI ho).le
 have st:=(DN B 3)
 refine Bb (n:=35) func58 O<|Af<|Ab O<|Ak<|Ao ?_
 refine Bq (S:=Nat) (fun i=>[(0, .pointer (some ⟨A,0,none⟩)),(2, .int .i64 (i:Int))]) (fun i a=>i≤hs.length∧BY (BL hs) w a∧(∀j (o:j<hs.length),j<i→∃cs,IX (Oo) 5 hs[j].n a hs[j].k cs∧BM a base 25 5 hs[j].v hs[j].k cs.flatten)∧(∀j (o:j<hs.length),i≤j→BM a base 25 5 hs[j].v hs[j].k hs[j].xs)) (fun i=>hs.length - i) (0) ⟨rfl,rfl,trivial⟩ ?_ ?_
 ·exact ⟨by omega,BY.refl _ _,fun j o h=>by omega,fun j o _=>t.own _ (getElem_mem o)⟩
 rintro i D ⟨hi,l,hd,ht⟩
 have b1:=hA.chg l hb1
 have Y:=AI (AV ho l hb2)
 refine An<|Af<|Ac O<|Ac O<|Aa (Br O) O<|Be underlying56 O (IN _)<|Aa (Ah (KE _) O b1 hu) O<|Aa (Au (sz:=3) J1 O Y) O<|B3 O<|Ak<|Aq O ?_ ?_
 ·intro h
  have d:i<hs.length:=by simp at h;omega
  have z:=getElem_mem d
  have hfew:=t.few _ z
  have R:=t.num _ z
  have N:hs[i].g.oneCell' =true:=by rw [t.new _ z];rfl
  have E:=(t.own _ z).len
  have W:∀b,hs[i].v.ownBlock=some b→b<w.heap.size:=fun b e=>(t.blk ⟨_,z,e⟩).2
  have M:∀b,hs[i].v.ownBlock=some b→b<B:=fun b e=>hSB b ⟨_,z,e⟩
  refine B0<|An<|Ao<|Af<|Ac O<|Aa (Br O) O<|Be underlying56 O (IN _)<|Aa (Ah (KE _) O b1 hu) O<|Ac O<|Aa (Ci J1 O O Y i O d) O<|Aa (Cq (cs:=hs[i].cells) (Qo _) (Pk _) O Y O (by decide) (BV d)) O<|C1 (cs:=hs[i].cells) LL O O O O (fun _=>rfl) (by simp [Hd.cells,(t.own _ z).sl.one',N,EB]) ?_
  rintro G w2 eA_h p H zhn2
  have hc2:=l.below H
  have z1:=l.size
  have r0:=(ht i d (AX _)).bs H
  refine Bl<|Ab O<|Ak<|Ao ?_
  refine Bq (S:=(Nat×List (List Value))) (fun s=>[(0, .pointer (some ⟨A,0,none⟩)),(2, .int .i64 (i:Int)),(3, .pointer (some ⟨G,0,none⟩)),(4, .int .i64 (s.1:Int))]) (fun s a=>s.1≤hs[i].k∧AO a G 151 hs[i].cells∧BY (BL hs) w a∧BY (fun b=>hs[i].v.ownBlock=some b) w2 a∧IX (Oo) 5 hs[i].n a s.1 s.2∧BM a base 25 5 hs[i].v hs[i].k (s.2.flatten++hs[i].xs.drop (s.1*5))) (fun s=>hs[i].k - s.1) ((0,[])) ⟨rfl,rfl,rfl,rfl,trivial⟩ ?_ ?_
  ·exact ⟨by simp,p,hc2,BY.refl _ _,IX.nil _ _ _ _,by simpa using r0⟩
  clear p r0
  rintro ⟨k,cs⟩ w3 ⟨Q,p,I,F,U,J⟩
  dsimp only at Q p I F U J ⊢
  refine An<|Af<|Ac O<|Be underlying151 O (CQ _)<|Aa (Ah (CZ _) O ‹_› rfl) O ?_
  refine Aa (Au (sz:=5) BQ O J.sl) O<|B3 O<|Ak<|Aq O ?_ ?_
  ·intro h
   have m:k<hs[i].k:=by simp at h;omega
   refine B0<|An<|Ao ?_
   refine Cw.any AS (fun C q _=> ?_)
   have r4:=J.bs q
   have m4:=U.bs st q
   have b4:=p.bs q
   have L:=I.below q
   have hd5:=F.below q
   have z4:=L.size
   refine Fk (St:=List Value) (g:=1) [0,1,2,3,4,5,6] 7 (fun c=>[(0, .pointer (some ⟨A,0,none⟩)),(2, .int .i64 (i:Int)),(3, .pointer (some ⟨G,0,none⟩)),(4, .int .i64 (k:Int)),(33, .agg c.toArray),(34,CI hs[i].v (k*5))]) (fun c a=>Below C.heap.size C a∧(Oo) hs[i].n a c) (by kernel_rfl) O ?_ ?_
   ·have V:=Below.refl C.heap.size C
    refine Dh (fun a=>Below C.heap.size C a) (fun hC=> ?_) (V)
    refine Cj (Am (Bs (Am (Am (Bs (Bs (Am (Am (Bs Bo)))))))))<|Ai 0 O (fun D l=>Cd underlying151 O (CQ _)) O<|Ai 1 O (fun D l=>Ah (CZ _) O (b4.bs l) O) O<|Ai 2 O (fun D l=>B6 O) O<|Ai 3 O (fun D l=>Cd underlying151 O (BA _)) O<|Ai 4 O (fun D l=>Ah (AK _) O (b4.bs l) O) O<|Cb<|AZ.only ‹_› (i:=5) (by kernel_rfl) O ?_
    refine Aj O O (LA B hs[i].n C R (by omega)) ?_
    rintro _ w5 ⟨⟨c,rfl,K⟩,f⟩
    refine AZ.back<|Cj (Am (Bs (Am (Am (Bs (Bs (Am (Am (Bs Bo)))))))))<|Ai 6 O (fun D l=>Ci BQ O O (r4.sl.bs l) k O m) O<|Cb<|Cu ‹_› (by kernel_rfl) ?_
    exact Ap (Fj (c) ⟨rfl,rfl,rfl,rfl,rfl,rfl,trivial⟩ (⟨f,K⟩))
   rintro c w5 ⟨f,K⟩
   have r5:=r4.bs f
   have m5:=m4.bs st f
   have b5:=b4.bs f
   have T:=(Np K).1
   have ld:=OJ E m5.els Q
   refine Aw.only (i:=7) (by kernel_rfl) O<|Az (Xu.stKA (k:=5) (ds:=c) O T O O (Np K).2 r5 (by omega) (by rw [ld,T];omega)) ?_
   rintro w6 ⟨r6,v, -⟩
   rw [Of E m5.els T m] at r6
   have Z:BY (fun b=>hs[i].v.ownBlock=some b) w5 w6:=(BY.refl _ _).grown v (fun b e=> .inl e)
   have m6:=(m5.snoc T K).chg st Z M
   have b6:=b5.by v (fun e=>by have:=W _ e.symm;omega)
   refine Aw.back<|Ea (by kernel_rfl)<|Bn<|Ch<|Ac O<|B7 O (by omega)<|Ab O<|Bf ?_
   exact Ap (Pw.next ((k+1,cs++[c])) ⟨rfl,rfl,rfl,rfl,trivial⟩ (⟨m,b6,(L.below f).grown v (fun b e=> .inl ⟨_,z,e⟩),(hd5.below f).grown v (fun b e=> .inl e),m6,r6⟩) (by simp only;omega))
  intro h
  have m:k=hs[i].k:=by simp at h;omega
  rw [drop_of_length_le (by rw [E,m];exact AX _),append_nil] at J
  rw [m] at U
  have hall:BY (fun b=>hs[i].v.ownBlock=some b) D w3:=(BY.of_below H).trans F
  refine Bp<|Al<|Al<|Bd<|Bn<|Ch<|Ac O<|B7 O (by omega)<|Ab O<|Bf ?_
  exact Ap (Pw.next (i+1) ⟨rfl,rfl,trivial⟩ (⟨d,I,fun j o X=>(if e:j=i then by subst e;exact ⟨cs,U,J⟩ else by obtain ⟨ds,q1,q2⟩:=hd j o (by omega);exact ⟨ds,q1.chg st hall M,q2.chg hall fun b e1 e2=>BX t.apart d o (Ne.symm e) b e2 e1⟩),fun j o X=>(ht j o (by omega)).chg hall fun b e1 e2=>BX t.apart d o (by omega) b e2 e1⟩) (by omega))
 intro h
 have d:i=hs.length:=by simp at h;omega
 refine Bp<|Al<|Al<|Bd<|C9 O ?_
 refine ⟨rfl,l,fun x hx=> ?_⟩
 obtain ⟨j,o,rfl⟩:=List.mem_iff_getElem.1 hx
 exact hd j o (by omega)
theorem PQ (A:Nat) (I:List Value) (u:Value) (hs:List Hd) (lo base B:Nat) (w:World) (hA:AO w A BO I) (hu:I[7]? =some u) (ho:w.ownsRow lo 151 3 u hs.length (BF hs)) (M:KOk hs) (hf:G0 w base 25 5 (Oo) hs)
  (hb1:¬BL hs A) (v:∀b,u.ownBlock=some b→¬BL hs b) (hb3:u.ownBlock≠some A) (hbase:base≤w.heap.size) (hB:B≤w.heap.size) (hSB:∀b,BL hs b→b<B) (huB:∀b,u.ownBlock=some b→b<B):
  AM prog 73 [.pointer (some ⟨A,0,none⟩)] w (fun r o=>r= .tuple #[]∧BY (fun b=>BL hs b∨u.ownBlock=some b) w o∧∃ts,EA w hs ts∧o.ownsRow lo 151 3 u hs.length (BF ts)∧∀t ∈ ts,FY o 5 (Oo) t):=by
 have hle:=(AI ho).le
 have st:=(DN B 3)
 refine Bb (n:=42) func73 O<|Af<|Ab O<|Ak<|Ao ?_
 refine Bq (S:=(Nat×List Hd)) (fun s=>[(0, .pointer (some ⟨A,0,none⟩)),(2, .int .i64 (s.1:Int))]) (fun s o=>s.1≤hs.length∧EA w hs s.2∧(∀t ∈ s.2,t.g.oneCell' =true)∧BY (fun b=>BL hs b∨u.ownBlock=some b) w o∧o.ownsRow lo 151 3 u hs.length (BF s.2)∧(∀j (q:j<s.2.length),j<s.1→FY o 5 (Oo) s.2[j])∧(∀j (q:j<hs.length),s.1≤j→∃cs,IX (Oo) 5 hs[j].n o hs[j].k cs∧BM o base 25 5 hs[j].v hs[j].k cs.flatten)) (fun s=>hs.length - s.1) ((0,hs)) ⟨rfl,rfl,trivial⟩ ?_ ?_
 ·exact ⟨by simp,Ep w M.new,fun t Z=>(by rw [M.new t Z];rfl),BY.refl _ _,ho,fun j q h=>by simp at h,fun j q _=>hf _ (getElem_mem q)⟩
 rintro ⟨i,ts⟩ w1 ⟨hi,V,h1,W,o1,hd,Z⟩
 dsimp only at hi V h1 W o1 hd Z ⊢
 have b1:=hA.chg W (fun e=>e.elim hb1 hb3)
 have s1:=AI o1
 have hlen:=V.len
 refine An<|Af<|Ac O<|Ac O<|Aa (Br O) O<|Be underlying56 O (IN _)<|Aa (Ah (KE _) O b1 hu) O<|Aa (Au (sz:=3) J1 O s1) O<|B3 O<|Ak<|Aq O ?_ ?_
 ·intro h
  have d:i<hs.length:=by simp at h;omega
  have x:i<ts.length:=by omega
  obtain ⟨ev,ek,en,eg⟩:=V.all i d x
  have G:=getElem_mem d
  have hmt:=getElem_mem x
  have hfew:=M.few _ G
  have hnum:=M.num _ G
  have hone:=h1 _ hmt
  have hvb:∀b,hs[i].v.ownBlock=some b→b<w.heap.size:=fun b e=>(hf.blk ⟨_,G,e⟩).2
  have hvB:∀b,hs[i].v.ownBlock=some b→b<B:=fun b e=>hSB b ⟨_,G,e⟩
  obtain ⟨X,m0,U⟩:=Z i d (AX _)
  have hvo:=U.sl.one'
  refine B0<|An<|Ao<|Af<|Ac O<|Aa (Br O) O<|Be underlying56 O (IN _)<|Aa (Ah (KE _) O b1 hu) O<|Ac O<|Aa (Ci J1 O O s1 i O d) O<|Aa (Cq (cs:=ts[i].cells) (Qo _) (Pk _) O s1 O (by decide) (BV x)) O<|C1 (cs:=ts[i].cells) LL O O O O (fun _=>rfl) (by simp [Hd.cells,ev,hvo,hone,EB]) ?_
  rintro R w2 eA_h y E zhn2
  have hc2:=W.below E
  have z1:=W.size
  have z2:=hc2.size
  have U:=U.bs E
  have m0:=m0.bs st E
  refine Bl<|Be underlying151 O (CQ _)<|Aa (Ah (CZ _) O ‹_› rfl) O ?_
  refine Ab O<|Bh<|Ab O<|Ak<|Ao<|D5 4 (v' :=hs[i].v) O (ev) ?_
  refine Bq (S:=(Nat×Value×List (List Value))) (fun s=>[(0, .pointer (some ⟨A,0,none⟩)),(2, .int .i64 (i:Int)),(3, .pointer (some ⟨R,0,none⟩)),(4,s.2.1),(5, .int .i64 (s.1:Int))]) (fun s o=>s.1≤40∧AO o R 151 ts[i].cells∧BY (fun b=>hs[i].v.ownBlock=some b) w2 o∧IX (Oo) 5 hs[i].n o (hs[i].k+s.1) s.2.2∧BM o base 25 5 s.2.1 (hs[i].k+s.1) s.2.2.flatten∧(∀b,s.2.1.ownBlock=some b→hs[i].v.ownBlock=some b∨w2.heap.size≤b)∧s.2.2.take hs[i].k=X∧Sl o 5 hs[i].v hs[i].k X.flatten) (fun s=>40 - s.1) ((0,hs[i].v,X)) ⟨rfl,rfl,rfl,rfl,rfl,trivial⟩ ?_ ?_
  ·exact ⟨by simp,y,BY.refl _ _,m0,U,fun b e=> .inl e,take_of_length_le (by rw [m0.els.1];exact AX _),U.sl⟩
  clear y
  rintro ⟨k,g,cs⟩ w3 ⟨hk3,y,L,m3,r3,p,Q,l3⟩
  dsimp only at hk3 y m3 r3 p Q l3 ⊢
  have z3:=L.size
  refine An<|Af<|Ac O<|B3 O<|Ak<|Aq O ?_ ?_
  ·intro h
   have K:k<40:=by simp at h;omega
   refine B0<|An<|Ao<|Bw<|Ac O<|Be underlying151 O (BA _)<|Aa (Ah (AK _) O ‹_› rfl) O ?_
   refine C5 30 (v' := .int .i64 hs[i].n) O (cngA (Value.int .i64) en)<|Aj O O (LA B hs[i].n w3 hnum (by omega)) ?_
   rintro _ H ⟨⟨c,rfl,hφ⟩,hn4⟩
   have lc:=Np hφ
   refine Bk (Dw (cs:=c) BQ GD O lc.1 (by decide) (by decide)) O ?_
   rintro nv w5 ⟨o5, -,hn5, -⟩
   have f:=bt hn4 hn5
   have z5:=f.size
   have r5:=r3.bs f
   have m5:=(m3.bs st f).snoc lc.1 (st.bs hφ hn5)
   have hgt:∀b,g.ownBlock=some b→b<B∨∃T cs,AO w5 b T cs∧T≠3:=fun b e=>by
    rcases p b e with a|a
    ·exact .inl (hvB b a)
    ·obtain ⟨cur,hcur⟩:=r5.ty e
     exact .inr ⟨_,cur,hcur,by decide⟩
   refine Bk (Eo (base:=base) BQ GD O (by decide) O O r5 (AI o5) lc.2 (by omega) (by omega) (by omega) (AX _)) O ?_
   rintro g' w6 ⟨r6,D,z⟩
   have l5:=l3.bs f
   have b5:=y.bs f
   have e6:cs.flatten++c=(cs++[c]).flatten:=by simp
   rw [e6] at r6
   have m6:=m5.by st D hgt
   have hgA:some R≠g.ownBlock:=fun e=>by
    rcases p _ e.symm with a|a
    ·have:=hvb _ a;omega
    ·omega
   have J:(cs++[c]).take hs[i].k=X:=by rw [take_append_of_le_length (by rw [m3.els.1];omega)];exact Q
   have l6:Sl w6 5 hs[i].v hs[i].k X.flatten:=KA U (.inl r6) D z l5 (by
    rw [E7 (k:=hs[i].k) (m:=k+1) m5.els,J])
   have hgb' :∀b,g'.ownBlock=some b→hs[i].v.ownBlock=some b∨w2.heap.size≤b:=fun b e=>by
    rcases z with a|⟨a, -⟩
    ·rw [a] at e;exact p b e
    ·exact .inr (by have:=a b e;omega)
   refine Ab O<|Bf<|Bn<|Ch<|Ac O<|B7 O (by omega)<|Ab O<|Bf ?_
   exact Ap (Pw.next ((k+1,g',cs++[c])) ⟨rfl,rfl,rfl,rfl,rfl,trivial⟩ (⟨K,b5.by D hgA,(L.below f).grown D p,m6, .inl r6,hgb',J,l6⟩) (by simp only;omega))
  intro h
  have K:k=40:=by simp at h;omega
  subst K
  have hall:BY (fun b=>hs[i].v.ownBlock=some b) w1 w3:=(BY.of_below E).trans L
  have hcS:BY (fun b=>BL hs b∨u.ownBlock=some b) w w3:=W.trans (hall.mono fun b e=> .inl ⟨_,G,e⟩)
  have b3:=hA.chg hcS (fun e=>e.elim hb1 hb3)
  have o3:=AV o1 hall (fun b e1 e2=>v b e1 ⟨_,G,e2⟩)
  refine Bp<|Al<|Al<|Bd<|Ch<|Ac O<|Aa (Br O) O<|Be underlying56 O (IN _)<|Aa (Ah (KE _) O b3 hu) O<|Ac O<|Ac O<|Aa (Ci J1 O O (AI o3) i O d) O<|Aa (C2 underlying151 O (CQ _) O (Im o3 (by omega))) O<|Az (D3 (j:=i*3+1) (CQ _) O O r3.sl.one' o3 (by rw [Gp];omega)) ?_
  rintro H ⟨o4,C, -⟩
  have e4:=Gn x g
  have o4:H.ownsRow lo 151 3 u hs.length (BF (ts.set i {ts[i] with g:=g})):=by rw [← e4];exact o4
  have hG4:=V.set d x (g:=g) (fun b e=>by
   rcases p b e with a|a
   ·exact .inl a
   ·exact .inr (by omega))
  have l:BY (fun b=>hs[i].v.ownBlock=some b∨u.ownBlock=some b) w1 H:=(hall.mono fun b e=> .inl e).grown C (fun b e=> .inl (.inr e))
  have F:∀b,(hs[i].v.ownBlock=some b∨u.ownBlock=some b)→b<B:=fun b e=>e.elim (hvB b) (huB b)
  have hS4:BY (fun b=>BL hs b∨u.ownBlock=some b) w H:=hcS.grown C (fun b e=> .inl (.inr e))
  have huT:∀b,u.ownBlock=some b→b<B∨∃T cs,AO w3 b T cs∧T≠3:=fun b e=> .inl (huB b e)
  have m4:=m3.by st C huT
  have t4:FY H 5 (Oo) {ts[i] with g:=g}:=by
   refine ⟨⟨X, ?_, ?_⟩,⟨cs, ?_, ?_⟩⟩
   ·simp only;rw [ek,en,← Q];exact m4.take
   ·simp only;rw [ev,ek]
    refine l3.by C ?_
    cases hv:hs[i].v.ownBlock with
    |none=>exact .inl rfl
    |some b=>exact .inr fun e=>v b e.symm ⟨_,G,hv⟩
   ·simp only;rw [ek,en];exact m4
   ·simp only;rw [ek]
    refine r3.sl.by C ?_
    cases hv:g.ownBlock with
    |none=>exact .inl rfl
    |some b=>
     refine .inr fun e=> ?_
     rcases p b hv with a|a
     ·exact v b e.symm ⟨_,G,a⟩
     ·have:=(AG ho b e.symm).2;omega
  have h14:∀t ∈ ts.set i {ts[i] with g:=g},t.g.oneCell' =true:=fun t N=>by
   rcases mem_or_eq_of_mem_set N with a|a
   ·exact h1 t a
   ·rw [a];exact r3.sl.one'
  have hd4:∀j (q:j<(ts.set i {ts[i] with g:=g}).length),j<i+1→FY H 5 (Oo) (ts.set i {ts[i] with g:=g})[j]:=fun j q hji=>by
    rw [getElem_set]
    split
    ·exact t4
    ·rename_i Y
     have hj' :j<ts.length:=by simpa using q
     obtain ⟨fv,_,_,fg⟩:=V.all j (by omega) hj'
     refine (hd j hj' (by omega)).chg st l F (fun b e1 _ e2=> ?_) (fun b e1 _ e2=> ?_)
     ·rw [fv] at e1
      rcases e2 with e2|e2
      ·exact BX M.apart d (show j<hs.length by omega) Y b e2 e1
      ·exact v b e2 ⟨_,getElem_mem _,e1⟩
     ·rcases e2 with e2|e2
      ·rcases fg b e1 with a|a
       ·exact BX M.apart d (show j<hs.length by omega) Y b e2 a
       ·have:=hvb b e2;omega
      ·rcases fg b e1 with a|a
       ·exact v b e2 ⟨_,getElem_mem _,a⟩
       ·have:=(AG ho b e2).2;omega
  have ht4:∀j (q:j<hs.length),i+1≤j→∃cs,IX (Oo) 5 hs[j].n H hs[j].k cs∧BM H base 25 5 hs[j].v hs[j].k cs.flatten:=fun j q hji=>by
   obtain ⟨ds,q1,q2⟩:=Z j q (by omega)
   refine ⟨ds,q1.chg st l F,q2.chg l fun b e1 e2=> ?_⟩
   rcases e2 with e2|e2
   ·exact BX M.apart d q (by omega) b e2 e1
   ·exact v b e2 ⟨_,getElem_mem _,e1⟩
  refine Bf<|Bn<|Ch<|Ac O<|B7 O (by omega)<|Ab O<|Bf ?_
  exact Ap (Pw.next ((i+1,ts.set i {ts[i] with g:=g})) ⟨rfl,rfl,trivial⟩ (⟨d,hG4,h14,hS4,o4,hd4,ht4⟩) (by simp only;omega))
 intro h
 have d:i=hs.length:=by simp at h;omega
 refine Bp<|Al<|Al<|Bd<|C9 O ?_
 refine ⟨rfl,W,ts,V,o1,fun t N=> ?_⟩
 obtain ⟨j,q,rfl⟩:=List.mem_iff_getElem.1 N
 exact hd j q (by omega)
theorem P9 (A:Nat) (l:List Value) (u:Value) (ts:List Hd) (lo B:Nat) (w:World) (Y:AO w A BO l) (Q:l[7]? =some u) (N:w.ownsRow lo 151 3 u ts.length (BF ts)) (X:∀t ∈ ts,FY w 5 (Oo) t) (hn:∀t ∈ ts,(0≤t.n∧t.n≤4000000)∧t.k≤16777216):
  AM prog 88 [.pointer (some ⟨A,0,none⟩)] w (fun r v=>r= .bool true∧Below w.heap.size w v):=by
 have hle:=(AI N).le
 have st:=(DN B 3)
 refine Bb (n:=64) func88 O<|Af<|Ab O<|Bh<|Ab O<|Ak<|Ao ?_
 refine Bq (S:=Nat) (fun i=>[(0, .pointer (some ⟨A,0,none⟩)),(2, .bool false),(3, .int .i64 (i:Int))]) (fun i v=>i≤ts.length∧Below w.heap.size w v) (fun i=>ts.length - i) (0) ⟨rfl,rfl,rfl,trivial⟩ ?_ ?_
 ·exact ⟨by omega,Below.refl _ _⟩
 rintro i b ⟨hi,d⟩
 have K:=Y.bs d
 have I:=(AI N).bs d
 refine An<|Af<|Ac O<|Ac O<|Aa (Br O) O<|Be underlying56 O (IN _)<|Aa (Ah (KE _) O K Q) O<|Aa (Au (sz:=3) J1 O I) O<|B3 O<|Ak<|Aq O ?_ ?_
 ·intro h
  have j:i<ts.length:=by simp at h;omega
  have R:=getElem_mem j
  obtain ⟨m,T⟩:=hn _ R
  have Z:=(X _ R).bs st d
  obtain ⟨⟨F,s,z⟩,⟨H,q,y⟩⟩:=Z
  refine B0<|An<|Ao<|Af<|Ac O<|Aa (Br O) O<|Be underlying56 O (IN _)<|Aa (Ah (KE _) O K Q) O<|Ac O<|Aa (Ci J1 O O I i O j) O<|Aa (Cq (cs:=ts[i].cells) (Qo _) (Pk _) O I O (by decide) (BV j)) O<|C1 (cs:=ts[i].cells) LL O O O O (fun _=>rfl) (by simp [Hd.cells,z.one',y.one',EB]) ?_
  rintro E U L C e M
  have D:=bt d e
  have z:=z.bs e
  have y:=y.bs e
  have s:=s.bs st e
  have q:=q.bs st e
  refine Bh<|Be underlying151 O (CQ _)<|Aa (Ah (CZ _) O ‹_› rfl) O ?_
  refine Aa (Au (sz:=5) BQ O y) O<|Be underlying151 O (CQ _)<|Aa (Ah (CZ _) O ‹_› rfl) O ?_
  refine Aa (Au (sz:=5) BQ O z) O<|B7 O (by omega)<|Aa (Cs O O) O<|Ak<|Ca O false (by simp)<|Co<|Ab O<|Ak<|Ao ?_
  refine Bq (S:=Nat) (fun k=>[(0, .pointer (some ⟨A,0,none⟩)),(2, .bool false),(3, .int .i64 (i:Int)),(4, .pointer (some ⟨E,0,none⟩)),(5, .int .i64 (k:Int))]) (fun k v=>k≤ts[i].k+40∧Below U.heap.size U v) (fun k=>ts[i].k+40 - k) (0) ⟨rfl,rfl,rfl,rfl,rfl,trivial⟩ ?_ ?_
  ·exact ⟨by omega,Below.refl _ _⟩
  rintro k w3 ⟨hk3,c⟩
  have G:=z.bs c
  have J:=y.bs c
  have b3:=C.bs c
  have W:=s.bs st c
  have m4:=q.bs st c
  refine An<|Af<|Ac O<|Be underlying151 O (CQ _)<|Aa (Ah (CZ _) O ‹_› rfl) O ?_
  refine Aa (Au (sz:=5) BQ O J) O<|B3 O<|Ak<|Aq O ?_ ?_
  ·intro h
   have f:k<ts[i].k+40:=by simp at h;omega
   have o:k<H.length:=by rw [q.els.1];exact f
   refine B0<|An<|Ao<|An<|Cv AS (by kernel_rfl)<|Ad (fun b a=>Cd underlying151 O (CQ _)) O<|Ad (fun b a=>Ah (CZ _) O (AO.bs ‹_› a) O) O ?_
   refine Bg O<|Ad (fun b a=>Ci BQ O O (J.bs a) k O f) O<|Ad (fun b a=>Cq (cs:=H[k]) (EM _) (EJ _) O (J.bs a) (q.els.2 _ (getElem_mem o)) (by decide) (q.els.cells o)) O<|Ad (fun b a=>Cd underlying151 O (BA _)) O<|Ad (fun b a=>Ah (AK _) O (AO.bs ‹_› a) O) O ?_
   refine C3 O O (fun b a=>(O1 B ts[i].n b H[k] m (st.bs (m4.each _ (getElem_mem o)) a)).q a)<|Ad (fun b a=>Ck O) O<|Bg O<|Eu 46 (v' := .bool false) O (cngA Value.bool (rfl))<|Ba (dj:=46) O O<|Bg O<|Ba (dj:=46) O O<|Ad (fun b a=>Cd underlying151 O (CQ _)) O<|Ba (dj:=46) O O<|Ad (fun b a=>Ah (CZ _) O (AO.bs ‹_› a) O) O ?_
   refine Ba (dj:=46) O O<|Ad (fun b a=>Au (sz:=5) BQ O (G.bs a)) O<|Ba (dj:=46) O O<|Ad (fun b a=>Eh O O) O<|Ba (dj:=46) O O<|Bg O ?_
   refine Dm 52 O ?_ ?_
   ·intro g
    have x:k<ts[i].k:=by simpa using g
    have p:k<F.length:=by rw [s.els.1];exact x
    refine Ba (dj:=52) O O<|Ad (fun b a=>Cd underlying151 O (CQ _)) O<|Ba (dj:=52) O O<|Ad (fun b a=>Ah (CZ _) O (AO.bs ‹_› a) O) O ?_
    refine Ba (dj:=52) O O<|Bg O<|Ba (dj:=52) O O<|Ad (fun b a=>Ci BQ O O (G.bs a) k O x) O<|Ba (dj:=52) O O<|Ad (fun b a=>Cq (cs:=F[k]) (EM _) (EJ _) O (G.bs a) (s.els.2 _ (getElem_mem p)) (by decide) (s.els.cells p)) O<|Ba (dj:=52) O O<|Ad (fun b a=>Cd underlying151 O (BA _)) O<|Ba (dj:=52) O O<|Ad (fun b a=>Ah (AK _) O (AO.bs ‹_› a) O) O ?_
    refine Ba (dj:=52) O O<|C3 O O (fun b a=>(O1 B ts[i].n b F[k] m (st.bs (W.each _ (getElem_mem p)) a)).q a)<|Ba (dj:=52) O O<|Ad (fun b a=>Ck O) O<|Ba (dj:=46) O O<|Ad (fun b a=>Ct O O) O<|Ad (fun b a=>Cz O O) O ?_
    refine Cr (fun V a=> ?_)
    refine Ap<|B8<|Ca O false (rfl)<|Cp<|Bn<|Ch<|Ac O<|B7 O (by omega)<|Ab O<|Bf ?_
    exact Ap (Pw.next (k+1) ⟨rfl,rfl,rfl,rfl,rfl,trivial⟩ (⟨f,bt c a⟩) (by omega))
   ·intro g
    refine Ar (dj:=52) O O O O<|Ar (dj:=52) O O O O<|Ar (dj:=52) O O O O<|Ar (dj:=52) O O O O<|Ar (dj:=52) O O O O<|Ar (dj:=52) O O O O<|Ar (dj:=52) O O O O<|Ar (dj:=52) O O O O<|Ar (dj:=52) O O O O<|Ba (dj:=46) O O<|Ad (fun b a=>Cz O O) O<|Ad (fun b a=>Cz O O) O ?_
    refine Cr (fun V a=> ?_)
    refine Ap<|B8<|D6 O<|Cp<|Bn<|Ch<|Ac O<|B7 O (by omega)<|Ab O<|Bf ?_
    exact Ap (Pw.next (k+1) ⟨rfl,rfl,rfl,rfl,rfl,trivial⟩ (⟨f,bt c a⟩) (by omega))
  intro h
  refine Bp<|Al<|Al<|Bd<|Bn<|Ch<|Ac O<|B7 O (by omega)<|Ab O<|Bf ?_
  exact Ap (Pw.next (i+1) ⟨rfl,rfl,rfl,trivial⟩ (⟨j,bt D c⟩) (by omega))
 intro h
 exact Bp<|Al<|Al<|Bd<|Cm<|Ab rfl<|Bc<|Ax rfl rfl<|⟨rfl,d⟩

theorem IC {v:Value} (h:v.oneCell' =true) (n:Int):[v, .slice none 0 0, .int .i64 n].all (fun x=>x.oneCell')=true:=by
 rw [all_cons,h];rfl
theorem OQ (v:Value) (n:Int) (b:v.cells=[v].toArray):Tryz.prog.built 135 [(0,v),(2, .int .i64 n)]=some [v, .slice none 0 0, .int .i64 n].toArray:=by
 have a:Tryz.prog.info? 135=some Tryz.t135:=by kernel_rfl
 have c:Tryz.prog.info? 23=some Tryz.t23:=by kernel_rfl
 have d:Tryz.prog.info? 3=some Tryz.t3:=by kernel_rfl
 simp [Program.built,a,underlying135,c,d,Instr.fill,b]
 rfl
theorem R3 (A:Nat) (a:List Value) (n:Int) (u:Value) (hs:List Hd) (q:Nat) (w:World) (v:Value) (k:Nat) (xs:List Value) (H:AO w A BO a) (I:a[0]? =some (.int .i64 n)) (L:a[2]? =some u) (J:w.ownsRow q 135 3 u hs.length (BF hs))
  (hlo:q≤w.heap.size) (p:u.ownBlock≠some A) (hn:0≤n∧n≤4000000) (hh:hs.length≤4000000) (M:Sl w 1 v k xs):
  AM prog 153 [.pointer (some ⟨A,0,none⟩),v] w (fun r f=>r= .tuple #[]∧∃l,AO f A BO ((a.set 0 (.int .i64 (n+1))).set 2 l)∧f.ownsRow q 135 3 l (hs.length+1) (BF (hs++[(⟨v,k,xs,n+1, .slice none 0 0⟩:Hd)]))∧BY (fun b=>b=A∨u.ownBlock=some b) w f∧∀b,l.ownBlock=some b→u.ownBlock=some b∨w.heap.size≤b):=by
 have t:0<a.length:=(List.getElem?_eq_some_iff.1 I).1
 have F:2<a.length:=(List.getElem?_eq_some_iff.1 L).1
 refine Bb (n:=26) func153 O<|Af<|Ac O<|Aa (Br O) O<|Be underlying56 O (BA _)<|Aa (Ah (AK _) O H I) O<|B7 O (by omega)<|Aa (Br O) O<|Be underlying56 O (BA _)<|Az (Dj (u:= .int .i64 (n+1)) (BA _) O O O H t) ?_
 rintro c ⟨Q,y,X⟩
 have Z:=CG J (fun b e=>y.block b (AG J b e).2 (fun e2=>p (by rw [e,e2])))
 have Y:BY (fun b=>b=A∨u.ownBlock=some b) w c:=(BY.refl _ _).grown y (fun b e=> .inl (.inl (Option.some.inj e).symm))
 have R:(a.set 0 (.int .i64 (n+1)))[0]? =some (.int .i64 (n+1)):=by simp [t]
 have qC:(a.set 0 (.int .i64 (n+1)))[2]? =some u:=by rw [getElem?_set_ne (by decide)];exact L
 have W:=AH H
 refine Ak ?_
 refine Cw.any AS (fun w2 C _=> ?_)
 have G:=AL Z C
 have D:=Q.bs C
 refine Fk (St:=Value) (g:=1) [0,1,2,3,4,5,6,7,8,9,10,11,12,13,14] 15 (fun s=>[(23,s),(25, .pointer (some ⟨A,2,none⟩))]) (fun s f=>BY (fun b=>b=A∨u.ownBlock=some b) w f∧f.ownsRow q 135 3 s (hs.length+1) (BF (hs++[(⟨v,k,xs,n+1, .slice none 0 0⟩:Hd)]))∧AO f A BO (a.set 0 (.int .i64 (n+1)))∧∀b,s.ownBlock=some b→u.ownBlock=some b∨w.heap.size≤b) (by kernel_rfl) O ?_ ?_
 ·refine Dh (fun f=>AO f A BO (a.set 0 (.int .i64 (n+1)))) (fun hC=> ?_) (D)
  refine Cj (Am Bo)<|Ai 0 O (fun c d=>B6 O) O<|Ai 1 O (fun c d=>B6 O) O<|Ai 2 O (fun c d=>Br O) O<|Ai 3 O (fun c d=>Cd underlying56 O (IR _)) O<|Ai 4 O (fun c d=>Ah (KH _) O d qC) O<|Ai 5 O (fun c d=>B6 O) O<|Ai 6 O (fun c d=>B6 O) O<|Ai 7 O (fun c d=>Br O) O<|Ai 8 O (fun c d=>Cd underlying56 O (BA _)) O<|Ai 9 O (fun c d=>Ah (AK _) O d R) O<|Ai 10 O (fun c d=>C4 (vs:=[(0,v),(2, .int .i64 (n+1))]) (cs:=[v, .slice none 0 0, .int .i64 (n+1)]) O (OQ _ _ M.one)) O<|Cb<|AZ.only ‹_› (i:=11) (by kernel_rfl) O ?_
  refine Bk (Em (vs:=[(0, .agg #[v, .slice none 0 0, .int .i64 (n+1)])]) (cs:=[v, .slice none 0 0, .int .i64 (n+1)]) J5 LN O (by decide) (by decide) (by decide) (by kernel_rfl) O) O ?_
  rintro nv U ⟨o3, -,m, -⟩
  have G:=AL G m
  have D:=D.bs m
  have z3:=(bt C m).size
  have z:q≤U.heap.size:=by omega
  refine AZ.back<|AZ.only ‹_› (i:=12) (by kernel_rfl) O ?_
  refine Bk (Eb (base:=q) J5 LN O (by decide) O O G (AI o3) (IC M.one' _) (by omega) (by omega) z) O ?_
  rintro l N ⟨o4,x,o⟩
  have c4:BY (fun b=>b=A∨u.ownBlock=some b) w N:=(Y.below (bt C m)).grown x (fun b e=> .inl (.inr e))
  have b4:=D.by x (fun e=>p e.symm)
  have j:∀b,l.ownBlock=some b→u.ownBlock=some b∨w.heap.size≤b:=fun b e=>by
   rcases o with h|⟨h,_⟩
   ·rw [h] at e;exact .inl e
   ·exact .inr (by have:=h b e;omega)
  refine AZ.back<|Cj (Am Bo)<|Ai 13 O (fun c d=>Br O) O<|Ai 14 O (fun c d=>Cd underlying56 O (IR _)) O<|Cb<|Cu ‹_› (by kernel_rfl) ?_
  exact Ap (Fj (l) ⟨rfl,rfl,trivial⟩ (⟨c4,by rw [Ha];exact o4,b4,j⟩))
 rintro l w5 ⟨K,E,S,j⟩
 have z5:=K.size
 refine Aw.only (i:=15) (by kernel_rfl) O<|Az (Dj (u:=l) (IR _) O O (AI E).one' S (by rw [length_set];exact F)) ?_
 rintro w6 ⟨V,B, -⟩
 have T:=CG E (fun b e=>B.block b (AG E b e).2 (fun e2=>by
  cases e2
  rcases j _ e with h|h
  ·exact p h
  ·omega))
 refine Aw.back<|Ea (by kernel_rfl)<|C9 O ?_
 exact ⟨rfl,l,V,T,K.grown B (fun b e=> .inl (.inl (Option.some.inj e).symm)),j⟩
theorem Mf (v:Value) (n:Int) (b:v.cells=[v].toArray):Tryz.prog.built 138 [(0,v),(2, .int .i64 n)]=some [v, .slice none 0 0, .int .i64 n].toArray:=by
 have a:Tryz.prog.info? 138=some Tryz.t138:=by kernel_rfl
 have c:Tryz.prog.info? 31=some Tryz.t31:=by kernel_rfl
 have d:Tryz.prog.info? 3=some Tryz.t3:=by kernel_rfl
 simp [Program.built,a,underlying138,c,d,Instr.fill,b]
 rfl
theorem Nx (A:Nat) (a:List Value) (n:Int) (u:Value) (hs:List Hd) (q:Nat) (w:World) (v:Value) (k:Nat) (xs:List Value) (H:AO w A BO a) (I:a[0]? =some (.int .i64 n)) (L:a[3]? =some u) (J:w.ownsRow q 138 3 u hs.length (BF hs))
  (hlo:q≤w.heap.size) (p:u.ownBlock≠some A) (hn:0≤n∧n≤4000000) (hh:hs.length≤4000000) (M:Sl w 1 v k xs):
  AM prog 154 [.pointer (some ⟨A,0,none⟩),v] w (fun r f=>r= .tuple #[]∧∃l,AO f A BO ((a.set 0 (.int .i64 (n+1))).set 3 l)∧f.ownsRow q 138 3 l (hs.length+1) (BF (hs++[(⟨v,k,xs,n+1, .slice none 0 0⟩:Hd)]))∧BY (fun b=>b=A∨u.ownBlock=some b) w f∧∀b,l.ownBlock=some b→u.ownBlock=some b∨w.heap.size≤b):=by
 have t:0<a.length:=(List.getElem?_eq_some_iff.1 I).1
 have F:3<a.length:=(List.getElem?_eq_some_iff.1 L).1
 refine Bb (n:=26) func154 O<|Af<|Ac O<|Aa (Br O) O<|Be underlying56 O (BA _)<|Aa (Ah (AK _) O H I) O<|B7 O (by omega)<|Aa (Br O) O<|Be underlying56 O (BA _)<|Az (Dj (u:= .int .i64 (n+1)) (BA _) O O O H t) ?_
 rintro c ⟨Q,y,X⟩
 have Z:=CG J (fun b e=>y.block b (AG J b e).2 (fun e2=>p (by rw [e,e2])))
 have Y:BY (fun b=>b=A∨u.ownBlock=some b) w c:=(BY.refl _ _).grown y (fun b e=> .inl (.inl (Option.some.inj e).symm))
 have R:(a.set 0 (.int .i64 (n+1)))[0]? =some (.int .i64 (n+1)):=by simp [t]
 have qC:(a.set 0 (.int .i64 (n+1)))[3]? =some u:=by rw [getElem?_set_ne (by decide)];exact L
 have W:=AH H
 refine Ak ?_
 refine Cw.any AS (fun w2 C _=> ?_)
 have G:=AL Z C
 have D:=Q.bs C
 refine Fk (St:=Value) (g:=1) [0,1,2,3,4,5,6,7,8,9,10,11,12,13,14] 15 (fun s=>[(23,s),(25, .pointer (some ⟨A,3,none⟩))]) (fun s f=>BY (fun b=>b=A∨u.ownBlock=some b) w f∧f.ownsRow q 138 3 s (hs.length+1) (BF (hs++[(⟨v,k,xs,n+1, .slice none 0 0⟩:Hd)]))∧AO f A BO (a.set 0 (.int .i64 (n+1)))∧∀b,s.ownBlock=some b→u.ownBlock=some b∨w.heap.size≤b) (by kernel_rfl) O ?_ ?_
 ·refine Dh (fun f=>AO f A BO (a.set 0 (.int .i64 (n+1)))) (fun hC=> ?_) (D)
  refine Cj (Am Bo)<|Ai 0 O (fun c d=>B6 O) O<|Ai 1 O (fun c d=>B6 O) O<|Ai 2 O (fun c d=>Br O) O<|Ai 3 O (fun c d=>Cd underlying56 O (IQ _)) O<|Ai 4 O (fun c d=>Ah (KG _) O d qC) O<|Ai 5 O (fun c d=>B6 O) O<|Ai 6 O (fun c d=>B6 O) O<|Ai 7 O (fun c d=>Br O) O<|Ai 8 O (fun c d=>Cd underlying56 O (BA _)) O<|Ai 9 O (fun c d=>Ah (AK _) O d R) O<|Ai 10 O (fun c d=>C4 (vs:=[(0,v),(2, .int .i64 (n+1))]) (cs:=[v, .slice none 0 0, .int .i64 (n+1)]) O (Mf _ _ M.one)) O<|Cb<|AZ.only ‹_› (i:=11) (by kernel_rfl) O ?_
  refine Bk (Em (vs:=[(0, .agg #[v, .slice none 0 0, .int .i64 (n+1)])]) (cs:=[v, .slice none 0 0, .int .i64 (n+1)]) J3 LM O (by decide) (by decide) (by decide) (by kernel_rfl) O) O ?_
  rintro nv U ⟨o3, -,m, -⟩
  have G:=AL G m
  have D:=D.bs m
  have z3:=(bt C m).size
  have z:q≤U.heap.size:=by omega
  refine AZ.back<|AZ.only ‹_› (i:=12) (by kernel_rfl) O ?_
  refine Bk (Eb (base:=q) J3 LM O (by decide) O O G (AI o3) (IC M.one' _) (by omega) (by omega) z) O ?_
  rintro l N ⟨o4,x,o⟩
  have c4:BY (fun b=>b=A∨u.ownBlock=some b) w N:=(Y.below (bt C m)).grown x (fun b e=> .inl (.inr e))
  have b4:=D.by x (fun e=>p e.symm)
  have j:∀b,l.ownBlock=some b→u.ownBlock=some b∨w.heap.size≤b:=fun b e=>by
   rcases o with h|⟨h,_⟩
   ·rw [h] at e;exact .inl e
   ·exact .inr (by have:=h b e;omega)
  refine AZ.back<|Cj (Am Bo)<|Ai 13 O (fun c d=>Br O) O<|Ai 14 O (fun c d=>Cd underlying56 O (IQ _)) O<|Cb<|Cu ‹_› (by kernel_rfl) ?_
  exact Ap (Fj (l) ⟨rfl,rfl,trivial⟩ (⟨c4,by rw [Ha];exact o4,b4,j⟩))
 rintro l w5 ⟨K,E,S,j⟩
 have z5:=K.size
 refine Aw.only (i:=15) (by kernel_rfl) O<|Az (Dj (u:=l) (IQ _) O O (AI E).one' S (by rw [length_set];exact F)) ?_
 rintro w6 ⟨V,B, -⟩
 have T:=CG E (fun b e=>B.block b (AG E b e).2 (fun e2=>by
  cases e2
  rcases j _ e with h|h
  ·exact p h
  ·omega))
 refine Aw.back<|Ea (by kernel_rfl)<|C9 O ?_
 exact ⟨rfl,l,V,T,K.grown B (fun b e=> .inl (.inl (Option.some.inj e).symm)),j⟩
theorem Me (v:Value) (n:Int) (b:v.cells=[v].toArray):Tryz.prog.built 129 [(0,v),(2, .int .i64 n)]=some [v, .slice none 0 0, .int .i64 n].toArray:=by
 have a:Tryz.prog.info? 129=some Tryz.t129:=by kernel_rfl
 have c:Tryz.prog.info? 26=some Tryz.t26:=by kernel_rfl
 have d:Tryz.prog.info? 3=some Tryz.t3:=by kernel_rfl
 simp [Program.built,a,underlying129,c,d,Instr.fill,b]
 rfl
theorem Nw (A:Nat) (a:List Value) (n:Int) (u:Value) (hs:List Hd) (q:Nat) (w:World) (v:Value) (k:Nat) (xs:List Value) (H:AO w A BO a) (I:a[0]? =some (.int .i64 n)) (L:a[6]? =some u) (J:w.ownsRow q 129 3 u hs.length (BF hs))
  (hlo:q≤w.heap.size) (p:u.ownBlock≠some A) (hn:0≤n∧n≤4000000) (hh:hs.length≤4000000) (M:Sl w 2 v k xs):
  AM prog 50 [.pointer (some ⟨A,0,none⟩),v] w (fun r f=>r= .tuple #[]∧∃l,AO f A BO ((a.set 0 (.int .i64 (n+1))).set 6 l)∧f.ownsRow q 129 3 l (hs.length+1) (BF (hs++[(⟨v,k,xs,n+1, .slice none 0 0⟩:Hd)]))∧BY (fun b=>b=A∨u.ownBlock=some b) w f∧∀b,l.ownBlock=some b→u.ownBlock=some b∨w.heap.size≤b):=by
 have t:0<a.length:=(List.getElem?_eq_some_iff.1 I).1
 have F:6<a.length:=(List.getElem?_eq_some_iff.1 L).1
 refine Bb (n:=26) func50 O<|Af<|Ac O<|Aa (Br O) O<|Be underlying56 O (BA _)<|Aa (Ah (AK _) O H I) O<|B7 O (by omega)<|Aa (Br O) O<|Be underlying56 O (BA _)<|Az (Dj (u:= .int .i64 (n+1)) (BA _) O O O H t) ?_
 rintro c ⟨Q,y,X⟩
 have Z:=CG J (fun b e=>y.block b (AG J b e).2 (fun e2=>p (by rw [e,e2])))
 have Y:BY (fun b=>b=A∨u.ownBlock=some b) w c:=(BY.refl _ _).grown y (fun b e=> .inl (.inl (Option.some.inj e).symm))
 have R:(a.set 0 (.int .i64 (n+1)))[0]? =some (.int .i64 (n+1)):=by simp [t]
 have qC:(a.set 0 (.int .i64 (n+1)))[6]? =some u:=by rw [getElem?_set_ne (by decide)];exact L
 have W:=AH H
 refine Ak ?_
 refine Cw.any AS (fun w2 C _=> ?_)
 have G:=AL Z C
 have D:=Q.bs C
 refine Fk (St:=Value) (g:=1) [0,1,2,3,4,5,6,7,8,9,10,11,12,13,14] 15 (fun s=>[(23,s),(25, .pointer (some ⟨A,6,none⟩))]) (fun s f=>BY (fun b=>b=A∨u.ownBlock=some b) w f∧f.ownsRow q 129 3 s (hs.length+1) (BF (hs++[(⟨v,k,xs,n+1, .slice none 0 0⟩:Hd)]))∧AO f A BO (a.set 0 (.int .i64 (n+1)))∧∀b,s.ownBlock=some b→u.ownBlock=some b∨w.heap.size≤b) (by kernel_rfl) O ?_ ?_
 ·refine Dh (fun f=>AO f A BO (a.set 0 (.int .i64 (n+1)))) (fun hC=> ?_) (D)
  refine Cj (Am Bo)<|Ai 0 O (fun c d=>B6 O) O<|Ai 1 O (fun c d=>B6 O) O<|Ai 2 O (fun c d=>Br O) O<|Ai 3 O (fun c d=>Cd underlying56 O (IP _)) O<|Ai 4 O (fun c d=>Ah (KF _) O d qC) O<|Ai 5 O (fun c d=>B6 O) O<|Ai 6 O (fun c d=>B6 O) O<|Ai 7 O (fun c d=>Br O) O<|Ai 8 O (fun c d=>Cd underlying56 O (BA _)) O<|Ai 9 O (fun c d=>Ah (AK _) O d R) O<|Ai 10 O (fun c d=>C4 (vs:=[(0,v),(2, .int .i64 (n+1))]) (cs:=[v, .slice none 0 0, .int .i64 (n+1)]) O (Me _ _ M.one)) O<|Cb<|AZ.only ‹_› (i:=11) (by kernel_rfl) O ?_
  refine Bk (Em (vs:=[(0, .agg #[v, .slice none 0 0, .int .i64 (n+1)])]) (cs:=[v, .slice none 0 0, .int .i64 (n+1)]) J2 LO O (by decide) (by decide) (by decide) (by kernel_rfl) O) O ?_
  rintro nv U ⟨o3, -,m, -⟩
  have G:=AL G m
  have D:=D.bs m
  have z3:=(bt C m).size
  have z:q≤U.heap.size:=by omega
  refine AZ.back<|AZ.only ‹_› (i:=12) (by kernel_rfl) O ?_
  refine Bk (Eb (base:=q) J2 LO O (by decide) O O G (AI o3) (IC M.one' _) (by omega) (by omega) z) O ?_
  rintro l N ⟨o4,x,o⟩
  have c4:BY (fun b=>b=A∨u.ownBlock=some b) w N:=(Y.below (bt C m)).grown x (fun b e=> .inl (.inr e))
  have b4:=D.by x (fun e=>p e.symm)
  have j:∀b,l.ownBlock=some b→u.ownBlock=some b∨w.heap.size≤b:=fun b e=>by
   rcases o with h|⟨h,_⟩
   ·rw [h] at e;exact .inl e
   ·exact .inr (by have:=h b e;omega)
  refine AZ.back<|Cj (Am Bo)<|Ai 13 O (fun c d=>Br O) O<|Ai 14 O (fun c d=>Cd underlying56 O (IP _)) O<|Cb<|Cu ‹_› (by kernel_rfl) ?_
  exact Ap (Fj (l) ⟨rfl,rfl,trivial⟩ (⟨c4,by rw [Ha];exact o4,b4,j⟩))
 rintro l w5 ⟨K,E,S,j⟩
 have z5:=K.size
 refine Aw.only (i:=15) (by kernel_rfl) O<|Az (Dj (u:=l) (IP _) O O (AI E).one' S (by rw [length_set];exact F)) ?_
 rintro w6 ⟨V,B, -⟩
 have T:=CG E (fun b e=>B.block b (AG E b e).2 (fun e2=>by
  cases e2
  rcases j _ e with h|h
  ·exact p h
  ·omega))
 refine Aw.back<|Ea (by kernel_rfl)<|C9 O ?_
 exact ⟨rfl,l,V,T,K.grown B (fun b e=> .inl (.inl (Option.some.inj e).symm)),j⟩
theorem NH (v:Value) (n:Int) (b:v.cells=[v].toArray):Tryz.prog.built 151 [(0,v),(2, .int .i64 n)]=some [v, .slice none 0 0, .int .i64 n].toArray:=by
 have a:Tryz.prog.info? 151=some Tryz.t151:=by kernel_rfl
 have c:Tryz.prog.info? 62=some Tryz.t62:=by kernel_rfl
 have d:Tryz.prog.info? 3=some Tryz.t3:=by kernel_rfl
 simp [Program.built,a,underlying151,c,d,Instr.fill,b]
 rfl
theorem PG (A:Nat) (a:List Value) (n:Int) (u:Value) (hs:List Hd) (q:Nat) (w:World) (v:Value) (k:Nat) (xs:List Value) (H:AO w A BO a) (I:a[0]? =some (.int .i64 n)) (L:a[7]? =some u) (J:w.ownsRow q 151 3 u hs.length (BF hs))
  (hlo:q≤w.heap.size) (p:u.ownBlock≠some A) (hn:0≤n∧n≤4000000) (hh:hs.length≤4000000) (M:Sl w 5 v k xs):
  AM prog 198 [.pointer (some ⟨A,0,none⟩),v] w (fun r f=>r= .tuple #[]∧∃l,AO f A BO ((a.set 0 (.int .i64 (n+1))).set 7 l)∧f.ownsRow q 151 3 l (hs.length+1) (BF (hs++[(⟨v,k,xs,n+1, .slice none 0 0⟩:Hd)]))∧BY (fun b=>b=A∨u.ownBlock=some b) w f∧∀b,l.ownBlock=some b→u.ownBlock=some b∨w.heap.size≤b):=by
 have t:0<a.length:=(List.getElem?_eq_some_iff.1 I).1
 have F:7<a.length:=(List.getElem?_eq_some_iff.1 L).1
 refine Bb (n:=26) func198 O<|Af<|Ac O<|Aa (Br O) O<|Be underlying56 O (BA _)<|Aa (Ah (AK _) O H I) O<|B7 O (by omega)<|Aa (Br O) O<|Be underlying56 O (BA _)<|Az (Dj (u:= .int .i64 (n+1)) (BA _) O O O H t) ?_
 rintro c ⟨Q,y,X⟩
 have Z:=CG J (fun b e=>y.block b (AG J b e).2 (fun e2=>p (by rw [e,e2])))
 have Y:BY (fun b=>b=A∨u.ownBlock=some b) w c:=(BY.refl _ _).grown y (fun b e=> .inl (.inl (Option.some.inj e).symm))
 have R:(a.set 0 (.int .i64 (n+1)))[0]? =some (.int .i64 (n+1)):=by simp [t]
 have qC:(a.set 0 (.int .i64 (n+1)))[7]? =some u:=by rw [getElem?_set_ne (by decide)];exact L
 have W:=AH H
 refine Ak ?_
 refine Cw.any AS (fun w2 C _=> ?_)
 have G:=AL Z C
 have D:=Q.bs C
 refine Fk (St:=Value) (g:=1) [0,1,2,3,4,5,6,7,8,9,10,11,12,13,14] 15 (fun s=>[(23,s),(25, .pointer (some ⟨A,7,none⟩))]) (fun s f=>BY (fun b=>b=A∨u.ownBlock=some b) w f∧f.ownsRow q 151 3 s (hs.length+1) (BF (hs++[(⟨v,k,xs,n+1, .slice none 0 0⟩:Hd)]))∧AO f A BO (a.set 0 (.int .i64 (n+1)))∧∀b,s.ownBlock=some b→u.ownBlock=some b∨w.heap.size≤b) (by kernel_rfl) O ?_ ?_
 ·refine Dh (fun f=>AO f A BO (a.set 0 (.int .i64 (n+1)))) (fun hC=> ?_) (D)
  refine Cj (Am Bo)<|Ai 0 O (fun c d=>B6 O) O<|Ai 1 O (fun c d=>B6 O) O<|Ai 2 O (fun c d=>Br O) O<|Ai 3 O (fun c d=>Cd underlying56 O (IN _)) O<|Ai 4 O (fun c d=>Ah (KE _) O d qC) O<|Ai 5 O (fun c d=>B6 O) O<|Ai 6 O (fun c d=>B6 O) O<|Ai 7 O (fun c d=>Br O) O<|Ai 8 O (fun c d=>Cd underlying56 O (BA _)) O<|Ai 9 O (fun c d=>Ah (AK _) O d R) O<|Ai 10 O (fun c d=>C4 (vs:=[(0,v),(2, .int .i64 (n+1))]) (cs:=[v, .slice none 0 0, .int .i64 (n+1)]) O (NH _ _ M.one)) O<|Cb<|AZ.only ‹_› (i:=11) (by kernel_rfl) O ?_
  refine Bk (Em (vs:=[(0, .agg #[v, .slice none 0 0, .int .i64 (n+1)])]) (cs:=[v, .slice none 0 0, .int .i64 (n+1)]) J1 LL O (by decide) (by decide) (by decide) (by kernel_rfl) O) O ?_
  rintro nv U ⟨o3, -,m, -⟩
  have G:=AL G m
  have D:=D.bs m
  have z3:=(bt C m).size
  have z:q≤U.heap.size:=by omega
  refine AZ.back<|AZ.only ‹_› (i:=12) (by kernel_rfl) O ?_
  refine Bk (Eb (base:=q) J1 LL O (by decide) O O G (AI o3) (IC M.one' _) (by omega) (by omega) z) O ?_
  rintro l N ⟨o4,x,o⟩
  have c4:BY (fun b=>b=A∨u.ownBlock=some b) w N:=(Y.below (bt C m)).grown x (fun b e=> .inl (.inr e))
  have b4:=D.by x (fun e=>p e.symm)
  have j:∀b,l.ownBlock=some b→u.ownBlock=some b∨w.heap.size≤b:=fun b e=>by
   rcases o with h|⟨h,_⟩
   ·rw [h] at e;exact .inl e
   ·exact .inr (by have:=h b e;omega)
  refine AZ.back<|Cj (Am Bo)<|Ai 13 O (fun c d=>Br O) O<|Ai 14 O (fun c d=>Cd underlying56 O (IN _)) O<|Cb<|Cu ‹_› (by kernel_rfl) ?_
  exact Ap (Fj (l) ⟨rfl,rfl,trivial⟩ (⟨c4,by rw [Ha];exact o4,b4,j⟩))
 rintro l w5 ⟨K,E,S,j⟩
 have z5:=K.size
 refine Aw.only (i:=15) (by kernel_rfl) O<|Az (Dj (u:=l) (IN _) O O (AI E).one' S (by rw [length_set];exact F)) ?_
 rintro w6 ⟨V,B, -⟩
 have T:=CG E (fun b e=>B.block b (AG E b e).2 (fun e2=>by
  cases e2
  rcases j _ e with h|h
  ·exact p h
  ·omega))
 refine Aw.back<|Ea (by kernel_rfl)<|C9 O ?_
 exact ⟨rfl,l,V,T,K.grown B (fun b e=> .inl (.inl (Option.some.inj e).symm)),j⟩

abbrev CL (v:Value) (k:Nat) (xs:List Value) (n:Int):Hd:=⟨v,k,xs,n, .slice none 0 0⟩
theorem DD {u c v:Value} {w:World} {g k:Nat} {e:TypeId} {xs:List Value} (h:JX u v) (d:w.ownsRow g e 3 v k xs) (f:∀b,c.ownBlock=some b→u.ownBlock=some b∨w.heap.size≤b):JX c v:=fun b e1 e2=>by
 rcases f b e1 with a|a
 ·exact h b a e2
 ·have:=(AG d b e2).2;omega
structure Bm (w:World) (lo A:Nat) (n:Int) (hb hi hn ht hd:List Hd) (ub ui un ut ud:Value):Prop where
 box:AO w A BO [.int .i64 n,ub,ui,un, .slice none 0 0, .slice none 0 0,ut,ud, .slice none 0 0, .slice none 0 0, .slice none 0 0, .slice none 0 0, .slice none 0 0, .slice none 0 0, .slice none 0 0, .slice none 0 0]
 ob:w.ownsRow lo 132 3 ub hb.length (BF hb)
 oi:w.ownsRow lo 135 3 ui hi.length (BF hi)
 on:w.ownsRow lo 138 3 un hn.length (BF hn)
 ot:w.ownsRow lo 129 3 ut ht.length (BF ht)
 od:w.ownsRow lo 151 3 ud hd.length (BF hd)
 loA:lo≤A
 q_b:ub.ownBlock≠some A
 q_i:ui.ownBlock≠some A
 q_n:un.ownBlock≠some A
 q_t:ut.ownBlock≠some A
 q_d:ud.ownBlock≠some A
 p_bi:JX ub ui
 p_bn:JX ub un
 p_bt:JX ub ut
 p_bd:JX ub ud
 p_in:JX ui un
 p_it:JX ui ut
 p_id:JX ui ud
 p_nt:JX un ut
 p_nd:JX un ud
 p_td:JX ut ud
 many:((hb.length+hi.length+hn.length+ht.length+hd.length:Nat):Int)=n
theorem Bm.size {w:World} {a A:Nat} {n:Int} {j k l g b:List Hd} {c i d f e:Value} (h:Bm w a A n j k l g b c i d f e):a<w.heap.size:=Nat.lt_of_le_of_lt h.loA (AH h.box)
theorem Bm.bs {w c:World} {l A:Nat} {n:Int} {k m o i a:List Hd} {b j d f e:Value} (h:Bm w l A n k m o i a b j d f e) (g:Below w.heap.size w c):Bm c l A n k m o i a b j d f e:=
 ⟨h.box.bs g,AL h.ob g,AL h.oi g,AL h.on g,AL h.ot g,AL h.od g,h.loA,h.q_b,h.q_i,h.q_n,h.q_t,h.q_d,h.p_bi,h.p_bn,h.p_bt,h.p_bd,h.p_in,h.p_it,h.p_id,h.p_nt,h.p_nd,h.p_td,h.many⟩
theorem Bm.low {w c:World} {a A:Nat} {n:Int} {p r s m d:List Hd} {f o g j i u:Value} (h:Bm w a A n p r s m d f o g j i) (l:∀b,u.ownBlock=some b→a≤b) (q:BY (fun b=>b=A∨u.ownBlock=some b) w c):Below a w c:=q.to_below (fun b k=>by
 rcases k with rfl|e
 ·exact h.loA
 ·exact l b e) (Nat.le_of_lt h.size)
theorem Ql (w:World) (f A:Nat) (n:Int) (q i x p m:List Hd) (y l t u o v:Value) (k:Nat) (xs:List Value) (h:Bm w f A n q i x p m y l t u o) (B:Sl w 1 v k xs) (C:n≤3999999):
  AM prog 153 [.pointer (some ⟨A,0,none⟩),v] w (fun r d=>r= .tuple #[]∧BY (fun b=>b=A∨l.ownBlock=some b) w d∧∃g,Bm d f A (n+1) q (i++[CL v k xs (n+1)]) x p m y g t u o):=by
 have D:=h.many
 refine (R3 A _ n l i f w v k xs h.box O O h.oi (Nat.le_of_lt h.size) h.q_i (by omega) (by omega) B).mono ?_
 rintro _ d ⟨rfl,g,j,z,c,a⟩
 exact ⟨rfl,c,g,j,AV h.ob c (fun b e1 e2=>e2.elim (fun e=>h.q_b (by rw [e1,e])) (fun e=>h.p_bi b e1 e)),(by rw [length_append];exact z),AV h.on c (fun b e1 e2=>e2.elim (fun e=>h.q_n (by rw [e1,e])) (fun e=>h.p_in b e e1)),AV h.ot c (fun b e1 e2=>e2.elim (fun e=>h.q_t (by rw [e1,e])) (fun e=>h.p_it b e e1)),AV h.od c (fun b e1 e2=>e2.elim (fun e=>h.q_d (by rw [e1,e])) (fun e=>h.p_id b e e1)),h.loA,h.q_b,(fun e=>by rcases a _ e with s|s;exact h.q_i s;have:=AH h.box;omega),h.q_n,h.q_t,h.q_d,(DD h.p_bi.symm h.ob a).symm,h.p_bn,h.p_bt,h.p_bd,DD h.p_in h.on a,DD h.p_it h.ot a,DD h.p_id h.od a,h.p_nt,h.p_nd,h.p_td,by simp only [length_append,length_singleton];omega⟩
theorem Jv (w:World) (g A:Nat) (n:Int) (f m o e a:List Hd) (p s j l d v:Value) (k:Nat) (xs:List Value) (h:Bm w g A n f m o e a p s j l d) (u:Sl w 1 v k xs) (t:n≤3999999):
  AM prog 49 [.pointer (some ⟨A,0,none⟩),v] w (fun r c=>r= .tuple #[]∧BY (fun b=>b=A∨s.ownBlock=some b) w c∧∃i,Bm c g A (n+1) f (m++[CL v k xs (n+1)]) o e a p i j l d):=by
 refine Bb (n:=7) func49 O<|Bw<|Ac O<|Ac O<|Aj O O (Ql w g A n f m o e a p s j l d v k xs h u t) ?_
 rintro _ c ⟨rfl,x,i,q⟩
 exact Bf<|C9 rfl<|⟨rfl,x,i,q⟩
theorem Mx (w:World) (f A:Nat) (n:Int) (q u j p m:List Hd) (x y i t o v:Value) (k:Nat) (xs:List Value) (h:Bm w f A n q u j p m x y i t o) (B:Sl w 1 v k xs) (C:n≤3999999):
  AM prog 154 [.pointer (some ⟨A,0,none⟩),v] w (fun r d=>r= .tuple #[]∧BY (fun b=>b=A∨i.ownBlock=some b) w d∧∃g,Bm d f A (n+1) q u (j++[CL v k xs (n+1)]) p m x y g t o):=by
 have D:=h.many
 refine (Nx A _ n i j f w v k xs h.box O O h.on (Nat.le_of_lt h.size) h.q_n (by omega) (by omega) B).mono ?_
 rintro _ d ⟨rfl,g,l,z,c,a⟩
 exact ⟨rfl,c,g,l,AV h.ob c (fun b e1 e2=>e2.elim (fun e=>h.q_b (by rw [e1,e])) (fun e=>h.p_bn b e1 e)),AV h.oi c (fun b e1 e2=>e2.elim (fun e=>h.q_i (by rw [e1,e])) (fun e=>h.p_in b e1 e)),(by rw [length_append];exact z),AV h.ot c (fun b e1 e2=>e2.elim (fun e=>h.q_t (by rw [e1,e])) (fun e=>h.p_nt b e e1)),AV h.od c (fun b e1 e2=>e2.elim (fun e=>h.q_d (by rw [e1,e])) (fun e=>h.p_nd b e e1)),h.loA,h.q_b,h.q_i,(fun e=>by rcases a _ e with s|s;exact h.q_n s;have:=AH h.box;omega),h.q_t,h.q_d,h.p_bi,(DD h.p_bn.symm h.ob a).symm,h.p_bt,h.p_bd,(DD h.p_in.symm h.oi a).symm,h.p_it,h.p_id,DD h.p_nt h.ot a,DD h.p_nd h.od a,h.p_td,by simp only [length_append,length_singleton];omega⟩
theorem Mv (w:World) (g A:Nat) (n:Int) (f m o e a:List Hd) (p s j l d v:Value) (k:Nat) (xs:List Value) (h:Bm w g A n f m o e a p s j l d) (u:Sl w 1 v k xs) (t:n≤3999999):
  AM prog 51 [.pointer (some ⟨A,0,none⟩),v] w (fun r c=>r= .tuple #[]∧BY (fun b=>b=A∨j.ownBlock=some b) w c∧∃i,Bm c g A (n+1) f m (o++[CL v k xs (n+1)]) e a p s i l d):=by
 refine Bb (n:=7) func51 O<|Bw<|Ac O<|Ac O<|Aj O O (Mx w g A n f m o e a p s j l d v k xs h u t) ?_
 rintro _ c ⟨rfl,x,i,q⟩
 exact Bf<|C9 rfl<|⟨rfl,x,i,q⟩
theorem Mw (w:World) (g A:Nat) (n:Int) (p t u f m:List Hd) (x y s j o v:Value) (k:Nat) (xs:List Value) (h:Bm w g A n p t u f m x y s j o) (B:Sl w 2 v k xs) (C:n≤3999999):
  AM prog 50 [.pointer (some ⟨A,0,none⟩),v] w (fun r d=>r= .tuple #[]∧BY (fun b=>b=A∨j.ownBlock=some b) w d∧∃i,Bm d g A (n+1) p t u (f++[CL v k xs (n+1)]) m x y s i o):=by
 have D:=h.many
 refine (Nw A _ n j f g w v k xs h.box O O h.ot (Nat.le_of_lt h.size) h.q_t (by omega) (by omega) B).mono ?_
 rintro _ d ⟨rfl,i,l,z,c,a⟩
 exact ⟨rfl,c,i,l,AV h.ob c (fun b e1 e2=>e2.elim (fun e=>h.q_b (by rw [e1,e])) (fun e=>h.p_bt b e1 e)),AV h.oi c (fun b e1 e2=>e2.elim (fun e=>h.q_i (by rw [e1,e])) (fun e=>h.p_it b e1 e)),AV h.on c (fun b e1 e2=>e2.elim (fun e=>h.q_n (by rw [e1,e])) (fun e=>h.p_nt b e1 e)),(by rw [length_append];exact z),AV h.od c (fun b e1 e2=>e2.elim (fun e=>h.q_d (by rw [e1,e])) (fun e=>h.p_td b e e1)),h.loA,h.q_b,h.q_i,h.q_n,(fun e=>by rcases a _ e with q|q;exact h.q_t q;have:=AH h.box;omega),h.q_d,h.p_bi,h.p_bn,(DD h.p_bt.symm h.ob a).symm,h.p_bd,h.p_in,(DD h.p_it.symm h.oi a).symm,h.p_id,(DD h.p_nt.symm h.on a).symm,h.p_nd,DD h.p_td h.od a,by simp only [length_append,length_singleton];omega⟩
theorem OT (w:World) (i A:Nat) (n:Int) (o t u m d:List Hd) (x y q s g v:Value) (k:Nat) (xs:List Value) (h:Bm w i A n o t u m d x y q s g) (B:Sl w 5 v k xs) (C:n≤3999999):
  AM prog 198 [.pointer (some ⟨A,0,none⟩),v] w (fun r f=>r= .tuple #[]∧BY (fun b=>b=A∨g.ownBlock=some b) w f∧∃j,Bm f i A (n+1) o t u m (d++[CL v k xs (n+1)]) x y q s j):=by
 have D:=h.many
 refine (PG A _ n g d i w v k xs h.box O O h.od (Nat.le_of_lt h.size) h.q_d (by omega) (by omega) B).mono ?_
 rintro _ f ⟨rfl,j,l,z,c,a⟩
 exact ⟨rfl,c,j,l,AV h.ob c (fun b e1 e2=>e2.elim (fun e=>h.q_b (by rw [e1,e])) (fun e=>h.p_bd b e1 e)),AV h.oi c (fun b e1 e2=>e2.elim (fun e=>h.q_i (by rw [e1,e])) (fun e=>h.p_id b e1 e)),AV h.on c (fun b e1 e2=>e2.elim (fun e=>h.q_n (by rw [e1,e])) (fun e=>h.p_nd b e1 e)),AV h.ot c (fun b e1 e2=>e2.elim (fun e=>h.q_t (by rw [e1,e])) (fun e=>h.p_td b e1 e)),(by rw [length_append];exact z),h.loA,h.q_b,h.q_i,h.q_n,h.q_t,(fun e=>by rcases a _ e with p|p;exact h.q_d p;have:=AH h.box;omega),h.p_bi,h.p_bn,h.p_bt,(DD h.p_bd.symm h.ob a).symm,h.p_in,h.p_it,(DD h.p_id.symm h.oi a).symm,h.p_nt,(DD h.p_nd.symm h.on a).symm,(DD h.p_td.symm h.ot a).symm,by simp only [length_append,length_singleton];omega⟩

theorem VV (w:World) (i A base:Nat) (n:Int) (U Z hn d hd:List Hd) (ub ui un ut ud:Value) (h:Bm w i A n U Z hn d hd ub ui un ut ud) (kb:FJ w base 5 1 U) (ki:FJ w base 3 1 Z) (kn:FJ w base 21 1 hn) (kt:FJ w base 33 2 d) (kd:FJ w base 25 5 hd)
  (lb:∀b,BL U b→b<i) (y:∀b,BL Z b→b<i) (C:∀b,BL hn b→b<i) (lt:∀b,BL d b→b<i) (z:∀b,BL hd b→b<i) (xbi:∀b,BL U b→¬BL Z b) (xbn:∀b,BL U b→¬BL hn b) (xbt:∀b,BL U b→¬BL d b) (xbd:∀b,BL U b→¬BL hd b) (xin:∀b,BL Z b→¬BL hn b) (xit:∀b,BL Z b→¬BL d b) (xid:∀b,BL Z b→¬BL hd b) (xnt:∀b,BL hn b→¬BL d b) (xnd:∀b,BL hn b→¬BL hd b) (xtd:∀b,BL d b→¬BL hd b) (hbl:base≤i):
  AM prog 17 [.pointer (some ⟨A,0,none⟩)] w (fun r w' =>r= .bool true∧Below base w w'):=by
 have D:∀{b},b<i→b≠A:=fun g f=>by have:=h.loA;omega
 have hlo:base≤w.heap.size:=Nat.le_trans hbl (Nat.le_of_lt h.size)
 have hls:=h.size
 obtain ⟨B,hB⟩:∃B,B=w.heap.size:=⟨_,rfl⟩
 have I:∀b,ub.ownBlock=some b→i≤b∧b<w.heap.size:=AG h.ob
 have H:∀b,ui.ownBlock=some b→i≤b∧b<w.heap.size:=AG h.oi
 have K:∀b,un.ownBlock=some b→i≤b∧b<w.heap.size:=AG h.on
 have G:∀b,ut.ownBlock=some b→i≤b∧b<w.heap.size:=AG h.ot
 have F:∀b,ud.ownBlock=some b→i≤b∧b<w.heap.size:=AG h.od
 have vb:∀b,BL U b→b<B:=fun b e=>by have:=lb b e;omega
 have vi:∀b,BL Z b→b<B:=fun b e=>by have:=y b e;omega
 have vn:∀b,BL hn b→b<B:=fun b e=>by have:=C b e;omega
 have vt:∀b,BL d b→b<B:=fun b e=>by have:=lt b e;omega
 have vd:∀b,BL hd b→b<B:=fun b e=>by have:=z b e;omega
 refine Bb (n:=121) func17 O<|Af<|Ab O<|Bl<|Ac O<|Aj O O (Qf A _ ub U i base w (h.box) O (h.ob) kb (fun e=>D (lb _ e) O) (fun b e1 e2=>by have:=I b e1;have:=lb b e2;omega)) ?_
 rintro _ w1 ⟨rfl,N,gb1⟩
 have z1:=N.size
 have A1:=AO.chg (h.box) N (fun e=>D (lb _ e) rfl)
 have ob1:=AV (h.ob) N (fun b e1 e2=>by have:=I b e1;have:=lb b e2;omega)
 have oi1:=AV (h.oi) N (fun b e1 e2=>by have:=H b e1;have:=lb b e2;omega)
 have on1:=AV (h.on) N (fun b e1 e2=>by have:=K b e1;have:=lb b e2;omega)
 have ot1:=AV (h.ot) N (fun b e1 e2=>by have:=G b e1;have:=lb b e2;omega)
 have od1:=AV (h.od) N (fun b e1 e2=>by have:=F b e1;have:=lb b e2;omega)
 have ki1:=FJ.chg (ki) N (fun c g f=>xbi c f g)
 have kn1:=FJ.chg (kn) N (fun c g f=>xbn c f g)
 have kt1:=FJ.chg (kt) N (fun c g f=>xbt c f g)
 have kd1:=FJ.chg (kd) N (fun c g f=>xbd c f g)
 refine Bl<|Ac O<|Aj O O (RK A _ ui Z i base w1 (A1) O (oi1) ki1 (fun e=>D (y _ e) O) (fun b e1 e2=>by have:=H b e1;have:=y b e2;omega)) ?_
 rintro _ w2 ⟨rfl,M,gi2⟩
 have z2:=M.size
 have A2:=AO.chg (A1) M (fun e=>D (y _ e) rfl)
 have ob2:=AV (ob1) M (fun b e1 e2=>by have:=I b e1;have:=y b e2;omega)
 have oi2:=AV (oi1) M (fun b e1 e2=>by have:=H b e1;have:=y b e2;omega)
 have on2:=AV (on1) M (fun b e1 e2=>by have:=K b e1;have:=y b e2;omega)
 have ot2:=AV (ot1) M (fun b e1 e2=>by have:=G b e1;have:=y b e2;omega)
 have od2:=AV (od1) M (fun b e1 e2=>by have:=F b e1;have:=y b e2;omega)
 have gb2:=He.chg gb1 M xbi
 have kn2:=FJ.chg (kn1) M (fun c g f=>xin c f g)
 have kt2:=FJ.chg (kt1) M (fun c g f=>xit c f g)
 have kd2:=FJ.chg (kd1) M (fun c g f=>xid c f g)
 refine Bl<|Ac O<|Aj O O (N9 A _ un hn i base w2 (A2) O (on2) kn2 (fun e=>D (C _ e) O) (fun b e1 e2=>by have:=K b e1;have:=C b e2;omega)) ?_
 rintro _ w3 ⟨rfl,Q,gn3⟩
 have z3:=Q.size
 have A3:=AO.chg (A2) Q (fun e=>D (C _ e) rfl)
 have ob3:=AV (ob2) Q (fun b e1 e2=>by have:=I b e1;have:=C b e2;omega)
 have oi3:=AV (oi2) Q (fun b e1 e2=>by have:=H b e1;have:=C b e2;omega)
 have on3:=AV (on2) Q (fun b e1 e2=>by have:=K b e1;have:=C b e2;omega)
 have ot3:=AV (ot2) Q (fun b e1 e2=>by have:=G b e1;have:=C b e2;omega)
 have od3:=AV (od2) Q (fun b e1 e2=>by have:=F b e1;have:=C b e2;omega)
 have gb3:=He.chg gb2 Q xbn
 have gi3:=He.chg gi2 Q xin
 have kt3:=FJ.chg (kt2) Q (fun c g f=>xnt c f g)
 have kd3:=FJ.chg (kd2) Q (fun c g f=>xnd c f g)
 refine Bl<|Ac O<|Aj O O (TU A _ w3 A3 O) ?_
 rintro _ _ ⟨rfl,rfl⟩
 refine Bl<|Ac O<|Aj O O (PY A _ w3 A3 O) ?_
 rintro _ _ ⟨rfl,rfl⟩
 refine Bl<|Ac O<|Aj O O (N7 A _ ut d i base B w3 (A3) O (ot3) kt3 (fun e=>D (lt _ e) O) (fun b e1 e2=>by have:=G b e1;have:=lt b e2;omega) (by omega) vt) ?_
 rintro _ w4 ⟨rfl,R,gt4⟩
 have z4:=R.size
 have A4:=AO.chg (A3) R (fun e=>D (lt _ e) rfl)
 have ob4:=AV (ob3) R (fun b e1 e2=>by have:=I b e1;have:=lt b e2;omega)
 have oi4:=AV (oi3) R (fun b e1 e2=>by have:=H b e1;have:=lt b e2;omega)
 have on4:=AV (on3) R (fun b e1 e2=>by have:=K b e1;have:=lt b e2;omega)
 have ot4:=AV (ot3) R (fun b e1 e2=>by have:=G b e1;have:=lt b e2;omega)
 have od4:=AV (od3) R (fun b e1 e2=>by have:=F b e1;have:=lt b e2;omega)
 have gb4:=He.chg gb3 R xbt
 have gi4:=He.chg gi3 R xit
 have gn4:=He.chg gn3 R xnt
 have kd4:=FJ.chg (kd3) R (fun c g f=>xtd c f g)
 refine Bl<|Ac O<|Aj O O (Qa A _ ud hd i base B w4 (A4) O (od4) kd4 (fun e=>D (z _ e) O) (fun b e1 e2=>by have:=F b e1;have:=z b e2;omega) (by omega) vd) ?_
 rintro _ w5 ⟨rfl,T,gd5⟩
 have z5:=T.size
 have A5:=AO.chg (A4) T (fun e=>D (z _ e) rfl)
 have ob5:=AV (ob4) T (fun b e1 e2=>by have:=I b e1;have:=z b e2;omega)
 have oi5:=AV (oi4) T (fun b e1 e2=>by have:=H b e1;have:=z b e2;omega)
 have on5:=AV (on4) T (fun b e1 e2=>by have:=K b e1;have:=z b e2;omega)
 have ot5:=AV (ot4) T (fun b e1 e2=>by have:=G b e1;have:=z b e2;omega)
 have od5:=AV (od4) T (fun b e1 e2=>by have:=F b e1;have:=z b e2;omega)
 have gb5:=He.chg gb4 T xbd
 have gi5:=He.chg gi4 T xid
 have gn5:=He.chg gn4 T xnd
 have gt5:=G0.chg gt4 (DH B 3) T vd xtd
 refine Bl<|Ac O<|Aj O O (PZ A _ w5 A5 O) ?_
 rintro _ _ ⟨rfl,rfl⟩
 refine Bl<|Ac O<|Aj O O (Qe A _ w5 A5 O) ?_
 rintro _ _ ⟨rfl,rfl⟩
 refine Bl<|Ac O<|Aj O O (N8 A _ w5 A5 O) ?_
 rintro _ _ ⟨rfl,rfl⟩
 refine Bl<|Ac O<|Aj O O (OI A _ w5 A5 O) ?_
 rintro _ _ ⟨rfl,rfl⟩
 refine Bl<|Ac O<|Aj O O (RL A _ w5 A5 O) ?_
 rintro _ _ ⟨rfl,rfl⟩
 refine Bl<|Ac O<|Aj O O (Qd A _ w5 A5 O) ?_
 rintro _ _ ⟨rfl,rfl⟩
 refine Bl<|Ac O<|Aj O O (Qc A _ w5 A5 O) ?_
 rintro _ _ ⟨rfl,rfl⟩
 refine Bl<|Ac O<|Aj O O (Qb A _ w5 A5 O) ?_
 rintro _ _ ⟨rfl,rfl⟩
 refine Bl<|Ac O<|Aj O O (PX A _ ub U i base w5 A5 O (ob5) kb.toKOk gb5 (fun e=>D (lb _ e) O) (fun b e1 e2=>by have:=I b e1;have:=lb b e2;omega) h.q_b (by omega)) ?_
 rintro _ w6 ⟨rfl,Y,tb,yb,ob6,db6⟩
 have z6:=Y.size
 have j6:∀b,(BL U b∨ub.ownBlock=some b)→b<B:=fun b e=>e.elim (vb b) (fun e=>by have:=I b e;omega)
 have A6:=A5.chg Y (fun e=>e.elim (fun e=>D (lb _ e) rfl) (fun e=>h.q_b e))
 have oi6:=AV (oi5) Y (fun b e1 e2=>e2.elim (fun e=>by have:=H b e1;have:=lb b e;omega) (fun e=>h.p_bi.symm b e1 e))
 have gi6:=He.chg gi5 Y (fun b e1 e2=>e2.elim (fun e=>(fun c g f=>xbi c f g) b e1 e) (fun e=>by have:=I b e;have:=y b e1;omega))
 have on6:=AV (on5) Y (fun b e1 e2=>e2.elim (fun e=>by have:=K b e1;have:=lb b e;omega) (fun e=>h.p_bn.symm b e1 e))
 have gn6:=He.chg gn5 Y (fun b e1 e2=>e2.elim (fun e=>(fun c g f=>xbn c f g) b e1 e) (fun e=>by have:=I b e;have:=C b e1;omega))
 have ot6:=AV (ot5) Y (fun b e1 e2=>e2.elim (fun e=>by have:=G b e1;have:=lb b e;omega) (fun e=>h.p_bt.symm b e1 e))
 have gt6:=G0.chg gt5 (DH B 3) Y j6 (fun b e1 e2=>e2.elim (fun e=>(fun c g f=>xbt c f g) b e1 e) (fun e=>by have:=I b e;have:=lt b e1;omega))
 have od6:=AV (od5) Y (fun b e1 e2=>e2.elim (fun e=>by have:=F b e1;have:=lb b e;omega) (fun e=>h.p_bd.symm b e1 e))
 have gd6:=G0.chg gd5 (DN B 3) Y j6 (fun b e1 e2=>e2.elim (fun e=>(fun c g f=>xbd c f g) b e1 e) (fun e=>by have:=I b e;have:=z b e1;omega))
 refine Bl<|Ac O<|Aj O O (RD A _ ui Z i base w6 A6 O (oi6) ki.toKOk gi6 (fun e=>D (y _ e) O) (fun b e1 e2=>by have:=H b e1;have:=y b e2;omega) h.q_i (by omega)) ?_
 rintro _ w7 ⟨rfl,c7,ti,yi,oi7,di7⟩
 have z7:=c7.size
 have j7:∀b,(BL Z b∨ui.ownBlock=some b)→b<B:=fun b e=>e.elim (vi b) (fun e=>by have:=H b e;omega)
 have A7:=A6.chg c7 (fun e=>e.elim (fun e=>D (y _ e) rfl) (fun e=>h.q_i e))
 have ob7:=AV (ob6) c7 (fun b e1 e2=>e2.elim (fun e=>by have:=I b e1;have:=y b e;omega) (fun e=>h.p_bi b e1 e))
 have db7:=yb.tall db6 c7 (fun b e1 e2=>e2.elim (fun e=>xbi b e1 e) (fun e=>by have:=H b e;have:=lb b e1;omega)) (fun b e1 e2=>by have:=j7 b e2;omega)
 have on7:=AV (on6) c7 (fun b e1 e2=>e2.elim (fun e=>by have:=K b e1;have:=y b e;omega) (fun e=>h.p_in.symm b e1 e))
 have gn7:=He.chg gn6 c7 (fun b e1 e2=>e2.elim (fun e=>(fun c g f=>xin c f g) b e1 e) (fun e=>by have:=H b e;have:=C b e1;omega))
 have ot7:=AV (ot6) c7 (fun b e1 e2=>e2.elim (fun e=>by have:=G b e1;have:=y b e;omega) (fun e=>h.p_it.symm b e1 e))
 have gt7:=G0.chg gt6 (DH B 3) c7 j7 (fun b e1 e2=>e2.elim (fun e=>(fun c g f=>xit c f g) b e1 e) (fun e=>by have:=H b e;have:=lt b e1;omega))
 have od7:=AV (od6) c7 (fun b e1 e2=>e2.elim (fun e=>by have:=F b e1;have:=y b e;omega) (fun e=>h.p_id.symm b e1 e))
 have gd7:=G0.chg gd6 (DN B 3) c7 j7 (fun b e1 e2=>e2.elim (fun e=>(fun c g f=>xid c f g) b e1 e) (fun e=>by have:=H b e;have:=z b e1;omega))
 refine Bl<|Ac O<|Aj O O (N6 A _ un hn i base w7 A7 O (on7) kn.toKOk gn7 (fun e=>D (C _ e) O) (fun b e1 e2=>by have:=K b e1;have:=C b e2;omega) h.q_n (by omega)) ?_
 rintro _ w8 ⟨rfl,W,tn,yn,on8,dn8⟩
 have z8:=W.size
 have j8:∀b,(BL hn b∨un.ownBlock=some b)→b<B:=fun b e=>e.elim (vn b) (fun e=>by have:=K b e;omega)
 have A8:=A7.chg W (fun e=>e.elim (fun e=>D (C _ e) rfl) (fun e=>h.q_n e))
 have ob8:=AV (ob7) W (fun b e1 e2=>e2.elim (fun e=>by have:=I b e1;have:=C b e;omega) (fun e=>h.p_bn b e1 e))
 have db8:=yb.tall db7 W (fun b e1 e2=>e2.elim (fun e=>xbn b e1 e) (fun e=>by have:=K b e;have:=lb b e1;omega)) (fun b e1 e2=>by have:=j8 b e2;omega)
 have oi8:=AV (oi7) W (fun b e1 e2=>e2.elim (fun e=>by have:=H b e1;have:=C b e;omega) (fun e=>h.p_in b e1 e))
 have di8:=yi.tall di7 W (fun b e1 e2=>e2.elim (fun e=>xin b e1 e) (fun e=>by have:=K b e;have:=y b e1;omega)) (fun b e1 e2=>by have:=j8 b e2;omega)
 have ot8:=AV (ot7) W (fun b e1 e2=>e2.elim (fun e=>by have:=G b e1;have:=C b e;omega) (fun e=>h.p_nt.symm b e1 e))
 have gt8:=G0.chg gt7 (DH B 3) W j8 (fun b e1 e2=>e2.elim (fun e=>(fun c g f=>xnt c f g) b e1 e) (fun e=>by have:=K b e;have:=lt b e1;omega))
 have od8:=AV (od7) W (fun b e1 e2=>e2.elim (fun e=>by have:=F b e1;have:=C b e;omega) (fun e=>h.p_nd.symm b e1 e))
 have gd8:=G0.chg gd7 (DN B 3) W j8 (fun b e1 e2=>e2.elim (fun e=>(fun c g f=>xnd c f g) b e1 e) (fun e=>by have:=K b e;have:=z b e1;omega))
 refine Bl<|Ac O<|Aj O O (TK A _ w8 A8 O) ?_
 rintro _ _ ⟨rfl,rfl⟩
 refine Bl<|Ac O<|Aj O O (PO A _ w8 A8 O) ?_
 rintro _ _ ⟨rfl,rfl⟩
 refine Bl<|Ac O<|Aj O O (N3 A _ ut d i base B w8 A8 O (ot8) kt.toKOk gt8 (fun e=>D (lt _ e) O) (fun b e1 e2=>by have:=G b e1;have:=lt b e2;omega) h.q_t (by omega) (by omega) vt (fun b e=>by have:=G b e;omega)) ?_
 rintro _ w9 ⟨rfl,V,tt,yt,ot9,dt9⟩
 have z9:=V.size
 have j9:∀b,(BL d b∨ut.ownBlock=some b)→b<B:=fun b e=>e.elim (vt b) (fun e=>by have:=G b e;omega)
 have A9:=A8.chg V (fun e=>e.elim (fun e=>D (lt _ e) rfl) (fun e=>h.q_t e))
 have ob9:=AV (ob8) V (fun b e1 e2=>e2.elim (fun e=>by have:=I b e1;have:=lt b e;omega) (fun e=>h.p_bt b e1 e))
 have db9:=yb.tall db8 V (fun b e1 e2=>e2.elim (fun e=>xbt b e1 e) (fun e=>by have:=G b e;have:=lb b e1;omega)) (fun b e1 e2=>by have:=j9 b e2;omega)
 have oi9:=AV (oi8) V (fun b e1 e2=>e2.elim (fun e=>by have:=H b e1;have:=lt b e;omega) (fun e=>h.p_it b e1 e))
 have di9:=yi.tall di8 V (fun b e1 e2=>e2.elim (fun e=>xit b e1 e) (fun e=>by have:=G b e;have:=y b e1;omega)) (fun b e1 e2=>by have:=j9 b e2;omega)
 have on9:=AV (on8) V (fun b e1 e2=>e2.elim (fun e=>by have:=K b e1;have:=lt b e;omega) (fun e=>h.p_nt b e1 e))
 have dn9:=yn.tall dn8 V (fun b e1 e2=>e2.elim (fun e=>xnt b e1 e) (fun e=>by have:=G b e;have:=C b e1;omega)) (fun b e1 e2=>by have:=j9 b e2;omega)
 have od9:=AV (od8) V (fun b e1 e2=>e2.elim (fun e=>by have:=F b e1;have:=lt b e;omega) (fun e=>h.p_td.symm b e1 e))
 have gd9:=G0.chg gd8 (DN B 3) V j9 (fun b e1 e2=>e2.elim (fun e=>(fun c g f=>xtd c f g) b e1 e) (fun e=>by have:=G b e;have:=z b e1;omega))
 refine Bl<|Ac O<|Aj O O (PQ A _ ud hd i base B w9 A9 O (od9) kd.toKOk gd9 (fun e=>D (z _ e) O) (fun b e1 e2=>by have:=F b e1;have:=z b e2;omega) h.q_d (by omega) (by omega) vd (fun b e=>by have:=F b e;omega)) ?_
 rintro _ v ⟨rfl,q,td,yd,od10,dd10⟩
 have z10:=q.size
 have X:∀b,(BL hd b∨ud.ownBlock=some b)→b<B:=fun b e=>e.elim (vd b) (fun e=>by have:=F b e;omega)
 have u:=A9.chg q (fun e=>e.elim (fun e=>D (z _ e) rfl) (fun e=>h.q_d e))
 have ob10:=AV (ob9) q (fun b e1 e2=>e2.elim (fun e=>by have:=I b e1;have:=z b e;omega) (fun e=>h.p_bd b e1 e))
 have db10:=yb.tall db9 q (fun b e1 e2=>e2.elim (fun e=>xbd b e1 e) (fun e=>by have:=F b e;have:=lb b e1;omega)) (fun b e1 e2=>by have:=X b e2;omega)
 have oi10:=AV (oi9) q (fun b e1 e2=>e2.elim (fun e=>by have:=H b e1;have:=z b e;omega) (fun e=>h.p_id b e1 e))
 have di10:=yi.tall di9 q (fun b e1 e2=>e2.elim (fun e=>xid b e1 e) (fun e=>by have:=F b e;have:=y b e1;omega)) (fun b e1 e2=>by have:=X b e2;omega)
 have on10:=AV (on9) q (fun b e1 e2=>e2.elim (fun e=>by have:=K b e1;have:=z b e;omega) (fun e=>h.p_nd b e1 e))
 have dn10:=yn.tall dn9 q (fun b e1 e2=>e2.elim (fun e=>xnd b e1 e) (fun e=>by have:=F b e;have:=C b e1;omega)) (fun b e1 e2=>by have:=X b e2;omega)
 have ot10:=AV (ot9) q (fun b e1 e2=>e2.elim (fun e=>by have:=G b e1;have:=z b e;omega) (fun e=>h.p_td b e1 e))
 have dt10:=yt.tallN (DH B 3) dt9 q X (fun b e1 e2=>e2.elim (fun e=>xtd b e1 e) (fun e=>by have:=F b e;have:=lt b e1;omega)) (fun b e1 e2=>by have:=X b e2;omega)
 refine Bl<|Ac O<|Aj O O (PP A _ v u O) ?_
 rintro _ _ ⟨rfl,rfl⟩
 refine Bl<|Ac O<|Aj O O (PW A _ v u O) ?_
 rintro _ _ ⟨rfl,rfl⟩
 refine Bl<|Ac O<|Aj O O (N4 A _ v u O) ?_
 rintro _ _ ⟨rfl,rfl⟩
 refine Bl<|Ac O<|Aj O O (OE A _ v u O) ?_
 rintro _ _ ⟨rfl,rfl⟩
 refine Bl<|Ac O<|Aj O O (RE A _ v u O) ?_
 rintro _ _ ⟨rfl,rfl⟩
 refine Bl<|Ac O<|Aj O O (PU A _ v u O) ?_
 rintro _ _ ⟨rfl,rfl⟩
 refine Bl<|Ac O<|Aj O O (PT A _ v u O) ?_
 rintro _ _ ⟨rfl,rfl⟩
 refine Bl<|Ac O<|Aj O O (PR A _ v u O) ?_
 rintro _ _ ⟨rfl,rfl⟩
 have bel:Below base w v:=by
  have e1:∀{S:Nat→Prop} {a b:World},BY S a b→(∀k,S k→base≤k)→base≤a.heap.size→Below base a b:=fun c g f=>c.to_below g f
  have q1:=e1 N (fun k e=>by obtain ⟨x,E,e⟩:=e;exact ((kb.own x E).lt k e).1) (by omega)
  have q2:=e1 M (fun k e=>by obtain ⟨x,E,e⟩:=e;exact ((ki.own x E).lt k e).1) (by omega)
  have q3:=e1 Q (fun k e=>by obtain ⟨x,E,e⟩:=e;exact ((kn.own x E).lt k e).1) (by omega)
  have q4:=e1 R (fun k e=>by obtain ⟨x,E,e⟩:=e;exact ((kt.own x E).lt k e).1) (by omega)
  have q5:=e1 T (fun k e=>by obtain ⟨x,E,e⟩:=e;exact ((kd.own x E).lt k e).1) (by omega)
  have q6:=e1 Y (fun k e=>e.elim (fun e=>by obtain ⟨x,E,e⟩:=e;exact ((kb.own x E).lt k e).1) (fun e=>by have:=I k e;omega)) (by omega)
  have q7:=e1 c7 (fun k e=>e.elim (fun e=>by obtain ⟨x,E,e⟩:=e;exact ((ki.own x E).lt k e).1) (fun e=>by have:=H k e;omega)) (by omega)
  have q8:=e1 W (fun k e=>e.elim (fun e=>by obtain ⟨x,E,e⟩:=e;exact ((kn.own x E).lt k e).1) (fun e=>by have:=K k e;omega)) (by omega)
  have q9:=e1 V (fun k e=>e.elim (fun e=>by obtain ⟨x,E,e⟩:=e;exact ((kt.own x E).lt k e).1) (fun e=>by have:=G k e;omega)) (by omega)
  have q10:=e1 q (fun k e=>e.elim (fun e=>by obtain ⟨x,E,e⟩:=e;exact ((kd.own x E).lt k e).1) (fun e=>by have:=F k e;omega)) (by omega)
  exact (((((((((q1.trans q2).trans q3).trans q4).trans q5).trans q6).trans q7).trans q8).trans q9).trans q10)
 refine Bl<|Ac O<|Aj O O (PE A _ ub tb i v u O (by rw [yb.len];exact ob10) db10 (yb.nums kb.toKOk)) ?_
 rintro _ w11 ⟨rfl,j⟩
 have A11:=u.bs j
 have ob11:=AL (ob10) j
 have oi11:=AL (oi10) j
 have on11:=AL (on10) j
 have ot11:=AL (ot10) j
 have od11:=AL (od10) j
 have db11:∀t ∈ tb,EE w11 CP t:=fun t d=>(db10 t d).bs j
 have di11:∀t ∈ ti,EE w11 DT t:=fun t d=>(di10 t d).bs j
 have dn11:∀t ∈ tn,EE w11 BU t:=fun t d=>(dn10 t d).bs j
 have dt11:=fun t (d:t ∈ tt)=>(dt10 t d).bs (DH B 3) j
 have dd11:=fun t (d:t ∈ td)=>(dd10 t d).bs (DN B 3) j
 refine Ac O<|C5 65 (v' := .bool true) O (cngA Value.bool (rfl))<|Ag (dj:=65) O O<|Ac O<|Ag (dj:=65) O O<|Aj O O (Ry A _ ui ti i w11 A11 O (by rw [yi.len];exact oi11) di11 (yi.nums ki.toKOk)) ?_
 rintro _ w12 ⟨rfl,p⟩
 have A12:=A11.bs p
 have ob12:=AL (ob11) p
 have oi12:=AL (oi11) p
 have on12:=AL (on11) p
 have ot12:=AL (ot11) p
 have od12:=AL (od11) p
 have db12:∀t ∈ tb,EE w12 CP t:=fun t d=>(db11 t d).bs p
 have di12:∀t ∈ ti,EE w12 DT t:=fun t d=>(di11 t d).bs p
 have dn12:∀t ∈ tn,EE w12 BU t:=fun t d=>(dn11 t d).bs p
 have dt12:=fun t (d:t ∈ tt)=>(dt11 t d).bs (DH B 3) p
 have dd12:=fun t (d:t ∈ td)=>(dd11 t d).bs (DN B 3) p
 refine B4 O<|Ac O<|C5 69 (v' := .bool true) O (cngA Value.bool (rfl))<|Ag (dj:=69) O O<|Ac O<|Ag (dj:=69) O O<|Aj O O (Nv A _ un tn i w12 A12 O (by rw [yn.len];exact on12) dn12 (yn.nums kn.toKOk)) ?_
 rintro _ L ⟨rfl,o⟩
 have A13:=A12.bs o
 have ob13:=AL (ob12) o
 have oi13:=AL (oi12) o
 have on13:=AL (on12) o
 have ot13:=AL (ot12) o
 have od13:=AL (od12) o
 have db13:∀t ∈ tb,EE L CP t:=fun t d=>(db12 t d).bs o
 have di13:∀t ∈ ti,EE L DT t:=fun t d=>(di12 t d).bs o
 have dn13:∀t ∈ tn,EE L BU t:=fun t d=>(dn12 t d).bs o
 have dt13:=fun t (d:t ∈ tt)=>(dt12 t d).bs (DH B 3) o
 have dd13:=fun t (d:t ∈ td)=>(dd12 t d).bs (DN B 3) o
 refine B4 O<|Ac O<|C5 73 (v' := .bool true) O (cngA Value.bool (rfl))<|Ag (dj:=73) O O<|Ac O<|Ag (dj:=73) O O<|Aj O O (Tr A _ L A13 O) ?_
 rintro _ _ ⟨rfl,rfl⟩
 refine B4 O<|Ac O<|C5 77 (v' := .bool true) O (cngA Value.bool (rfl))<|Ag (dj:=77) O O<|Ac O<|Ag (dj:=77) O O<|Aj O O (P7 A _ L A13 O) ?_
 rintro _ _ ⟨rfl,rfl⟩
 refine B4 O<|Ac O<|C5 81 (v' := .bool true) O (cngA Value.bool (rfl))<|Ag (dj:=81) O O<|Ac O<|Ag (dj:=81) O O<|Aj O O (Nt A _ ut tt i B L A13 O (by rw [yt.len];exact ot13) dt13 (yt.nums kt.toKOk)) ?_
 rintro _ w14 ⟨rfl,m⟩
 have A14:=A13.bs m
 have ob14:=AL (ob13) m
 have oi14:=AL (oi13) m
 have on14:=AL (on13) m
 have ot14:=AL (ot13) m
 have od14:=AL (od13) m
 have db14:∀t ∈ tb,EE w14 CP t:=fun t d=>(db13 t d).bs m
 have di14:∀t ∈ ti,EE w14 DT t:=fun t d=>(di13 t d).bs m
 have dn14:∀t ∈ tn,EE w14 BU t:=fun t d=>(dn13 t d).bs m
 have dt14:=fun t (d:t ∈ tt)=>(dt13 t d).bs (DH B 3) m
 have dd14:=fun t (d:t ∈ td)=>(dd13 t d).bs (DN B 3) m
 refine B4 O<|Ac O<|C5 85 (v' := .bool true) O (cngA Value.bool (rfl))<|Ag (dj:=85) O O<|Ac O<|Ag (dj:=85) O O<|Aj O O (P9 A _ ud td i B w14 A14 O (by rw [yd.len];exact od14) dd14 (yd.nums kd.toKOk)) ?_
 rintro _ s ⟨rfl,l⟩
 have J:=A14.bs l
 have ob15:=AL (ob14) l
 have oi15:=AL (oi14) l
 have on15:=AL (on14) l
 have ot15:=AL (ot14) l
 have od15:=AL (od14) l
 have db15:∀t ∈ tb,EE s CP t:=fun t d=>(db14 t d).bs l
 have di15:∀t ∈ ti,EE s DT t:=fun t d=>(di14 t d).bs l
 have dn15:∀t ∈ tn,EE s BU t:=fun t d=>(dn14 t d).bs l
 have dt15:=fun t (d:t ∈ tt)=>(dt14 t d).bs (DH B 3) l
 have dd15:=fun t (d:t ∈ td)=>(dd14 t d).bs (DN B 3) l
 refine B4 O<|Ac O<|C5 89 (v' := .bool true) O (cngA Value.bool (rfl))<|Ag (dj:=89) O O<|Ac O<|Ag (dj:=89) O O<|Aj O O (P8 A _ s J O) ?_
 rintro _ _ ⟨rfl,rfl⟩
 refine B4 O<|Ac O<|C5 93 (v' := .bool true) O (cngA Value.bool (rfl))<|Ag (dj:=93) O O<|Ac O<|Ag (dj:=93) O O<|Aj O O (PD A _ s J O) ?_
 rintro _ _ ⟨rfl,rfl⟩
 refine B4 O<|Ac O<|C5 97 (v' := .bool true) O (cngA Value.bool (rfl))<|Ag (dj:=97) O O<|Ac O<|Ag (dj:=97) O O<|Aj O O (Nu A _ s J O) ?_
 rintro _ _ ⟨rfl,rfl⟩
 refine B4 O<|Ac O<|C5 101 (v' := .bool true) O (cngA Value.bool (rfl))<|Ag (dj:=101) O O<|Ac O<|Ag (dj:=101) O O<|Aj O O (Ou A _ s J O) ?_
 rintro _ _ ⟨rfl,rfl⟩
 refine B4 O<|Ac O<|C5 105 (v' := .bool true) O (cngA Value.bool (rfl))<|Ag (dj:=105) O O<|Ac O<|Ag (dj:=105) O O<|Aj O O (Rz A _ s J O) ?_
 rintro _ _ ⟨rfl,rfl⟩
 refine B4 O<|Ac O<|C5 109 (v' := .bool true) O (cngA Value.bool (rfl))<|Ag (dj:=109) O O<|Ac O<|Ag (dj:=109) O O<|Aj O O (PC A _ s J O) ?_
 rintro _ _ ⟨rfl,rfl⟩
 refine B4 O<|Ac O<|C5 113 (v' := .bool true) O (cngA Value.bool (rfl))<|Ag (dj:=113) O O<|Ac O<|Ag (dj:=113) O O<|Aj O O (PB A _ s J O) ?_
 rintro _ _ ⟨rfl,rfl⟩
 refine B4 O<|Ac O<|C5 117 (v' := .bool true) O (cngA Value.bool (rfl))<|Ag (dj:=117) O O<|Ac O<|Ag (dj:=117) O O<|Aj O O (PA A _ s J O) ?_
 rintro _ _ ⟨rfl,rfl⟩
 refine B4 O<|Ab O<|Bc<|Ax O O ?_
 have bel2:=bt j (bt p (bt o (bt m (l))))
 exact ⟨rfl,bel.trans (bel2.mono (by omega))⟩

theorem HL (w:World) (f A:Nat) (n:Int) (l D p j g:List Hd) (q I C o i x y:Value) (k m:Nat) (xs s:List Value) (h:Bm w f A n l D p j g q I C o i) (Q:Sl w 1 x k xs) (M:Sl w 1 y m s) (v:∀b,y.ownBlock=some b→b<f) (T:n≤3999990):
  AM prog 16 [.pointer (some ⟨A,0,none⟩), .agg #[x,y]] w (fun r E=>r= .tuple #[]∧Below f w E∧∃c d,Bm E f A (n+2) l (D++[CL x k xs (n+1)]) (p++[CL y m s (n+2)]) j g q c d o i):=by
 refine Bb (n:=12) func16 O<|Af<|Bk (Xw.box (cs:=[x,y]) O O) O ?_
 rintro _ J ⟨rfl,b,a,K⟩
 have z:=h.bs a
 have hs:=h.size
 have R:=AH h.box
 have B:=AG h.oi
 refine Bl<|Ac O<|Be underlying33 O (AN _)<|Aa (Ah (AF _) O ‹_› rfl) O ?_
 refine Aj O O (Jv J f A n l D p j g q I C o i x k xs z (Q.bs a) (by omega)) ?_
 rintro _ H ⟨rfl,F,c,t⟩
 have l2:=z.low (fun b e=>(AG z.oi b e).1) F
 have u:Sl H 1 y m s:=(M.bs a).keep fun b _ e=>l2.block b (v b e)
 have U:=b.chg F (fun e=>by
  rcases e with e|e
  ·omega
  ·have:=(B _ e).2;omega)
 refine Ak<|Bw<|Ac O<|Be underlying33 O (BC _)<|Aa (Ah (BG _) O ‹_› rfl) O ?_
 refine Aj O O (Mv H f A (n+1) l _ p j g q c C o i y m s t u (by omega)) ?_
 rintro _ S ⟨rfl,N,d,G⟩
 have L:=t.low (fun b e=>(AG t.on b e).1) N
 have e2:n+1+1=n+2:=by omega
 rw [e2] at G
 exact Bf<|C9 rfl<|⟨rfl,((a.mono (Nat.le_of_lt hs)).trans l2).trans L,c,d,G⟩
theorem Qk (w:World) (i A:Nat) (n:Int) (q G u p l:List Hd) (v L s t o a x y c d:Value) (k m:Nat) (xs z:List Value) (h:Bm w i A n q G u p l v L s t o) (T:Sl w 1 x k xs) (R:Sl w 1 y m z) (D:∀b,y.ownBlock=some b→b<i) (W:n≤3999990):
  AM prog 14 [.pointer (some ⟨A,0,none⟩), .agg #[a,x,y,c,d]] w (fun r H=>r= .tuple #[]∧Below i w H∧∃g,Bm H i A (n+2) q (G++[CL x k xs (n+1),CL y m z (n+2)]) u p l v g s t o):=by
 refine Bb (n:=12) func14 O<|Af<|Bk (Xw.box (cs:=[a,x,y,c,d]) O O) O ?_
 rintro _ M ⟨rfl,b,f,N⟩
 have E:=h.bs f
 have hs:=h.size
 have U:=AH h.box
 have F:=AG h.oi
 refine Bl<|Ac O<|Be underlying25 O (AN _)<|Aa (Ah (AF _) O ‹_› rfl) O ?_
 refine Aj O O (Jv M i A n q G u p l v L s t o x k xs E (T.bs f) (by omega)) ?_
 rintro _ K ⟨rfl,I,g,B⟩
 have l2:=E.low (fun b e=>(AG E.oi b e).1) I
 have C:Sl K 1 y m z:=(R.bs f).keep fun b _ e=>l2.block b (D b e)
 have X:=b.chg I (fun e=>by
  rcases e with e|e
  ·omega
  ·have:=(F _ e).2;omega)
 refine Ak<|Bw<|Ac O<|Be underlying25 O (AN _)<|Aa (Ah (AF _) O ‹_› rfl) O ?_
 refine Aj O O (Jv K i A (n+1) q _ u p l v g s t o y m z B C (by omega)) ?_
 rintro _ V ⟨rfl,S,j,J⟩
 have Q:=B.low (fun b e=>(AG B.oi b e).1) S
 have e2:n+1+1=n+2:=by omega
 rw [e2,append_assoc] at J
 exact Bf<|C9 rfl<|⟨rfl,((f.mono (Nat.le_of_lt hs)).trans l2).trans Q,j,J⟩

def R9 (n:Int):List T4→List Hd
 |[]=>[]
 |t::ts=>CL t.x t.s.length (t.s.map (Value.int .i64)) (n+1)::R9 (n+2) ts
def R8 (n:Int):List T4→List Hd
 |[]=>[]
 |t::ts=>CL t.y t.l.length (t.l.map i32) (n+2)::R8 (n+2) ts
theorem O9 (t:T4):∀(ts:List T4) (n:Int),R9 n (ts++[t])=R9 n ts++[CL t.x t.s.length (t.s.map (Value.int .i64)) (n+2*ts.length+1)]
 |[],n=>by simp [R9]
 |a::ts,n=>by
  simp only [cons_append,R9,O9 t ts (n+2),length_cons]
  rw [show n+2+2*(ts.length:Int)+1=n+2*((ts.length+1:Nat):Int)+1 by omega]
theorem O8 (t:T4):∀(ts:List T4) (n:Int),R8 n (ts++[t])=R8 n ts++[CL t.y t.l.length (t.l.map i32) (n+2*ts.length+2)]
 |[],n=>by simp [R8]
 |a::ts,n=>by
  simp only [cons_append,R8,O8 t ts (n+2),length_cons]
  rw [show n+2+2*(ts.length:Int)+2=n+2*((ts.length+1:Nat):Int)+2 by omega]
def T4.low (lo:Nat) (t:T4):Prop:=(∀b,t.x.ownBlock=some b→b<lo)∧∀b,t.y.ownBlock=some b→b<lo
theorem CU {w a:World} {c sz n:Nat} {v:Value} {xs:List Value} (h:Sl w sz v n xs) (d:∀b,v.ownBlock=some b→b<c) (g:Below c w a):Sl a sz v n xs:=h.keep fun b _ e=>g.block b (d b e)
def U5 (w:World) (v:Value) (ts:List T4):Prop:=Sl w 2 v ts.length (cellsOf ts)∧∀t ∈ ts,t.at w
theorem EP {w c:World} {a:Nat} {v:Value} {ts:List T4} (h:U5 w v ts) (e:∀b,v.ownBlock=some b→b<a) (d:∀t ∈ ts,t.low a) (g:Below a w c):U5 c v ts:=
 ⟨CU h.1 e g,fun t m=>⟨CU (h.2 t m).1 (d t m).1 g,CU (h.2 t m).2 (d t m).2 g⟩⟩
theorem Pi {ts:List T4} {j:Nat} (h:j<ts.length):∀i,i<2→∃q,[ts[j].x,ts[j].y][i]? =some q∧(cellsOf ts)[j*2+i]? =some q:=fun i c=>by
 obtain ⟨a,b⟩:=CW h
 rcases (show i=0∨i=1 by omega) with rfl|rfl
 ·exact ⟨_,rfl,a⟩
 ·exact ⟨_,rfl,b⟩
theorem IW (w:World) (f A:Nat) (n:Int) (y D E u o:List Hd) (F Y V G q v:Value) (ts:List T4) (h:Bm w f A n y D E u o F Y V G q) (W:U5 w v ts) (I:∀b,v.ownBlock=some b→b<f) (j:∀t ∈ ts,t.low f) (hf:n+2*ts.length≤3999980):
  AM prog 15 [.pointer (some ⟨A,0,none⟩),v] w (fun r p=>r= .tuple #[]∧Below f w p∧∃L M l,Bm p f A (n+2*ts.length+1) y (D++R9 n ts) (E++R8 n ts) (u++[CL v ts.length (cellsOf ts) (n+2*ts.length+1)]) o F L M l q):=by
 have sv:=W.1
 have hnn:=h.many
 refine Bb (n:=20) func15 O<|An<|Af<|Ab O<|Ak<|Ao ?_
 refine Bq (S:=(Nat×Value×Value)) (fun z=>[(0, .pointer (some ⟨A,0,none⟩)),(1,v),(4, .int .i64 (z.1:Int))]) (fun z p=>z.1≤ts.length∧Below f w p∧Bm p f A (n+2*z.1) y (D++R9 n (ts.take z.1)) (E++R8 n (ts.take z.1)) u o F z.2.1 z.2.2 G q) (fun z=>ts.length - z.1) ((0,Y,V)) ⟨rfl,rfl,rfl,trivial⟩ ?_ ?_
 ·exact ⟨Nat.zero_le _,Below.refl _ _,by simpa [R9,R8] using h⟩
 rintro ⟨i,T,R⟩ X ⟨J,U,m⟩
 dsimp only at J m ⊢
 have B:=EP W I j U
 have k:=B.1
 refine An<|Af<|Ac O<|Ac O<|Aa (Au AR O ‹_›) O ?_
 refine B3 O<|Ak<|Aq O ?_ ?_
 ·intro g
  have c:i<ts.length:=by have:=AD g;omega
  obtain ⟨a,H⟩:∃a,a=ts[i]:=⟨_,rfl⟩
  have x:a ∈ ts:=H ▸ getElem_mem c
  have s:=Pi c
  rw [← H] at s
  have C:=B.2 a x
  refine B0<|An<|Ao<|Bw<|Ac O<|Ac O<|Ac O<|Aa (Ci AR O O k i O c) O<|Aa (Cq (cs:=[a.x,a.y]) (AT _) (AP _) O k O (by decide) s) O<|Aj O O (HL X f A (n+2*i) y _ _ u o F T R G q a.x a.y a.s.length a.l.length _ _ m C.1 C.2 (j a x).2 (by omega)) ?_
  rintro _ Z ⟨rfl,Q,N,K,d⟩
  have eI:D++R9 n (ts.take (i+1))=D++R9 n (ts.take i)++[CL a.x a.s.length (a.s.map (Value.int .i64)) (n+2*i+1)]:=by
   rw [take_succ_eq_append_getElem c,O9,← H,length_take,Nat.min_eq_left (by omega),append_assoc]
  have eN:E++R8 n (ts.take (i+1))=E++R8 n (ts.take i)++[CL a.y a.l.length (a.l.map i32) (n+2*i+2)]:=by
   rw [take_succ_eq_append_getElem c,O8,← H,length_take,Nat.min_eq_left (by omega),append_assoc]
  have eK:n+2*(i:Int)+2=n+2*((i+1:Nat):Int):=by omega
  rw [← eI,← eN,eK] at d
  refine Bf<|Bn<|Ch<|Ac O<|B7 O (by omega)<|Ab O<|Bf ?_
  exact Ap (Pw.next ((i+1,N,K)) ⟨rfl,rfl,rfl,trivial⟩ (⟨c,U.trans Q,d⟩) (by simp only;omega))
 intro g
 have c:i=ts.length:=by have:=AB g;omega
 subst c
 rw [take_length] at m
 refine Bp<|Al<|Al<|Bd<|Ch<|Ac O<|Ac O<|Aj O O (Mw X f A (n+2*ts.length) y _ _ u o F T R G q v ts.length (cellsOf ts) m k (by omega)) ?_
 rintro _ Z ⟨rfl,hc,l,d⟩
 have l3:=m.low (fun b e=>(AG m.ot b e).1) hc
 exact Bf<|C9 rfl<|⟨rfl,U.trans l3,T,R,l,d⟩
end Go.Proofs.YtmipoeanpnnjoaaGreatDoor

namespace Go.Proofs.YtmipoeanpnnjoaaGreatDoor
open Go Go.Dd Go.RowKit List
set_option maxRecDepth 100000
end Go.Proofs.YtmipoeanpnnjoaaGreatDoor

namespace Go.Proofs.YtmipoeanpnnjoaaGreatDoor
open Go Go.Dd Go.RowKit List Go.Proofs.Tryz
set_option maxRecDepth 100000
structure IL (w:World) (lo hi:Nat) (c:T4):Prop where
 rx:BM w lo 3 1 c.x c.s.length (c.s.map (Value.int .i64))
 ry:BM w lo 21 1 c.y c.l.length (c.l.map i32)
 bx:∀b,c.x.ownBlock=some b→lo≤b∧b<hi
 by' :∀b,c.y.ownBlock=some b→lo≤b∧b<hi
 apart:JX c.y c.x
theorem IL.bs {w a:World} {d b:Nat} {c:T4} (h:IL w d b c) (g:Below w.heap.size w a):IL a d b c:=⟨h.rx.bs g,h.ry.bs g,h.bx,h.by',h.apart⟩
theorem IL.at {w:World} {a b:Nat} {c:T4} (h:IL w a b c):c.at w:=⟨h.rx.slT,h.ry.slT⟩
theorem IL.wide {w:World} {g i a d:Nat} {c:T4} (h:IL w g i c) (f:a≤g) (j:i≤d):IL w a d c:=
 ⟨h.rx.mono f,h.ry.mono f,fun b e=>by have:=h.bx b e;omega,fun b e=>by have:=h.by' b e;omega,h.apart⟩
theorem OB (w:World) (a c:Nat):IL w a c ⟨.slice none 0 0, .slice none 0 0,[],[]⟩:=
 ⟨.inl ⟨rfl, .inl ⟨rfl,rfl⟩⟩, .inl ⟨rfl, .inl ⟨rfl,rfl⟩⟩,(fun b e=>by cases e),(fun b e=>by cases e),(fun b e=>by cases e)⟩
def CD (w:World):Nat→Nat→List T4→Prop
 |base,top,[]=>base≤top
 |base,top,c::cs=>∃lo hi,base≤lo∧lo≤hi∧IL w lo hi c∧CD w hi top cs
theorem CD.le:∀{w:World} {cs:List T4} {base a:Nat},CD w base a cs→base≤a
 |_,[],_,_,h=>h
 |_,_::_,_,_,⟨_,_,h1,h2,_,h3⟩=>by have:=h3.le;omega
theorem CD.bs {w b:World} (g:Below w.heap.size w b):∀{cs:List T4} {base a:Nat},CD w base a cs→CD b base a cs
 |[],_,_,h=>h
 |_::_,_,_,⟨lo,hi,h1,h2,h3,h4⟩=>⟨lo,hi,h1,h2,h3.bs g,CD.bs g h4⟩
structure FD (w:World) (lo hi:Nat) (x y:Value) (a:T4):Prop where
 held:IL w lo hi ⟨x,y,a.s,a.l⟩
 tx:Twn w lo 3 (Value.int .i64) (Value.int .i64 (77)) x a.s
 ty:Twn w lo 21 i32 (i32 (77#32)) y a.l
theorem FD.bs {w b:World} {d c:Nat} {x y:Value} {a:T4} (h:FD w d c x y a) (g:Below w.heap.size w b):FD b d c x y a:=⟨h.held.bs g,h.tx.bs g,h.ty.bs g⟩
theorem Twn.mono {α:Type} {w:World} {B B' :Nat} {T:TypeId} {enc:α→Value} {a v:Value} {l:List α} (h:Twn w B T enc a v l) (d:B' ≤B):Twn w B' T enc a v l:=by
 obtain ⟨b,cap,rfl,c⟩:=h
 exact ⟨b,cap,rfl,BH c d⟩
theorem Twn.by {α:Type} {w d:World} {B r:Nat} {T:TypeId} {enc:α→Value} {a v:Value} {l:List α} (h:Twn w B T enc a v l) (f:w.grownBy d (some r)) (g:r<B):Twn d B T enc a v l:=by
 obtain ⟨b,cap,rfl,c⟩:=h
 exact ⟨b,cap,rfl,c.kept f (.inr fun e=>by have:=(AG c r e).1;omega)⟩
theorem Q4 (a:T4) (w:World) (g:a.at w) (hs:a.s.length≤4194304) (A:a.l.length≤4194304):
  AM prog 20 [a.v] w (fun r z=>Below w.heap.size w z∧∃x y,r= .agg #[x,y]∧FD z w.heap.size z.heap.size x y a):=by
 have f:=Below.refl w.heap.size w
 refine Bb (n:=10) func20 O<|Af<|Bk (Xw.box (cs:=[a.x,a.y]) O O) O ?_
 rintro _ H ⟨rfl,b,d, -⟩
 have f:=f.bs d
 have g:=g.bs d
 have z1:=AA f
 refine Bk (Xw.new AY) O ?_
 rintro _ K ⟨rfl,c,d,I⟩
 have f:=f.bs d
 have g:=g.bs d
 have b:=b.bs d
 refine Ak<|An ?_
 refine Cw.any AS (fun v u _=> ?_)
 have f:=f.bs u
 have g:=g.bs u
 have b:=b.bs u
 have c:=c.bs u
 clear u
 refine Aw.take (i:=0) (Am Bo) O (by kernel_rfl) (by kernel_rfl) (by kernel_rfl) (fun _=>Cd underlying33 O (AN _)) O<|Aw.take (i:=3) (Am Bo) O (by kernel_rfl) (by kernel_rfl) (by kernel_rfl) (fun _=>Cd underlying33 O (BC _)) O ?_
 have B:=AA f
 have J:H.heap.size<v.heap.size:=AH c
 refine F6 (i:=1) (j:=4) (by kernel_rfl) O O ?_ ?_
 ·refine Aa (Ah (AF _) O ‹_› rfl) O ?_
  refine Aw.back ?_
  refine F6 (i:=2) (j:=4) (by kernel_rfl) O O ?_ ?_
  ·refine Aj O O (GT a.x a.s v g.1 hs) ?_
   rintro x t ⟨h,d⟩
   have m:=AG h.own
   have D:=d.size
   have f:=f.bs d
   have g:=g.bs d
   have b:=b.bs d
   have c:=c.bs d
   refine Aw.back<|Aw.only (i:=4) (by kernel_rfl) O<|Aa (Ah (BG _) O ‹_› rfl) O ?_
   refine Aw.back<|Aw.only (i:=5) (by kernel_rfl) O<|Aj O O (Hp a.y a.l t g.2 A) ?_
   rintro y G ⟨q,d⟩
   have k:=AG q.own
   have z5:=d.size
   have f:=f.bs d
   have g:=g.bs d
   have b:=b.bs d
   have c:=c.bs d
   have h:=h.bs d
   refine Aw.back<|Aw.only (i:=6) (by kernel_rfl) O<|Aa (C4 (vs:=[(0,x),(1,y)]) (cs:=[x,y]) O (Hs _ _ h.sl.one q.sl.one)) O<|Aw.back<|Aw.only (i:=7) (by kernel_rfl) O<|Az (Bv (cs:=[x,y]) O O O O (by simp [h.sl.one',q.sl.one']) c O) ?_
   rintro C ⟨F,p, -⟩
   have s:=f.grown p (AA f) (by rintro _ ⟨⟩;exact z1)
   have E:=p.size
   have l:=Twn.mono (Twn.by h p (by omega)) B
   have o:=Twn.mono (Twn.by q p (by omega)) (show w.heap.size≤t.heap.size by omega)
   refine Aw.back<|Ea (by kernel_rfl)<|Ap<|B8<|Df<|Ee O O ‹_› underlying33 O O O ?_
   exact ⟨s,x,y,rfl,⟨.inl l.own, .inl o.own,fun b e=>by have:=m b e;omega,fun b e=>by have:=k b e;omega,fun b e1 e2=>by have:=m b e2;have:=k b e1;omega⟩,l,o⟩
  ·refine Aa (Ah (BG _) O ‹_› rfl) O ?_
   refine Aw.back<|Aw.only (i:=2) (by kernel_rfl) O<|Aj O O (GT a.x a.s v g.1 hs) ?_
   rintro x t ⟨h,d⟩
   have m:=AG h.own
   have D:=d.size
   have f:=f.bs d
   have g:=g.bs d
   have b:=b.bs d
   have c:=c.bs d
   refine Aw.back<|Aw.only (i:=5) (by kernel_rfl) O<|Aj O O (Hp a.y a.l t g.2 A) ?_
   rintro y G ⟨q,d⟩
   have k:=AG q.own
   have z5:=d.size
   have f:=f.bs d
   have g:=g.bs d
   have b:=b.bs d
   have c:=c.bs d
   have h:=h.bs d
   refine Aw.back<|Aw.only (i:=6) (by kernel_rfl) O<|Aa (C4 (vs:=[(0,x),(1,y)]) (cs:=[x,y]) O (Hs _ _ h.sl.one q.sl.one)) O<|Aw.back<|Aw.only (i:=7) (by kernel_rfl) O<|Az (Bv (cs:=[x,y]) O O O O (by simp [h.sl.one',q.sl.one']) c O) ?_
   rintro C ⟨F,p, -⟩
   have s:=f.grown p (AA f) (by rintro _ ⟨⟩;exact z1)
   have E:=p.size
   have l:=Twn.mono (Twn.by h p (by omega)) B
   have o:=Twn.mono (Twn.by q p (by omega)) (show w.heap.size≤t.heap.size by omega)
   refine Aw.back<|Ea (by kernel_rfl)<|Ap<|B8<|Df<|Ee O O ‹_› underlying33 O O O ?_
   exact ⟨s,x,y,rfl,⟨.inl l.own, .inl o.own,fun b e=>by have:=m b e;omega,fun b e=>by have:=k b e;omega,fun b e1 e2=>by have:=m b e2;have:=k b e1;omega⟩,l,o⟩
 ·refine Aa (Ah (BG _) O ‹_› rfl) O ?_
  refine Aw.back<|Aw.only (i:=1) (by kernel_rfl) O<|Aa (Ah (AF _) O ‹_› rfl) O ?_
  refine Aw.back<|Aw.only (i:=2) (by kernel_rfl) O<|Aj O O (GT a.x a.s v g.1 hs) ?_
  rintro x t ⟨h,d⟩
  have m:=AG h.own
  have D:=d.size
  have f:=f.bs d
  have g:=g.bs d
  have b:=b.bs d
  have c:=c.bs d
  refine Aw.back<|Aw.only (i:=5) (by kernel_rfl) O<|Aj O O (Hp a.y a.l t g.2 A) ?_
  rintro y G ⟨q,d⟩
  have k:=AG q.own
  have z5:=d.size
  have f:=f.bs d
  have g:=g.bs d
  have b:=b.bs d
  have c:=c.bs d
  have h:=h.bs d
  refine Aw.back<|Aw.only (i:=6) (by kernel_rfl) O<|Aa (C4 (vs:=[(0,x),(1,y)]) (cs:=[x,y]) O (Hs _ _ h.sl.one q.sl.one)) O<|Aw.back<|Aw.only (i:=7) (by kernel_rfl) O<|Az (Bv (cs:=[x,y]) O O O O (by simp [h.sl.one',q.sl.one']) c O) ?_
  rintro C ⟨F,p, -⟩
  have s:=f.grown p (AA f) (by rintro _ ⟨⟩;exact z1)
  have E:=p.size
  have l:=Twn.mono (Twn.by h p (by omega)) B
  have o:=Twn.mono (Twn.by q p (by omega)) (show w.heap.size≤t.heap.size by omega)
  refine Aw.back<|Ea (by kernel_rfl)<|Ap<|B8<|Df<|Ee O O ‹_› underlying33 O O O ?_
  exact ⟨s,x,y,rfl,⟨.inl l.own, .inl o.own,fun b e=>by have:=m b e;omega,fun b e=>by have:=k b e;omega,fun b e1 e2=>by have:=m b e2;have:=k b e1;omega⟩,l,o⟩
theorem Nk (a b:T4) (W:World) (d:a.at W) (c:b.at W):AM prog 11 [a.v,b.v] W (fun r m=>r= .bool (decide (a.s=b.s) && decide (a.l=b.l))∧Below W.heap.size W m):=by
 have h:=Below.refl W.heap.size W
 refine Bb (n:=17) func11 O<|Af<|B5 (cs:=[a.x,a.y]) O O O ?_
 rintro o w j f e -
 have h:=h.bs e
 have d:=d.bs e
 have c:=c.bs e
 refine B5 (cs:=[b.x,b.y]) O O O ?_
 rintro l w k i e -
 have h:=h.bs e
 have d:=d.bs e
 have c:=c.bs e
 have f:=f.bs e
 refine Ab O<|Bl<|Be underlying33 O (AN _)<|Aa (Ah (AF _) O ‹_› rfl) O ?_
 refine Be underlying33 O (AN _)<|Aa (Ah (AF _) O ‹_› rfl) O ?_
 refine Aj O O (Lz a.x b.x a.s b.s _ d.1 c.1) ?_
 rintro _ w ⟨rfl,e⟩
 have h:=h.bs e
 have d:=d.bs e
 have c:=c.bs e
 have f:=f.bs e
 have i:=i.bs e
 refine Ac O ?_
 refine Cc 10 O ?_ ?_
 ·intro g
  refine Ag (dj:=10) O O<|Be underlying33 O (BC _)<|Ag (dj:=10) O O<|Aa (Ah (BG _) O ‹_› rfl) O ?_
  refine Ag (dj:=10) O O<|Be underlying33 O (BC _)<|Ag (dj:=10) O O<|Aa (Ah (BG _) O ‹_› rfl) O ?_
  refine Ag (dj:=10) O O<|Aj O O (IS a.y b.y a.l b.l _ d.2 c.2) ?_
  rintro _ w ⟨rfl,e⟩
  have h:=h.bs e
  have d:=d.bs e
  have c:=c.bs e
  have f:=f.bs e
  have i:=i.bs e
  refine B4 O<|Ab O<|Bc<|Ax O O ?_
  exact ⟨by rw [g];rfl,h⟩
 ·intro g
  refine Ae (dj:=10) O O O O<|Ae (dj:=10) O O O O<|Ae (dj:=10) O O O O<|Ae (dj:=10) O O O O<|Ae (dj:=10) O O O O<|Cn O<|Ab O<|Bc<|Ax O O ?_
  exact ⟨by rw [g];rfl,h⟩
theorem JI (a:T4) (x y:Value) (h o:Nat) (W:World) (b:a.at W) (c:FD W h o x y a):AM prog 27 [.agg #[x,y],a.v] W (fun r k=>r= .bool true∧Below W.heap.size W k):=by
 have f:=Below.refl W.heap.size W
 refine Bb (n:=17) func27 O<|Af<|B5 (cs:=[x,y]) O O O ?_
 rintro l w j e d -
 have f:=f.bs d
 have b:=b.bs d
 have c:=c.bs d
 refine B5 (cs:=[a.x,a.y]) O O O ?_
 rintro m w i g d -
 have f:=f.bs d
 have b:=b.bs d
 have c:=c.bs d
 have e:=e.bs d
 refine Ab O<|Bl<|Be underlying33 O (AN _)<|Aa (Ah (AF _) O ‹_› rfl) O ?_
 refine Be underlying33 O (AN _)<|Aa (Ah (AF _) O ‹_› rfl) O ?_
 refine Aj O O (Jp x a.x a.s h _ c.tx b.1) ?_
 rintro _ w ⟨rfl,d⟩
 have f:=f.bs d
 have b:=b.bs d
 have c:=c.bs d
 have e:=e.bs d
 have g:=g.bs d
 refine Ac O<|C5 10 (v' := .bool true) O (cngA Value.bool (rfl))<|Ag (dj:=10) O O<|Be underlying33 O (BC _)<|Ag (dj:=10) O O<|Aa (Ah (BG _) O ‹_› rfl) O ?_
 refine Ag (dj:=10) O O<|Be underlying33 O (BC _)<|Ag (dj:=10) O O<|Aa (Ah (BG _) O ‹_› rfl) O ?_
 refine Ag (dj:=10) O O<|Aj O O (Mr y a.y a.l h _ c.ty b.2) ?_
 rintro _ w ⟨rfl,d⟩
 have f:=f.bs d
 have b:=b.bs d
 have c:=c.bs d
 have e:=e.bs d
 have g:=g.bs d
 exact B4 rfl<|Ab rfl<|Bc<|Ax rfl rfl<|⟨rfl,f⟩
end Go.Proofs.YtmipoeanpnnjoaaGreatDoor

namespace Go.Proofs.YtmipoeanpnnjoaaGreatDoor
open Go Go.Dd Go.RowKit Go.Proofs.Tryz
open List hiding all
set_option maxRecDepth 100000
theorem Vo {w:World} {base sz n b:Nat} {e:TypeId} {v:Value} {xs:List Value} (h:w.ownsRow base e sz v n xs) (a:v.ownBlock=some b):∃cs,AO w b e cs:=BM.ty (.inl h) a
theorem LH {w f:World} {base a:Nat} {e T:TypeId} {sz d n m:Nat} {v q:Value} {xs l:List Value} (h:BM w base e sz v n xs) (k:BM w a T d q m l) (c:e≠T) (g:w.grownBy f q.ownBlock):BM f base e sz v n xs:=by
 cases hq:q.ownBlock with
 |none=>rw [hq] at g;exact h.bs (ET g (AX _) fun _ e=>by cases e)
 |some A=>
  rw [hq] at g
  obtain ⟨cs,o⟩:=k.ty hq
  refine h.heap fun b i=>g.block b (h.lt b i).2 fun e2=> ?_
  cases e2
  obtain ⟨ds,j⟩:=h.ty i
  exact c (Lf j o)
theorem MF {w d:World} {base a:Nat} {e T:TypeId} {sz c n m:Nat} {v q:Value} {xs j:List Value} (h:w.ownsRow base e sz v n xs) (i:BM w a T c q m j) (b:e≠T) (g:w.grownBy d q.ownBlock):d.ownsRow base e sz v n xs:=by
 cases hq:q.ownBlock with
 |none=>rw [hq] at g;exact AL h (ET g (AX _) fun _ e=>by cases e)
 |some A=>
  rw [hq] at g
  obtain ⟨cs,k⟩:=i.ty hq
  refine h.kept g (.inr fun e2=> ?_)
  obtain ⟨ds,f⟩:=Vo h e2
  exact b (Lf f k)
def OW (w:World) (base:Nat) (T:TypeId) (sz:Nat) (r:Value) (n:Nat) (cells mk:List Value):Prop:=
 ∃b cap,r= .slice (some ⟨b,0,none⟩) n cap∧w.ownsRow base T sz (.slice (some ⟨b,0,none⟩) (n+1) cap) (n+1) (cells++mk)
theorem OW.bs {w c:World} {base:Nat} {T:TypeId} {sz:Nat} {r:Value} {n:Nat} {a mk:List Value} (h:OW w base T sz r n a mk) (g:Below w.heap.size w c):OW c base T sz r n a mk:=by
 obtain ⟨b,cap,e,d⟩:=h
 exact ⟨b,cap,e,AL d g⟩
theorem Wu {b n m cap sz:Nat}:cut (.slice (some ⟨b,0,none⟩) m cap) sz 0 n= .slice (some ⟨b,0,none⟩) n cap:=by
 show Value.slice (if cap=0 then _ else Option.map _ _) (n - 0) (cap - 0)=_
 have a:(if cap=0 then some (⟨b,0,none⟩:Addr) else (some (⟨b,0,none⟩:Addr)).map (·.add (0*sz)))=some ⟨b,0,none⟩:=by
  split
  ·rfl
  ·simp [add_lit]
 rw [a];rfl
theorem Q3 {w:World} {base:Nat} {T:TypeId} {sz:Nat} {v:Value} {n:Nat} {a mk:List Value} (h:w.ownsRow base T sz v (n+1) (a++mk)):OW w base T sz (cut v sz 0 n) n a mk:=by
 have d:=h
 rcases h.2 with ⟨_,e⟩|⟨b,cap,c,rfl,_⟩
 ·omega
 ·exact ⟨b,cap,Wu,d⟩
theorem OW.own {w:World} {base:Nat} {T:TypeId} {sz:Nat} {r:Value} {n:Nat} {a mk:List Value} (h:OW w base T sz r n a mk) (d:a.length=n*sz):w.ownsRow base T sz r n a:=by
 obtain ⟨b,cap,rfl,c⟩:=h
 have:=Tk c (Nat.le_succ n)
 rw [take_append_of_le_length (by omega),take_of_length_le (by omega),Wu] at this
 exact this
theorem Twn.awayS {α:Type} {w i:World} {B c:Nat} {e T:TypeId} {enc:α→Value} {a v q:Value} {l:List α} {f m:Nat} {n:List Value} (h:Twn w B e enc a v l) (j:BM w c T f q m n) (d:e≠T) (g:w.grownBy i q.ownBlock):Twn i B e enc a v l:=by
 obtain ⟨b,cap,rfl,k⟩:=h
 exact ⟨b,cap,rfl,MF k j d g⟩
theorem IL.awayS {w e:World} {f i a:Nat} {T:TypeId} {q:Value} {b m:Nat} {j:List Value} {c:T4} (h:IL w f i c) (d:BM w a T b q m j) (l:3≠T) (k:21≠T) (g:w.grownBy e q.ownBlock):IL e f i c:=
 ⟨LH h.rx d l g,LH h.ry d k g,h.bx,h.by',h.apart⟩
theorem FD.awayS {w e:World} {j k a:Nat} {T:TypeId} {q x y:Value} {d m:Nat} {l:List Value} {c:T4} (h:FD w j k x y c) (b:BM w a T d q m l) (i:3≠T) (f:21≠T) (g:w.grownBy e q.ownBlock):FD e j k x y c:=
 ⟨h.held.awayS b i f g,Twn.awayS h.tx b i g,Twn.awayS h.ty b f g⟩
theorem FD.wide {w:World} {e f a b:Nat} {x y:Value} {c:T4} (h:FD w e f x y c) (d:a≤e) (g:f≤b):FD w a b x y c:=
 ⟨h.held.wide d g,Twn.mono h.tx d,Twn.mono h.ty d⟩
theorem CD.awayS {w e:World} {a:Nat} {T:TypeId} {q:Value} {c m:Nat} {j:List Value} (d:BM w a T c q m j) (i:3≠T) (f:21≠T) (g:w.grownBy e q.ownBlock):∀{cs:List T4} {base b:Nat},CD w base b cs→CD e base b cs
 |[],_,_,h=>h
 |_::_,_,_,⟨lo,hi,q1,q2,q3,q4⟩=>⟨lo,hi,q1,q2,q3.awayS d i f g,CD.awayS d i f g q4⟩
theorem CD.snoc {w:World} {c:T4} {b d:Nat} (f:IL w b d c) (e:b≤d):∀{cs:List T4} {base a:Nat},CD w base a cs→a≤b→CD w base d (cs++[c])
 |[],_,_,h,ht=>⟨b,d,Nat.le_trans h ht,e,f,AX _⟩
 |_::_,_,_,⟨l1,h1,q1,q2,q3,q4⟩,ht=>⟨l1,h1,q1,q2,q3,CD.snoc f e q4 ht⟩
theorem CD.top {w:World} {b:Nat}:∀{cs:List T4} {base a:Nat},CD w base a cs→a≤b→CD w base b cs
 |[],_,_,h,ht=>Nat.le_trans h ht
 |_::_,_,_,⟨l1,h1,q1,q2,q3,q4⟩,ht=>⟨l1,h1,q1,q2,q3,CD.top q4 ht⟩
theorem GL:∀us:List T4,(cellsOf us).length=us.length*2
 |[]=>rfl
 |_::us=>by simp only [cellsOf,length_cons,GL us];omega
theorem SO {w:World} {sz n:Nat} {v:Value} {xs:List Value} (h:Sl w sz v n xs):∃a k c,v= .slice a k c:=by
 obtain ⟨_,a,cap,rfl,_⟩:=h
 exact ⟨a,n,cap,rfl⟩
def vl (t:T4):List Int×List (BitVec 32):=(t.s,t.l)
structure Hc (w:World) (lo hi:Nat) (r:Value) (us:List T4):Prop where
 all:CD w lo hi us
 tw:∀c ∈ us,FD w lo hi c.x c.y c
 m:∃m,OW w lo 33 2 r us.length (cellsOf us) [m, .slice none 0 0]∧BS (Value.int .i64) w m [77]
 rb:∀b,r.ownBlock=some b→lo≤b∧b<hi
theorem Hc.bs {w b:World} {a d:Nat} {r:Value} {us:List T4} (h:Hc w a d r us) (g:Below w.heap.size w b):Hc b a d r us:=
 ⟨h.all.bs g,fun c i=>(h.tw c i).bs g,by obtain ⟨m,f,e⟩:=h.m;exact ⟨m,f.bs g,e.bs g⟩,h.rb⟩
theorem Hc.own {w:World} {a c:Nat} {r:Value} {us:List T4} (h:Hc w a c r us):w.ownsRow a 33 2 r us.length (cellsOf us):=by
 obtain ⟨m,b,_⟩:=h.m
 exact b.own (GL us)
theorem Hc.tens {w:World} {a b:Nat} {r:Value} {us:List T4} (h:Hc w a b r us):CN w r us:=⟨AI h.own,fun c d=>(h.tw c d).held.at⟩
theorem VR (x:Value) (f:∃a n c,x= .slice a n c):Tryz.prog.built 33 [(0,x)]=some [x, .slice none 0 0].toArray:=by
 obtain ⟨a,n,c,rfl⟩:=f
 have d:Tryz.prog.info? 33=some Tryz.t33:=rfl
 have b:Tryz.prog.info? 23=some Tryz.t23:=rfl
 have e:Tryz.prog.info? 31=some Tryz.t31:=rfl
 simp [Program.built,d,underlying33,b,e,Instr.fill,Value.cells]
 rfl
theorem Jd {ts:List T4} {j:Nat} (h:j<ts.length):∀i,i<2→∃q,[ts[j].x,ts[j].y][i]? =some q∧(cellsOf ts)[j*2+i]? =some q:=FA (CW h).1 (CW h).2
theorem NG (a b:List T4):cellsOf (a++b)=cellsOf a++cellsOf b:=by
 induction a with
 |nil=>rfl
 |cons x a ih=>simp only [cons_append,cellsOf,ih]
theorem Rm (v:Value) (ts:List T4) (W:World) (h:CN W v ts) (hb:∀t ∈ ts,t.s.length≤4194304∧t.l.length≤4194304) (hl:ts.length≤2097152):
  AM prog 8 [v] W (fun r A=>Below W.heap.size W A∧∃us,Hc A W.heap.size A.heap.size r us∧us.map vl=ts.map vl):=by
 have sv:=h.1
 refine Bb (n:=31) func8 O<|Af<|Ab O<|Bl<|Ac O<|Aa (Au AR O ‹_›) O ?_
 refine B7 O (by omega)<|Bk (Ed (l:=0) (c:=ts.length+1) AR AY O O O (by omega) (by omega) (by omega)) O ?_
 rintro r0 w1 ⟨e, -,C, -⟩
 replace e:w1.ownsRow W.heap.size 33 2 r0 0 []:=e
 refine Ab O<|Bh<|Ab O<|Ak<|Ao ?_
 refine Bq (S:=(Nat×Value×List T4)) (fun z=>[(0,v),(3,z.2.1),(4, .int .i64 (z.1:Int))]) (fun z A=>z.1≤ts.length∧Below W.heap.size W A∧A.ownsRow W.heap.size 33 2 z.2.1 z.1 (cellsOf z.2.2)∧CD A W.heap.size A.heap.size z.2.2∧(∀c ∈ z.2.2,FD A W.heap.size A.heap.size c.x c.y c)∧z.2.2.map vl=(ts.take z.1).map vl) (fun z=>ts.length - z.1) ((0,r0,[])) ⟨rfl,rfl,rfl,trivial⟩ ?_ ?_
 ·exact ⟨Nat.zero_le _,C,e,C.size,fun _ k=>absurd k not_mem_nil,rfl⟩
 clear e C
 rintro ⟨i,r,us⟩ w ⟨hi,C,e,Y,X,L⟩
 replace hi:i≤ts.length:=hi
 replace e:w.ownsRow W.heap.size 33 2 r i (cellsOf us):=e
 replace Y:CD w W.heap.size w.heap.size us:=Y
 replace X:∀c ∈ us,FD w W.heap.size w.heap.size c.x c.y c:=X
 replace L:us.map vl=(ts.take i).map vl:=L
 have R:=sv.bs C
 have z2:=C.size
 have lus:us.length=i:=by have:=cngA length L;rw [length_map,length_map,length_take] at this;omega
 refine An<|Af<|Ac O<|Ac O<|Aa (Au AR O ‹_›) O ?_
 refine B3 O<|Ak<|Aq O ?_ ?_
 ·intro g
  have o:i<ts.length:=by have:=AD g;omega
  obtain ⟨a,ha⟩:∃a,a=ts[i]:=⟨_,rfl⟩
  have G:a ∈ ts:=ha ▸ getElem_mem o
  have N:=Jd o
  rw [← ha] at N
  refine B0<|An<|Ao<|Bw<|Ac O<|Ac O<|Ac O<|Aa (Ci AR O O R i O o) O<|Aa (Cq (cs:=[a.x,a.y]) (AT _) (AP _) O R O (by decide) N) O<|Aj O O (Q4 a w ((h.2 a G).bs C) (hb a G).1 (hb a G).2) ?_
  rintro _ V ⟨b,x,y,rfl,M⟩
  have J:=bt C b
  have q:=AL e b
  have H3:=Y.bs b
  have T3:∀c ∈ us,FD V W.heap.size w.heap.size c.x c.y c:=fun c k=>(X c k).bs b
  have z3:=b.size
  refine Bk (Dw (cs:=[x,y]) AR AY O O (by decide) (by decide)) O ?_
  rintro p K ⟨I, -,b, -⟩
  have s:=bt J b
  have f:=AL q b
  have H4:=H3.bs b
  have H:∀c ∈ us,FD K W.heap.size w.heap.size c.x c.y c:=fun c k=>(T3 c k).bs b
  have M:=M.bs b
  have z4:=b.size
  have ox:=M.held.at.one
  refine Bk (Di (base:=W.heap.size) AR AY O (by decide) O O f (AI I) ox (by omega) (by omega) s.size) O ?_
  rintro Z u ⟨d,b,D, -⟩
  have B:=s.trans b
  have z5:=b.size
  have e1:cellsOf (us++[⟨x,y,a.s,a.l⟩])=cellsOf us++[x,y]:=by rw [NG];rfl
  rw [← e1] at d
  have E:BM K W.heap.size 33 2 r i (cellsOf us):= .inl f
  have T5:∀c ∈ us++[⟨x,y,a.s,a.l⟩],FD u W.heap.size u.heap.size c.x c.y c:=by
   intro c k
   rcases List.mem_append.1 k with k|k
   ·exact ((H c k).awayS E (by decide) (by decide) D).wide (AX _) (by omega)
   ·rw [List.mem_singleton.1 k]
    exact (show FD K w.heap.size V.heap.size x y (⟨x,y,a.s,a.l⟩:T4) from ⟨M.held,M.tx,M.ty⟩).awayS E (by decide) (by decide) D|>.wide z2 (by omega)
  have H5:CD u W.heap.size u.heap.size (us++[⟨x,y,a.s,a.l⟩]):=CD.top (CD.snoc (M.held.awayS E (by decide) (by decide) D) z3 (H4.awayS E (by decide) (by decide) D) (AX _)) (by omega)
  have hp5:(us++[(⟨x,y,a.s,a.l⟩:T4)]).map vl=(ts.take (i+1)).map vl:=by
   rw [map_append,L,take_succ_eq_append_getElem o,map_append,← ha];rfl
  refine Ab O<|Bf<|Bn<|Ch<|Ac O<|B7 O (by omega)<|Ab O<|Bf ?_
  exact Ap (Pw.next ((i+1,Z,us++[⟨x,y,a.s,a.l⟩])) ⟨rfl,rfl,rfl,trivial⟩ (⟨o,B,d,H5,T5,hp5⟩) (by simp only;omega))
 intro g
 have o:i=ts.length:=by have:=AB g;omega
 rw [o,take_length] at L
 refine Bp<|Al<|Al<|Bd<|Cm<|Ac O<|Bk (Dl (vs:=[(77:Int)].map (Value.int .i64)) AC DI O O O O O) O ?_
 rintro m V ⟨F, -,b, -⟩
 have J:=bt C b
 have q:=AL e b
 have H3:=Y.bs b
 have T3:∀c ∈ us,FD V W.heap.size w.heap.size c.x c.y c:=fun c k=>(X c k).bs b
 have z3:=b.size
 refine Aa (C4 (vs:=[(0,m)]) (cs:=[m, .slice none 0 0]) O (VR m (SO (AI F)))) O<|Bk (Dw (cs:=[m, .slice none 0 0]) AR AY O O (by decide) (by decide)) O ?_
 rintro p K ⟨I, -,b, -⟩
 have s:=bt J b
 have f:=AL q b
 have U:=AL F b
 have H4:=H3.bs b
 have H:∀c ∈ us,FD K W.heap.size w.heap.size c.x c.y c:=fun c k=>(T3 c k).bs b
 have z4:=b.size
 refine Bk (Di (base:=W.heap.size) AR AY O (by decide) O O f (AI I) (by rw [all_cons,(AI F).one'];rfl) (by omega) (by omega) s.size) O ?_
 rintro Z u ⟨d,b,D, -⟩
 have B:=s.trans b
 have z5:=b.size
 have E:BM K W.heap.size 33 2 r i (cellsOf us):= .inl f
 have Q:=MF U E (by decide) D
 have T5:∀c ∈ us,FD u W.heap.size u.heap.size c.x c.y c:=fun c k=>((H c k).awayS E (by decide) (by decide) D).wide (AX _) (by omega)
 have H5:CD u W.heap.size u.heap.size us:=CD.top (H4.awayS E (by decide) (by decide) D) (by omega)
 have T:=AI d
 rw [show i+1=us.length+1 by omega] at d
 have hS:=Q3 d
 have sv5:=sv.bs B
 have hR:Hc u W.heap.size u.heap.size (cut Z 2 0 us.length) us:=⟨H5,T5,⟨m,hS,AQ Q⟩,AG (hS.own (GL us))⟩
 rw [show us.length=ts.length by omega] at hR
 refine Ac O<|Aa (Au AR O ‹_›) O ?_
 refine Aa (Ey (j:=ts.length) AR O O T (by omega)) O<|Ab O<|Bc<|Ax O O ?_
 exact ⟨B,us,hR,L⟩
theorem Ts (r v:Value) (us ts:List T4) (G J:Nat) (W:World) (h:Hc W G J r us) (R:CN W v ts) (e:us.map vl=ts.map vl):
  AM prog 13 [r,v] W (fun r C=>r= .bool true∧Below W.heap.size W C):=by
 have Y:=R.1
 have hle:=Y.le
 have L:=AI h.own
 have A:us.length=ts.length:=by have:=cngA length e;simpa using this
 obtain ⟨m,hS,B⟩:=h.m
 obtain ⟨b,cap,rfl,X⟩:=hS
 have V:us.length+1≤cap∧cap≤9223372036854775807:=by
  obtain ⟨_,ao,Q,he,h1,h2,_⟩:=AI X
  cases he;unfold maxLen at h2;exact ⟨h1,by omega⟩
 refine Bb (n:=55) func13 O<|Af<|Ab O<|Bh<|Ac O<|Aa (Au AR O ‹_›) O ?_
 refine Ac O<|Aa (Au AR O ‹_›) O ?_
 refine Aa (Cs O O) O<|Ac O<|C5 12 (v' := .bool false) O (cngA Value.bool ((by simp [A])))<|Ag (dj:=12) O O<|Ac O<|Ag (dj:=12) O O<|Aa (Fg AR O) O<|Ag (dj:=12) O O<|Ac O<|Ag (dj:=12) O O<|Aa (Au AR O ‹_›) O ?_
 refine Ag (dj:=12) O O<|Aa (D8 O O) O<|Cn O<|Ak<|Ca O false ((by simp;omega))<|B0<|An<|Af<|Ab O<|Ak<|Ao ?_
 refine Bq (S:=Nat) (fun k=>[(0, .slice (some ⟨b,0,none⟩) us.length cap),(1,v),(5, .int .i64 (k:Int))]) (fun k C=>k≤ts.length∧Below W.heap.size W C) (fun k=>ts.length - k) (0) ⟨rfl,rfl,rfl,trivial⟩ ?_ ?_
 ·exact ⟨by omega,Below.refl _ _⟩
 rintro k u ⟨hk,d⟩
 have y:=Y.bs d
 have z:=L.bs d
 refine An<|Af<|Ac O<|Ac O<|Aa (Au AR O ‹_›) O ?_
 refine B3 O<|Ak<|Aq O ?_ ?_
 ·intro g
  have i:k<ts.length:=by have:=AD g;omega
  have o:k<us.length:=by omega
  obtain ⟨a,K⟩:∃a,a=ts[k]:=⟨_,rfl⟩
  obtain ⟨c,H⟩:∃c,c=us[k]:=⟨_,rfl⟩
  have E:a ∈ ts:=K ▸ getElem_mem i
  have D:c ∈ us:=H ▸ getElem_mem o
  have w:=Jd i
  rw [← K] at w
  have x:=Jd o
  rw [← H] at x
  have ev:vl c=vl a:=by
   have e1:(us.map vl)[k]? =(ts.map vl)[k]? :=by rw [e]
   rw [getElem?_map,getElem?_map,getElem?_eq_getElem o,getElem?_eq_getElem i,← K,← H] at e1
   exact Option.some.inj e1
  have Z:c.s=a.s:=cngA Prod.fst ev
  have U:c.l=a.l:=cngA Prod.snd ev
  have s:=(h.tw c D).bs d
  have F:FD u G J c.x c.y a:=⟨⟨by have:=s.held.rx;rw [Z] at this;exact this,by have:=s.held.ry;rw [U] at this;exact this,s.held.bx,s.held.by',s.held.apart⟩,Z ▸ s.tx,U ▸ s.ty⟩
  refine B0<|An<|Ao<|An<|Cw.tail 8 AS (by kernel_rfl)<|Bg O<|Bg O<|Ad (fun u l=>Ci AR O O (Sl.bs z l) k O o) O<|Ad (fun u l=>Cq (cs:=[c.x,c.y]) (AT _) (AP _) O (Sl.bs z l) O (by decide) x) O<|Bg O<|Bg O<|Ad (fun u l=>Ci AR O O (Sl.bs y l) k O i) O<|Ad (fun u l=>Cq (cs:=[a.x,a.y]) (AT _) (AP _) O (Sl.bs y l) O (by decide) w) O ?_
  refine Dc (fun w2 l=> ?_)
  refine Aj O O (JI a c.x c.y G J w2 (((R.2 a E).bs d).bs l) (F.bs l)) ?_
  rintro _ w3 ⟨rfl,t⟩
  have t:=bt l t
  have I:=bt d t
  refine Aa (Ck O) O<|Ak<|Ca O false ((by simp))<|Cp<|Bn<|Ch<|Ac O<|B7 O (by omega)<|Ab O<|Bf ?_
  exact Ap (Pw.next (k+1) ⟨rfl,rfl,rfl,trivial⟩ (⟨by omega,I⟩) (by omega))
 ·intro g
  have i:k=ts.length:=by have:=AB g;omega
  subst i
  have f:=AI (AL X d)
  have q:=B.bs d
  have M:=GL us
  have N:(cellsOf us++[m,Value.slice none 0 0])[us.length*2]? =some m:=by rw [getElem?_append_right (by omega),M,Nat.sub_self];rfl
  have e1:(cellsOf us++[m,Value.slice none 0 0])[us.length*2+1]? =some (.slice none 0 0):=by rw [getElem?_append_right (by omega),M,Nat.add_sub_cancel_left];rfl
  rw [A] at f N e1
  refine Bp<|Al<|Al<|Bd<|Cm<|Ac O<|Ac O<|Aa (Au AR O ‹_›) O ?_
  refine B7 O (by omega)<|Aa (Ew (j:=ts.length+1) AR O O (by omega)) O<|Ac O<|Aa (Au AR O ‹_›) O ?_
  refine Aa (Ci AR O O f ts.length O (by omega)) O<|Aa (Cq (cs:=[m, .slice none 0 0]) (AT _) (AP _) O f O (by decide) (FA N e1)) O<|C1 (cs:=[m, .slice none 0 0]) AY O O O O (fun _=>rfl) ((by rw [all_cons,q.one'];rfl)) ?_
  rintro A_m w2 T b_m t zhn
  have p:=q.bs t
  refine Bl<|Be underlying33 O (AN _)<|Aa (Ah (AF _) O ‹_› rfl) O ?_
  refine Aa (Au AC O ‹_›) O ?_
  refine Aa (Da O O) O<|Ac O<|C5 48 (v' := .bool true) O (cngA Value.bool (rfl))<|Ag (dj:=48) O O<|Be underlying33 O (AN _)<|Ag (dj:=48) O O<|Aa (Ah (AF _) O ‹_› rfl) O ?_
  refine Ag (dj:=48) O O<|Aa (Ay AC O O p 0 O (by decide)) O<|Ag (dj:=48) O O<|Aa (Bj (AK _) O p (by decide)) O<|Ag (dj:=48) O O<|Aa (Da O O) O<|B4 O<|Ab O<|Bc<|Ax O O ?_
  exact ⟨cngA Value.bool (by simp),bt d t⟩
end Go.Proofs.YtmipoeanpnnjoaaGreatDoor

namespace Go.Proofs.YtmipoeanpnnjoaaGreatDoor
open Go Go.Dd Go.RowKit List Go.Proofs.Tryz
set_option maxRecDepth 100000
structure FV (w:World) (lo hi:Nat) (E:TypeId) (sz:Nat) (hs:List Hd):Prop where
 kept:FJ w lo E sz hs
 top:∀b,BL hs b→b<hi
theorem E4 (w:World) (a c:Nat) (E:TypeId) (sz:Nat):FV w a c E sz []:=⟨FJ.nil _ _ _ _,fun b ⟨_,h,_⟩=>by cases h⟩
theorem FV.low {w:World} {a c:Nat} {E:TypeId} {sz:Nat} {hs:List Hd} (h:FV w a c E sz hs) {b:Nat} (e:BL hs b):a≤b:=(h.kept.blk e).1
theorem FV.below {w c:World} {d a B:Nat} {E:TypeId} {sz:Nat} {hs:List Hd} (h:FV w d a E sz hs) (g:Below B w c) (i:a≤B):FV c d a E sz hs:=
 ⟨⟨h.kept.toKOk,fun x f=>(h.kept.own x f).heap fun b e=>g.block b (by have:=h.top b ⟨x,f,e⟩;omega)⟩,h.top⟩
theorem FV.bs {w a:World} {b c:Nat} {E:TypeId} {sz:Nat} {hs:List Hd} (h:FV w b c E sz hs) (g:Below w.heap.size w a):FV a b c E sz hs:=⟨h.kept.bs g,h.top⟩
theorem FV.wide {w:World} {d f a c:Nat} {E:TypeId} {sz:Nat} {hs:List Hd} (h:FV w d f E sz hs) (g:a≤d) (j:f≤c):FV w a c E sz hs:=
 ⟨⟨h.kept.toKOk,fun x i=>(h.kept.own x i).mono g⟩,fun b e=>by have:=h.top b e;omega⟩
theorem FV.app {w:World} {a b c d:Nat} {E:TypeId} {sz:Nat} {hs i:List Hd} (h:FV w a b E sz hs) (k:FV w c d E sz i) (m:a≤c) (n:b≤c) (o:b≤d):FV w a d E sz (hs++i):=by
 have g:∀{P:Hd→Prop},(∀x ∈ hs,P x)→(∀x ∈ i,P x)→∀x ∈ hs++i,P x:=fun p q x f=>(List.mem_append.1 f).elim (p x) (q x)
 refine ⟨⟨⟨g h.kept.num k.kept.num,g h.kept.few k.kept.few,List.pairwise_append.2 ⟨h.kept.apart,k.kept.apart,fun x f y l e e1 e2=> ?_⟩,g h.kept.new k.kept.new⟩,g h.kept.own fun x f=>(k.kept.own x f).mono m⟩,fun e ⟨x,f,j⟩=> ?_⟩
 ·have:=h.top e ⟨x,f,e1⟩
  have:=k.low ⟨y,l,e2⟩
  omega
 ·rcases List.mem_append.1 f with f|f
  ·have:=h.top e ⟨x,f,j⟩;omega
  ·exact k.top e ⟨x,f,j⟩
theorem FV.one {w:World} {d f:Nat} {E:TypeId} {sz k:Nat} {v:Value} {xs:List Value} {n:Int} (h:BM w d E sz v k xs) (i:∀b,v.ownBlock=some b→b<f) (j:0≤n) (c:n≤4000000) (g:k≤16777216):FV w d f E sz [CL v k xs n]:=
 ⟨⟨⟨fun x a=>by rw [List.mem_singleton.1 a];exact ⟨j,c⟩,fun x a=>by rw [List.mem_singleton.1 a];exact g,pairwise_singleton _ _,fun x a=>by rw [List.mem_singleton.1 a]⟩,fun x a=>by rw [List.mem_singleton.1 a];exact h⟩,fun b ⟨x,a,e⟩=>by rw [List.mem_singleton.1 a] at e;exact i b e⟩
theorem FV.cons {w:World} {a b c d:Nat} {E:TypeId} {sz:Nat} {x:Hd} {e:List Hd} (h:FV w a b E sz [x]) (k:FV w c d E sz e) (g:a≤c) (f:b≤c) (i:b≤d):FV w a d E sz (x::e):=h.app k g f i
theorem CD.kin:∀{w:World} {cs:List T4} {base a:Nat} (_:CD w base a cs) {n:Int},0≤n→n+2*cs.length≤4000000→(∀c ∈ cs,c.s.length≤16777216∧c.l.length≤16777216)→FV w base a 3 1 (R9 n cs)∧FV w base a 21 1 (R8 n cs)
 |_,[],_,_,_,_,_,_,_=>⟨E4 _ _ _ _ _,E4 _ _ _ _ _⟩
 |w,c::cs,base,a,⟨lo,hi,h1,h2,h3,h4⟩,n,n0,n1,hk=>by
  simp only [length_cons] at n1
  obtain ⟨g,h⟩:=h4.kin (n:=n+2) (by omega) (by omega) fun d f=>hk d (by simp [f])
  have:=hk c (by simp)
  have:=h4.le
  exact ⟨((FV.one h3.rx (fun b e=>(h3.bx b e).2) (by omega) (by omega) (by omega)).cons g (by omega) (AX _) (by omega)).wide h1 (AX _),((FV.one h3.ry (fun b e=>(h3.by' b e).2) (by omega) (by omega) (by omega)).cons h (by omega) (AX _) (by omega)).wide h1 (AX _)⟩
theorem EH {w:World} {a b c d:Nat} {E T:TypeId} {sz j:Nat} {hs f:List Hd} (h:FV w a b E sz hs) (k:FV w c d T j f) (e:E≠T):∀x,BL hs x→¬BL f x:=fun x ⟨y,i,e1⟩ ⟨z,m,e2⟩=>by
 obtain ⟨cs,l⟩:=(h.kept.own y i).ty e1
 obtain ⟨ds,g⟩:=(k.kept.own z m).ty e2
 exact e (Lf l g)
theorem Uo (w:World) (a A base:Nat) (n:Int) (j k l i f:List Hd) (q s o p m:Value) (h:Bm w a A n j k l i f q s o p m) (e:FV w base a 5 1 j) (d:FV w base a 3 1 k) (kn:FV w base a 21 1 l) (c:FV w base a 33 2 i) (b:FV w base a 25 5 f) (g:base≤a):
  AM prog 17 [.pointer (some ⟨A,0,none⟩)] w (fun r t=>r= .bool true∧Below base w t):=
 VV w a A base n j k l i f q s o p m h e.kept d.kept kn.kept c.kept b.kept e.top d.top kn.top c.top b.top (EH e d (by decide)) (EH e kn (by decide)) (EH e c (by decide)) (EH e b (by decide)) (EH d kn (by decide)) (EH d c (by decide)) (EH d b (by decide)) (EH kn c (by decide)) (EH kn b (by decide)) (EH c b (by decide)) g
theorem XA {w:World} {A:Nat} (h:AO w A BO (.int .i64 0::replicate 15 (.slice none 0 0))):Bm w A A 0 [] [] [] [] [] (.slice none 0 0) (.slice none 0 0) (.slice none 0 0) (.slice none 0 0) (.slice none 0 0):=
 ⟨h,⟨rfl, .inl ⟨rfl,rfl⟩⟩,⟨rfl, .inl ⟨rfl,rfl⟩⟩,⟨rfl, .inl ⟨rfl,rfl⟩⟩,⟨rfl, .inl ⟨rfl,rfl⟩⟩,⟨rfl, .inl ⟨rfl,rfl⟩⟩,AX _,(by rintro ⟨⟩),(by rintro ⟨⟩),(by rintro ⟨⟩),(by rintro ⟨⟩),(by rintro ⟨⟩),(fun b e=>by cases e),(fun b e=>by cases e),(fun b e=>by cases e),(fun b e=>by cases e),(fun b e=>by cases e),(fun b e=>by cases e),(fun b e=>by cases e),(fun b e=>by cases e),(fun b e=>by cases e),(fun b e=>by cases e),rfl⟩

theorem PF (a:N5) (x y:Value) (g o:Nat) (W:World) (d:N5.at W a) (h:FI W g o x y a):AM prog 12 [(N5.mk a.k x y a.i a.s a.n a.p).v,a.v] W (fun r k=>r= .bool true∧Below W.heap.size W k):=by
 have e:=Below.refl W.heap.size W
 refine Bb (n:=38) func12 O<|Af<|B5 (cs:=(N5.mk a.k x y a.i a.s a.n a.p).cells) O O O ?_
 rintro l w j c b -
 have e:=e.bs b
 have d:=d.bs b
 have h:=h.bs b
 refine B5 (cs:=a.cells) O O O ?_
 rintro m w i f b -
 have e:=e.bs b
 have d:=d.bs b
 have h:=h.bs b
 have c:=c.bs b
 refine Ab O<|Bl<|Be underlying25 O (DF _)<|Aa (Ah (DG _) O ‹_› rfl) O ?_
 refine Be underlying25 O (DF _)<|Aa (Ah (DG _) O ‹_› rfl) O ?_
 refine Aa (Cl O O) O<|Ac O<|C5 10 (v' := .bool true) O (cngA Value.bool ((by simp)))<|Ag (dj:=10) O O<|Be underlying25 O (AN _)<|Ag (dj:=10) O O<|Aa (Ah (AF _) O ‹_› rfl) O ?_
 refine Ag (dj:=10) O O<|Be underlying25 O (AN _)<|Ag (dj:=10) O O<|Aa (Ah (AF _) O ‹_› rfl) O ?_
 refine Ag (dj:=10) O O<|Aj O O (Jp x a.x a.i g _ h.tx d.i) ?_
 rintro _ w ⟨rfl,b⟩
 have e:=e.bs b
 have d:=d.bs b
 have h:=h.bs b
 have c:=c.bs b
 have f:=f.bs b
 refine B4 O<|Ac O<|C5 17 (v' := .bool true) O (cngA Value.bool (rfl))<|Ag (dj:=17) O O<|Be underlying25 O (AN _)<|Ag (dj:=17) O O<|Aa (Ah (AF _) O ‹_› rfl) O ?_
 refine Ag (dj:=17) O O<|Be underlying25 O (AN _)<|Ag (dj:=17) O O<|Aa (Ah (AF _) O ‹_› rfl) O ?_
 refine Ag (dj:=17) O O<|Aj O O (Jp y a.y a.s g _ h.ty d.s) ?_
 rintro _ w ⟨rfl,b⟩
 have e:=e.bs b
 have d:=d.bs b
 have h:=h.bs b
 have c:=c.bs b
 have f:=f.bs b
 refine B4 O<|Ac O<|C5 24 (v' := .bool true) O (cngA Value.bool (rfl))<|Ag (dj:=24) O O<|Be underlying25 O (BA _)<|Ag (dj:=24) O O<|Aa (Ah (AK _) O ‹_› rfl) O ?_
 refine Ag (dj:=24) O O<|Be underlying25 O (BA _)<|Ag (dj:=24) O O<|Aa (Ah (AK _) O ‹_› rfl) O ?_
 refine Ag (dj:=24) O O<|Aa (Da O O) O<|B4 O<|Ac O<|C5 31 (v' := .bool true) O (cngA Value.bool ((by simp)))<|Ag (dj:=31) O O<|Be underlying25 O (BA _)<|Ag (dj:=31) O O<|Aa (Ah (AK _) O ‹_› rfl) O ?_
 refine Ag (dj:=31) O O<|Be underlying25 O (BA _)<|Ag (dj:=31) O O<|Aa (Ah (AK _) O ‹_› rfl) O ?_
 exact Ag (dj:=31) rfl rfl<|Aa (Da rfl rfl) rfl<|B4 rfl<|Ab rfl<|Bc<|Ax rfl rfl<|⟨cngA Value.bool (by simp),e⟩
theorem FI.kin {w:World} {i j:Nat} {x y:Value} {a:N5} (h:FI w i j x y a) {n:Int} (l:0≤n) (k:n+2≤4000000) (g:a.i.length≤16777216) (hs:a.s.length≤16777216):FV w i j 3 1 [CL x a.i.length (a.i.map (Value.int .i64)) (n+1),CL y a.s.length (a.s.map (Value.int .i64)) (n+2)]:=by
 have d:=FV.one (n:=n+1) (.inl h.tx.own) (fun b e=>(h.bx b e).2) (by omega) (by omega) g
 have f:=FV.one (n:=n+2) (.inl h.ty.own) (fun b e=>(h.by' b e).2) (by omega) (by omega) hs
 refine ⟨⟨⟨?_, ?_,List.Pairwise.cons ?_ (pairwise_singleton _ _), ?_⟩, ?_⟩, ?_⟩
 ·intro z c
  rcases List.mem_cons.1 c with rfl|c
  ·exact d.kept.num _ (List.mem_singleton.2 rfl)
  ·exact f.kept.num _ c
 ·intro z c
  rcases List.mem_cons.1 c with rfl|c
  ·exact d.kept.few _ (List.mem_singleton.2 rfl)
  ·exact f.kept.few _ c
 ·intro z c
  rw [List.mem_singleton.1 c]
  exact fun b e1 e2=>h.apart b e1 e2
 ·intro z c
  rcases List.mem_cons.1 c with rfl|c
  ·rfl
  ·rw [List.mem_singleton.1 c]
 ·intro z c
  rcases List.mem_cons.1 c with rfl|c
  ·exact d.kept.own _ (List.mem_singleton.2 rfl)
  ·exact f.kept.own _ c
 ·rintro b ⟨z,c,e⟩
  rcases List.mem_cons.1 c with rfl|c
  ·exact (h.bx b e).2
  ·rw [List.mem_singleton.1 c] at e
   exact (h.by' b e).2
end Go.Proofs.YtmipoeanpnnjoaaGreatDoor

namespace Go.Proofs.YtmipoeanpnnjoaaGreatDoor
open Go Go.Dd Go.RowKit Go.Proofs.Tryz
open List hiding all
set_option maxRecDepth 100000
def nl (a:N5):BitVec 8×List Int×List Int×Int×Int:=(a.k,a.i,a.s,a.n,a.p)
def BR (w:World):Nat→Nat→List N5→Prop
 |base,top,[]=>base≤top
 |base,top,c::cs=>∃lo hi,base≤lo∧lo≤hi∧FI w lo hi c.x c.y c∧BR w hi top cs
theorem BR.le:∀{w:World} {cs:List N5} {base a:Nat},BR w base a cs→base≤a
 |_,[],_,_,h=>h
 |_,_::_,_,_,⟨_,_,h1,h2,_,h3⟩=>by have:=h3.le;omega
theorem BR.bs {w b:World} (g:Below w.heap.size w b):∀{cs:List N5} {base a:Nat},BR w base a cs→BR b base a cs
 |[],_,_,h=>h
 |_::_,_,_,⟨lo,hi,h1,h2,h3,h4⟩=>⟨lo,hi,h1,h2,h3.bs g,BR.bs g h4⟩
theorem FI.awayS {w e:World} {i j a:Nat} {T:TypeId} {q x y:Value} {b m:Nat} {k:List Value} {c:N5} (h:FI w i j x y c) (d:BM w a T b q m k) (f:3≠T) (g:w.grownBy e q.ownBlock):FI e i j x y c:=
 ⟨Twn.awayS h.tx d f g,Twn.awayS h.ty d f g,h.bx,h.by',h.apart⟩
theorem BR.awayS {w e:World} {a:Nat} {T:TypeId} {q:Value} {c m:Nat} {i:List Value} (d:BM w a T c q m i) (f:3≠T) (g:w.grownBy e q.ownBlock):∀{cs:List N5} {base b:Nat},BR w base b cs→BR e base b cs
 |[],_,_,h=>h
 |_::_,_,_,⟨lo,hi,q1,q2,q3,q4⟩=>⟨lo,hi,q1,q2,q3.awayS d f g,BR.awayS d f g q4⟩
theorem BR.snoc {w:World} {c:N5} {b d:Nat} (f:FI w b d c.x c.y c) (e:b≤d):∀{cs:List N5} {base a:Nat},BR w base a cs→a≤b→BR w base d (cs++[c])
 |[],_,_,h,ht=>⟨b,d,Nat.le_trans h ht,e,f,AX _⟩
 |_::_,_,_,⟨l1,h1,q1,q2,q3,q4⟩,ht=>⟨l1,h1,q1,q2,q3,BR.snoc f e q4 ht⟩
theorem BR.top {w:World} {b:Nat}:∀{cs:List N5} {base a:Nat},BR w base a cs→a≤b→BR w base b cs
 |[],_,_,h,ht=>Nat.le_trans h ht
 |_::_,_,_,⟨l1,h1,q1,q2,q3,q4⟩,ht=>⟨l1,h1,q1,q2,q3,BR.top q4 ht⟩
theorem FI.wide {w:World} {g i a d:Nat} {x y:Value} {c:N5} (h:FI w g i x y c) (f:a≤g) (j:i≤d):FI w a d x y c:=
 ⟨Jy h.tx f,Jy h.ty f,fun b e=>by have:=h.bx b e;omega,fun b e=>by have:=h.by' b e;omega,h.apart⟩
theorem BR.each:∀{w:World} {cs:List N5} {base b:Nat},BR w base b cs→∀c ∈ cs,FI w base b c.x c.y c
 |_,[],_,_,_=>fun c a=>by cases a
 |_,d::ds,_,_,⟨lo,hi,h1,h2,h3,h4⟩=>fun c a=>by
  have:=h4.le
  rcases List.mem_cons.1 a with rfl|a
  ·exact h3.wide h1 (by omega)
  ·exact (h4.each c a).wide (by omega) (AX _)
def RT (n:Int):List N5→List Hd
 |[]=>[]
 |t::ts=>CL t.x t.i.length (t.i.map (Value.int .i64)) (n+1)::CL t.y t.s.length (t.s.map (Value.int .i64)) (n+2)::RT (n+2) ts
theorem OA (t:N5):∀(ts:List N5) (n:Int),RT n (ts++[t])=RT n ts++[CL t.x t.i.length (t.i.map (Value.int .i64)) (n+2*ts.length+1),CL t.y t.s.length (t.s.map (Value.int .i64)) (n+2*ts.length+2)]
 |[],n=>by simp [RT]
 |a::ts,n=>by
  simp only [cons_append,RT,OA t ts (n+2),length_cons]
  rw [show n+2+2*(ts.length:Int)+1=n+2*((ts.length+1:Nat):Int)+1 by omega,show n+2+2*(ts.length:Int)+2=n+2*((ts.length+1:Nat):Int)+2 by omega]
theorem BR.kin:∀{w:World} {cs:List N5} {base a:Nat} (_:BR w base a cs) {n:Int},0≤n→n+2*cs.length≤4000000→(∀c ∈ cs,c.i.length≤16777216∧c.s.length≤16777216)→FV w base a 3 1 (RT n cs)
 |_,[],_,_,_,_,_,_,_=>E4 _ _ _ _ _
 |w,c::cs,base,a,⟨lo,hi,h1,h2,h3,h4⟩,n,n0,n1,hk=>by
  simp only [length_cons] at n1
  have f:=h4.kin (n:=n+2) (by omega) (by omega) fun d e=>hk d (by simp [e])
  have b:=hk c (by simp)
  have:=h4.le
  exact ((h3.kin (n:=n) n0 (by omega) b.1 b.2).app f (by omega) (AX _) (by omega)).wide h1 (AX _)
structure EC (w:World) (lo hi:Nat) (r:Value) (us:List N5):Prop where
 all:BR w lo hi us
 m:OW w lo GC 5 r us.length (Hg N5.cells us) [b8 0#8, .slice none 0 0, .slice none 0 0, .int .i64 77, .int .i64 0]
 rb:∀b,r.ownBlock=some b→lo≤b∧b<hi
theorem EC.bs {w a:World} {c b:Nat} {r:Value} {us:List N5} (h:EC w c b r us) (g:Below w.heap.size w a):EC a c b r us:=⟨h.all.bs g,h.m.bs g,h.rb⟩
theorem LZ (us:List N5):(Hg N5.cells us).length=us.length*5:=by
 induction us with
 |nil=>rfl
 |cons a us ih=>rw [H0,length_append,ih,Ek,length_cons];omega
theorem EC.own {w:World} {a b:Nat} {r:Value} {us:List N5} (h:EC w a b r us):w.ownsRow a GC 5 r us.length (Hg N5.cells us):=h.m.own (LZ us)
theorem EC.gn {w:World} {b d:Nat} {r:Value} {us:List N5} (h:EC w b d r us):GN w r us:=⟨AI h.own,fun c a=>⟨(h.all.each c a).tx.sl,(h.all.each c a).ty.sl⟩⟩
theorem RO:Tryz.prog.built GC [(3, .int .i64 77)]=some [b8 0#8, .slice none 0 0, .slice none 0 0, .int .i64 77, .int .i64 0].toArray:=by
 have a:Tryz.prog.info? GC=some Tryz.t25:=by kernel_rfl
 have b:Tryz.prog.info? 3=some Tryz.t3:=by kernel_rfl
 have d:Tryz.prog.info? 22=some Tryz.t22:=by kernel_rfl
 have c:Tryz.prog.info? 23=some Tryz.t23:=by kernel_rfl
 simp [Program.built,a,underlying25,b,d,c,Instr.fill]
 rfl
theorem TO (a b:List N5):Hg N5.cells (a++b)=Hg N5.cells a++Hg N5.cells b:=by simp [Hg]
theorem NX (v:Value) (f:List N5) (W:World) (h:GN W v f) (hb:∀t ∈ f,t.i.length≤4194304∧t.s.length≤4194304) (hl:f.length≤2097152):
  AM prog 100 [v] W (fun r u=>Below W.heap.size W u∧∃us,EC u W.heap.size u.heap.size r us∧us.map nl=f.map nl):=by
 have sv:=h.sl
 refine Bb (n:=30) func100 O<|Af<|Ab O<|Bl<|Ac O<|Aa (Au BQ O ‹_›) O ?_
 refine B7 O (by omega)<|Bk (Ed (l:=0) (c:=f.length+1) BQ GD O O O (by omega) (by omega) (by omega)) O ?_
 rintro r0 w1 ⟨e, -,s, -⟩
 replace e:w1.ownsRow W.heap.size GC 5 r0 0 []:=e
 refine Ab O<|Bh<|Ab O<|Ak<|Ao ?_
 refine Bq (S:=(Nat×Value×List N5)) (fun z=>[(0,v),(3,z.2.1),(4, .int .i64 (z.1:Int))]) (fun z u=>z.1≤f.length∧Below W.heap.size W u∧u.ownsRow W.heap.size GC 5 z.2.1 z.1 (Hg N5.cells z.2.2)∧BR u W.heap.size u.heap.size z.2.2∧z.2.2.map nl=(f.take z.1).map nl) (fun z=>f.length - z.1) ((0,r0,[])) ⟨rfl,rfl,rfl,trivial⟩ ?_ ?_
 ·exact ⟨Nat.zero_le _,s,e,s.size,rfl⟩
 clear e s
 rintro ⟨i,r,us⟩ H ⟨hi,s,e,K,C⟩
 replace hi:i≤f.length:=hi
 replace e:H.ownsRow W.heap.size GC 5 r i (Hg N5.cells us):=e
 replace K:BR H W.heap.size H.heap.size us:=K
 replace C:us.map nl=(f.take i).map nl:=C
 have F:=sv.bs s
 have z2:=s.size
 have lus:us.length=i:=by have:=cngA length C;rw [length_map,length_map,length_take] at this;omega
 refine An<|Af<|Ac O<|Ac O<|Aa (Au BQ O ‹_›) O ?_
 refine B3 O<|Ak<|Aq O ?_ ?_
 ·intro g
  have m:i<f.length:=by have:=AD g;omega
  obtain ⟨a,V⟩:∃a,a=f[i]:=⟨_,rfl⟩
  have w:a ∈ f:=V ▸ getElem_mem m
  have D:=h.cells m
  rw [← V] at D
  refine B0<|An<|Ao<|Bw<|Ac O<|Ac O<|Ac O<|Aa (Ci BQ O O F i O m) O<|Aa (Cq (cs:=a.cells) (EM _) (EJ _) O F O (by decide) D) O<|Aj O O (Pe a H ((h.each a w).bs s) (hb a w).1 (hb a w).2) ?_
  rintro _ w3 ⟨b,x,y,rfl,M⟩
  obtain ⟨c,J⟩:∃c:N5,c=⟨a.k,x,y,a.i,a.s,a.n,a.p⟩:=⟨_,rfl⟩
  rw [← J]
  have Y:=bt s b
  have E:=AL e b
  have H3:=K.bs b
  have z3:=b.size
  have X:FI w3 H.heap.size w3.heap.size c.x c.y c:=by rw [J];exact ⟨M.tx,M.ty,M.bx,M.by',M.apart⟩
  have Z:c.cells.all (·.oneCell')=true:=by rw [J];exact (M.at a.k a.n a.p).ones
  clear b M
  refine Bk (Dw (cs:=c.cells) BQ GD O O (by decide) (by decide)) O ?_
  rintro p N ⟨A, -,b, -⟩
  have o:=bt Y b
  have k:=AL E b
  have U:=H3.bs b
  have X:=X.bs b
  have z4:=b.size
  refine Bk (Di (base:=W.heap.size) BQ GD O (by decide) O O k (AI A) Z (by omega) (by omega) o.size) O ?_
  rintro Q B ⟨d,b,I, -⟩
  have q:=o.trans b
  have z5:=b.size
  have e1:Hg N5.cells (us++[c])=Hg N5.cells us++c.cells:=by rw [TO];simp [Hg]
  rw [← e1] at d
  have L:BM N W.heap.size GC 5 r i (Hg N5.cells us):= .inl k
  have T:BR B W.heap.size B.heap.size (us++[c]):=BR.top (BR.snoc (X.awayS L (by decide) I) z3 (U.awayS L (by decide) I) (AX _)) (by omega)
  have R:(us++[c]).map nl=(f.take (i+1)).map nl:=by
   rw [map_append,C,take_succ_eq_append_getElem m,map_append,← V,J];rfl
  refine Ab O<|Bf<|Bn<|Ch<|Ac O<|B7 O (by omega)<|Ab O<|Bf ?_
  exact Ap (Pw.next ((i+1,Q,us++[c])) ⟨rfl,rfl,rfl,trivial⟩ (⟨m,q,d,T,R⟩) (by simp only;omega))
 intro g
 have m:i=f.length:=by have:=AB g;omega
 rw [m,take_length] at C
 refine Bp<|Al<|Al<|Bd<|Cm<|Ac O<|Aa (C4 (vs:=[(3, .int .i64 77)]) (cs:=[b8 0#8, .slice none 0 0, .slice none 0 0, .int .i64 77, .int .i64 0]) O RO) O<|Bk (Dw (cs:=[b8 0#8, .slice none 0 0, .slice none 0 0, .int .i64 77, .int .i64 0]) BQ GD O O (by decide) (by decide)) O ?_
 rintro p N ⟨A, -,b, -⟩
 have o:=bt s b
 have k:=AL e b
 have U:=K.bs b
 have z4:=b.size
 refine Bk (Di (base:=W.heap.size) BQ GD O (by decide) O O k (AI A) O (by omega) (by omega) o.size) O ?_
 rintro Q B ⟨d,b,I, -⟩
 have q:=o.trans b
 have z5:=b.size
 have L:BM N W.heap.size GC 5 r i (Hg N5.cells us):= .inl k
 have T:BR B W.heap.size B.heap.size us:=BR.top (U.awayS L (by decide) I) (by omega)
 have G:=AI d
 rw [show i+1=us.length+1 by omega] at d
 have hS:=Q3 d
 have sv5:=sv.bs q
 have hR:EC B W.heap.size B.heap.size (cut Q 5 0 us.length) us:=⟨T,hS,AG (hS.own (LZ us))⟩
 rw [show us.length=f.length by omega] at hR
 refine Ac O<|Aa (Au BQ O ‹_›) O ?_
 refine Aa (Ey (j:=f.length) BQ O O G (by omega)) O<|Ab O<|Bc<|Ax O O ?_
 exact ⟨q,us,hR,C⟩
theorem Uh (x:Value) (c:x.cells=[x].toArray):Tryz.prog.built 64 [(0,x)]=some [x].toArray:=by
 have a:Tryz.prog.info? 64=some Tryz.t64:=by kernel_rfl
 have b:Tryz.prog.info? 62=some Tryz.t62:=by kernel_rfl
 simp [Program.built,a,underlying64,b,Instr.fill,c]
 rfl
theorem EC.by {w d:World} {t p A:Nat} {r:Value} {us:List N5} {T:TypeId} {cs:List Value} (h:EC w t p r us) (g:w.grownBy d (some A)) (b:AO w A T cs) (y:3≠T) (u:GC≠T):EC d t p r us:=by
 have o:∀{e:TypeId} {sz n:Nat} {v:Value} {xs:List Value} {B:Nat},e≠T→w.ownsRow B e sz v n xs→d.ownsRow B e sz v n xs:=fun j i=>EG i b j g
 have D:∀{cs:List N5} {base a:Nat},BR w base a cs→BR d base a cs:=by
  intro cs
  induction cs with
  |nil=>exact fun h=>h
  |cons c cs ih=>
   rintro base a ⟨l,k,x,E,f,C⟩
   have q:∀{z:Value} {s:List Int} {B:Nat},tI w B z s→tI d B z s:=fun ⟨m,cap,e,i⟩=>⟨m,cap,e,o y i⟩
   exact ⟨l,k,x,E,⟨q f.tx,q f.ty,f.bx,f.by',f.apart⟩,ih C⟩
 obtain ⟨m,cap,e,i⟩:=h.m
 exact ⟨D h.all,⟨m,cap,e,o u i⟩,h.rb⟩
theorem EC.wide {w:World} {i j a d:Nat} {r:Value} {us:List N5} (h:EC w i j r us) (f:a≤i) (g:j≤d):EC w a d r us:=by
 obtain ⟨b,cap,e,m⟩:=h.m
 have q:BR w a d us:=by
  cases hu:us with
  |nil=>have:=h.all;rw [hu] at this;exact Nat.le_trans f (Nat.le_trans this g)
  |cons c cs=>
   have:=h.all
   rw [hu] at this
   obtain ⟨l,k,o,s,p,n⟩:=this
   exact ⟨l,k,Nat.le_trans f o,s,p,BR.top n g⟩
 exact ⟨q,⟨b,cap,e,BH m f⟩,fun b e=>by have:=h.rb b e;omega⟩
theorem NY (v:Value) (f:List N5) (W:World) (h:GN W v f) (D:∀t ∈ f,t.i.length≤4194304∧t.s.length≤4194304) (F:f.length≤2097152):
  AM prog 19 [.agg [v].toArray] W (fun r g=>Below W.heap.size W g∧∃u us,r= .agg [u].toArray∧EC g W.heap.size g.heap.size u us∧us.map nl=f.map nl):=by
 have d:=Below.refl W.heap.size W
 have C:[v].all (·.oneCell')=true:=by rw [all_cons,h.sl.one'];rfl
 refine Bb (n:=7) func19 O<|Af<|B5 (cs:=[v]) O O O ?_
 rintro E w s c b -
 have d:=d.bs b
 have J:=AH c
 refine Cx Wp O ?_
 rintro A w z m b -
 have d:=d.bs b
 have c:=c.bs b
 refine Bl<|Be underlying64 O (CQ _)<|Aa (Ah (CZ _) O ‹_› rfl) O ?_
 have y:=AA d
 refine Aj O O (NX v f w (h.bs d) D F) ?_
 rintro u B ⟨b,us,o,G⟩
 have z1:=b.size
 have a:=m.bs b
 have i:u.cells=[u].toArray:=(AI o.own).one
 have j:=d.trans (b.mono y)
 refine Aa (C4 (cs:=[u]) O (Uh u i)) O<|Az (Bv (cs:=[u]) (k:=1) (by kernel_rfl) O O O (by rw [all_cons,(AI o.own).one'];rfl) a O) ?_
 rintro H ⟨x,l,I⟩
 have p:=j.grown l (by omega) (by rintro _ e;have:=Option.some.inj e;omega)
 have q:=(o.by l a (by decide) (by decide)).wide (show W.heap.size≤_ from y) (show B.heap.size≤H.heap.size from l.size)
 refine Bc<|Ee O O ‹_› underlying64 O O O ?_
 exact ⟨p,u,us,rfl,q,G⟩
theorem Ov (r v:Value) (us m:List N5) (V z:Nat) (W:World) (h:EC W V z r us) (I:GN W v m) (e:us.map nl=m.map nl):
  AM prog 108 [r,v] W (fun r G=>r= .bool true∧Below W.heap.size W G):=by
 have sv:=I.sl
 have hle:=sv.le
 have X:=AI h.own
 have w:us.length=m.length:=by have:=cngA length e;simpa using this
 obtain ⟨b,cap,rfl,ho⟩:=h.m
 have hcap:us.length+1≤cap∧cap≤9223372036854775807:=by
  obtain ⟨_,ao,Z,he,h1,h2,_⟩:=AI ho
  cases he;unfold maxLen at h2;exact ⟨h1,by omega⟩
 refine Bb (n:=47) func108 O<|Af<|Ab O<|Bh<|Ac O<|Aa (Au BQ O ‹_›) O ?_
 refine Ac O<|Aa (Au BQ O ‹_›) O ?_
 refine Aa (Cs O O) O<|Ac O<|C5 12 (v' := .bool false) O (cngA Value.bool ((by simp [w])))<|Ag (dj:=12) O O<|Ac O<|Ag (dj:=12) O O<|Aa (Fg BQ O) O<|Ag (dj:=12) O O<|Ac O<|Ag (dj:=12) O O<|Aa (Au BQ O ‹_›) O ?_
 refine Ag (dj:=12) O O<|Aa (D8 O O) O<|Cn O<|Ak<|Ca O false ((by simp;omega))<|B0<|An<|Af<|Ab O<|Ak<|Ao ?_
 refine Bq (S:=Nat) (fun k=>[(0, .slice (some ⟨b,0,none⟩) us.length cap),(1,v),(5, .int .i64 (k:Int))]) (fun k G=>k≤m.length∧Below W.heap.size W G) (fun k=>m.length - k) (0) ⟨rfl,rfl,rfl,trivial⟩ ?_ ?_
 ·exact ⟨by omega,Below.refl _ _⟩
 rintro k C ⟨hk,f⟩
 have y:=sv.bs f
 have B:=X.bs f
 refine An<|Af<|Ac O<|Ac O<|Aa (Au BQ O ‹_›) O ?_
 refine B3 O<|Ak<|Aq O ?_ ?_
 ·intro g
  have l:k<m.length:=by have:=AD g;omega
  have p:k<us.length:=by omega
  obtain ⟨a,T⟩:∃a,a=m[k]:=⟨_,rfl⟩
  obtain ⟨c,M⟩:∃c,c=us[k]:=⟨_,rfl⟩
  have K:a ∈ m:=T ▸ getElem_mem l
  have H:c ∈ us:=M ▸ getElem_mem p
  have t:=I.cells l
  rw [← T] at t
  have u:=h.gn.cells p
  rw [← M] at u
  have ev:nl c=nl a:=by
   have e1:(us.map nl)[k]? =(m.map nl)[k]? :=by rw [e]
   rw [getElem?_map,getElem?_map,getElem?_eq_getElem p,getElem?_eq_getElem l,← T,← M] at e1
   exact Option.some.inj e1
  have x:=(h.all.each c H).bs f
  obtain ⟨D,L,J,E,cs,cn,F⟩:=c
  obtain ⟨ak,Q,R,ai,as',an,ap⟩:=a
  simp only [nl,Prod.mk.injEq] at ev
  obtain ⟨rfl,rfl,rfl,rfl,rfl⟩:=ev
  refine B0<|An<|Ao<|An<|Cw.tail 8 AS (by kernel_rfl)<|Bg O<|Bg O<|Ad (fun C o=>Ci BQ O O (Sl.bs B o) k O p) O<|Ad (fun C o=>Cq (cs:=(N5.mk D L J E cs cn F).cells) (EM _) (EJ _) O (Sl.bs B o) O (by decide) u) O<|Bg O<|Bg O<|Ad (fun C o=>Ci BQ O O (Sl.bs y o) k O l) O<|Ad (fun C o=>Cq (cs:=(N5.mk D Q R E cs cn F).cells) (EM _) (EJ _) O (Sl.bs y o) O (by decide) t) O ?_
  refine Dc (fun U o=> ?_)
  refine Aj O O (PF ⟨D,Q,R,E,cs,cn,F⟩ L J V z U (((I.each _ K).bs f).bs o) (show FI U V z L J ⟨D,Q,R,E,cs,cn,F⟩ from ⟨x.tx.bs o,x.ty.bs o,x.bx,x.by',x.apart⟩)) ?_
  rintro _ w3 ⟨rfl,A⟩
  have A:=bt o A
  have N:=bt f A
  refine Aa (Ck O) O<|Ak<|Ca O false ((by simp))<|Cp<|Bn<|Ch<|Ac O<|B7 O (by omega)<|Ab O<|Bf ?_
  exact Ap (Pw.next (k+1) ⟨rfl,rfl,rfl,trivial⟩ (⟨by omega,N⟩) (by omega))
 ·intro g
  have l:k=m.length:=by have:=AB g;omega
  subst l
  have d:=AI (AL ho f)
  have lc:=LZ us
  obtain ⟨mk,s⟩:∃mk,mk=[b8 0#8,Value.slice none 0 0, .slice none 0 0, .int .i64 77, .int .i64 0]:=⟨_,rfl⟩
  have Y:∀i,i<5→∃q,mk[i]? =some q∧(Hg N5.cells us++mk)[us.length*5+i]? =some q:=fun i z=>by
   have hl:i<mk.length:=by rw [s];exact z
   exact ⟨mk[i],getElem?_eq_getElem hl,by rw [getElem?_append_right (by omega),lc,Nat.add_sub_cancel_left];exact getElem?_eq_getElem hl⟩
  rw [w] at d Y
  rw [← s] at d
  refine Bp<|Al<|Al<|Bd<|Cm<|Ac O<|Ac O<|Aa (Au BQ O ‹_›) O ?_
  refine B7 O (by omega)<|Aa (Ew (j:=m.length+1) BQ O O (by omega)) O<|Ac O<|Aa (Au BQ O ‹_›) O ?_
  refine Aa (Ci BQ O O d m.length O (by omega)) O<|Aa (Cq (cs:=mk) (EM _) (EJ _) O d (by rw [s];rfl) (by decide) Y) O ?_
  rw [s]
  refine C1 (cs:=[b8 0#8, .slice none 0 0, .slice none 0 0, .int .i64 77, .int .i64 0]) GD O O O O (fun _=>rfl) (rfl) ?_
  rintro A_m U eA_m b_m A zhn
  refine Bl<|Be underlying25 O (BA _)<|Aa (Ah (AK _) O ‹_› rfl) O ?_
  exact Aa (Da rfl rfl) rfl<|Ab rfl<|Bc<|Ax rfl rfl<|⟨cngA Value.bool (by simp),bt f A⟩
theorem Ox (r v:Value) (us g:List N5) (m o:Nat) (W:World) (h:EC W m o r us) (d:GN W v g) (e:us.map nl=g.map nl):
  AM prog 26 [.agg [r].toArray, .agg [v].toArray] W (fun r k=>r= .bool true∧Below W.heap.size W k):=by
 have c:=Below.refl W.heap.size W
 refine Bb (n:=10) func26 O<|Af<|B5 (cs:=[r]) O O O ?_
 rintro l w i b a -
 have c:=c.bs a
 have h:=h.bs a
 have d:=d.bs a
 refine B5 (cs:=[v]) O O O ?_
 rintro p w j f a -
 have c:=c.bs a
 have h:=h.bs a
 have d:=d.bs a
 have b:=b.bs a
 refine Ab O<|Bl<|Be underlying64 O (CQ _)<|Aa (Ah (CZ _) O ‹_› rfl) O ?_
 refine Be underlying64 O (CQ _)<|Aa (Ah (CZ _) O ‹_› rfl) O ?_
 refine Aj O O (Ov r v us g _ _ _ h d e) ?_
 rintro _ w ⟨rfl,a⟩
 have c:=c.bs a
 have h:=h.bs a
 have d:=d.bs a
 have b:=b.bs a
 have f:=f.bs a
 exact Ab rfl<|Bc<|Ax rfl rfl<|⟨rfl,c⟩
def N5.low (lo:Nat) (t:N5):Prop:=(∀b,t.x.ownBlock=some b→b<lo)∧∀b,t.y.ownBlock=some b→b<lo
theorem Xy {w d:World} {a:Nat} {v:Value} {c:List N5} (h:GN w v c) (f:∀b,v.ownBlock=some b→b<a) (e:∀t ∈ c,t.low a) (g:Below a w d):GN d v c:=
 ⟨CU h.sl f g,fun t m=>⟨CU (h.each t m).i (e t m).1 g,CU (h.each t m).s (e t m).2 g⟩⟩
theorem OR (w:World) (j A:Nat) (n:Int) (B F G x q:List Hd) (H W D E I v:Value) (c:List N5) (h:Bm w j A n B F G x q H W D E I) (U:GN w v c) (J:∀b,v.ownBlock=some b→b<j) (k:∀t ∈ c,t.low j) (hf:n+2*c.length≤3999980):
  AM prog 110 [.pointer (some ⟨A,0,none⟩),v] w (fun r s=>r= .tuple #[]∧Below j w s∧∃L l,Bm s j A (n+2*c.length+1) B (F++RT n c) G x (q++[CL v c.length (Hg N5.cells c) (n+2*c.length+1)]) H L D E l):=by
 have sv:=U.sl
 have hnn:=h.many
 refine Bb (n:=20) func110 O<|An<|Af<|Ab O<|Ak<|Ao ?_
 refine Bq (S:=(Nat×Value)) (fun z=>[(0, .pointer (some ⟨A,0,none⟩)),(1,v),(4, .int .i64 (z.1:Int))]) (fun z s=>z.1≤c.length∧Below j w s∧Bm s j A (n+2*z.1) B (F++RT n (c.take z.1)) G x q H z.2 D E I) (fun z=>c.length - z.1) ((0,W)) ⟨rfl,rfl,rfl,trivial⟩ ?_ ?_
 ·exact ⟨Nat.zero_le _,Below.refl _ _,by simpa [RT] using h⟩
 rintro ⟨i,R⟩ V ⟨K,T,p⟩
 dsimp only at K p ⊢
 have m:=Xy U J k T
 have o:=m.sl
 refine An<|Af<|Ac O<|Ac O<|Aa (Au BQ O ‹_›) O ?_
 refine B3 O<|Ak<|Aq O ?_ ?_
 ·intro g
  have d:i<c.length:=by have:=AD g;omega
  obtain ⟨a,Q⟩:∃a,a=c[i]:=⟨_,rfl⟩
  have y:a ∈ c:=Q ▸ getElem_mem d
  have u:=m.cells d
  rw [← Q] at u
  have C:=m.each a y
  refine B0<|An<|Ao<|Bw<|Ac O<|Ac O<|Ac O<|Aa (Ci BQ O O o i O d) O<|Aa (Cq (cs:=a.cells) (EM _) (EJ _) O o O (by decide) u) O<|Aj O O (Qk V j A (n+2*i) B _ G x q H R D E I (b8 a.k) a.x a.y (.int .i64 a.n) (.int .i64 a.p) a.i.length a.s.length _ _ p C.i C.s (k a y).2 (by omega)) ?_
  rintro _ X ⟨rfl,N,M,f⟩
  have Y:F++RT n (c.take (i+1))=F++RT n (c.take i)++[CL a.x a.i.length (a.i.map (Value.int .i64)) (n+2*i+1),CL a.y a.s.length (a.s.map (Value.int .i64)) (n+2*i+2)]:=by
   rw [take_succ_eq_append_getElem d,OA,← Q,length_take,Nat.min_eq_left (by omega),append_assoc]
  have Z:n+2*(i:Int)+2=n+2*((i+1:Nat):Int):=by omega
  rw [← Y,Z] at f
  refine Bf<|Bn<|Ch<|Ac O<|B7 O (by omega)<|Ab O<|Bf ?_
  exact Ap (Pw.next ((i+1,M)) ⟨rfl,rfl,rfl,trivial⟩ (⟨d,T.trans N,f⟩) (by simp only;omega))
 intro g
 have d:i=c.length:=by have:=AB g;omega
 subst d
 rw [take_length] at p
 refine Bp<|Al<|Al<|Bd<|Ch<|Ac O<|Ac O<|Aj O O (OT V j A (n+2*c.length) B _ G x q H R D E I v c.length (Hg N5.cells c) p o (by omega)) ?_
 rintro _ X ⟨rfl,hc,l,f⟩
 have l3:=p.low (fun b e=>(AG p.od b e).1) hc
 exact Bf<|C9 rfl<|⟨rfl,T.trans l3,R,l,f⟩
theorem OS (w:World) (f A:Nat) (n:Int) (m s c k i:List Hd) (u E p q C v:Value) (a:List N5) (h:Bm w f A n m s c k i u E p q C) (x:GN w v a) (o:∀b,v.ownBlock=some b→b<f) (g:∀t ∈ a,t.low f) (H:n+2*a.length≤3999980):
  AM prog 28 [.pointer (some ⟨A,0,none⟩), .agg [v].toArray] w (fun r B=>r= .tuple #[]∧Below f w B∧∃e d,Bm B f A (n+2*a.length+1) m (s++RT n a) c k (i++[CL v a.length (Hg N5.cells a) (n+2*a.length+1)]) u e p q d):=by
 have z:=h.size
 have y:=Below.refl w.heap.size w
 refine Bb (n:=8) func28 O<|Af<|B5 (cs:=[v]) O O O ?_
 rintro F w D I c -
 have y:=y.bs c
 have h:=h.bs c
 have x:=x.bs c
 clear c
 refine Ak<|Bw<|Ac O<|Be underlying64 O (CQ _)<|Aa (Ah (CZ _) O ‹_› rfl) O ?_
 have j:=y.mono (Nat.le_of_lt z)
 refine Aj O O (OR w f A n m s c k i u E p q C v a h x o g H) ?_
 rintro _ J ⟨rfl,l,e,d,G⟩
 exact Bf<|C9 rfl<|⟨rfl,j.trans l,e,d,G⟩
end Go.Proofs.YtmipoeanpnnjoaaGreatDoor

namespace Go.Proofs.YtmipoeanpnnjoaaGreatDoor
open Go Go.Dd Go.RowKit List Go.Proofs.Tryz
set_option maxRecDepth 100000
def Zl (p:BitVec 8×List Int×List Int×Int×Int):N5:=⟨p.1, .slice none 0 0, .slice none 0 0,p.2.1,p.2.2.1,p.2.2.2.1,p.2.2.2.2⟩
def nn (x:N5):N5:=Zl (nl x)
theorem QY:∀(b:List N5) (a:List (List Int)),DX a (b.map nn)=DX a b
 |[],_=>rfl
 |x::b,a=>by
  show (match I3 a x with|some s=>DX (a++[s]) (b.map nn)|none=>none)=match I3 a x with|some s=>DX (a++[s]) b|none=>none
  cases I3 a x with
  |none=>rfl
  |some s=>exact QY b _
theorem Qg (k:BitVec 8):∀b:List N5,((b.map nn).filter fun a=>decide (a.k=k)).length=(b.filter fun a=>decide (a.k=k)).length
 |[]=>rfl
 |x::b=>by
  have c:=Qg k b
  rw [map_cons,filter_cons,filter_cons,show (nn x).k=x.k from rfl]
  split
  ·rw [length_cons,length_cons,c]
  ·exact c
theorem Xx (a:List N5):ID (a.map nn)=ID a:=by
 unfold ID
 have e1:CM (a.map nn)=CM a:=Qg _ a
 have e2:((a.map nn).getD (a.length - 1) default).k=(a.getD (a.length - 1) default).k:=by
  rw [getD_eq_getElem?_getD,getD_eq_getElem?_getD,getElem?_map]
  cases a[a.length - 1]? <;>rfl
 rw [length_map,QY,e1,e2]
theorem Li:∀(c:List N5) (a b ws:List PV),FF a b ws (c.map nn)=FF a b ws c
 |[],_,_,_=>rfl
 |x::c,a,b,ws=>by
  have e:GQ (nn x) (Gz a (nn x))=GQ x (Gz a x):=rfl
  have d:Gz a (nn x)=Gz a x:=rfl
  rw [map_cons]
  simp only [FF,show (nn x).k=x.k from rfl,show (nn x).s=x.s from rfl,d]
  by_cases h1:x.k=1#8
  ·simp only [if_pos h1]
   cases b with
   |nil=>rfl
   |cons g b=>simp only [Li c]
  ·simp only [if_neg h1]
   by_cases h2:x.k=2#8
   ·simp only [if_pos h2]
    cases ws with
    |nil=>rfl
    |cons g b=>simp only [Li c]
   ·simp only [if_neg h2,Li c];rfl
theorem VW {us a:List N5} (h:us.map nl=a.map nl) (ws:List PV) (t:PV):FW us ws t=FW a ws t:=by
 have e:us.map nn=a.map nn:=by
  have:=cngA (map Zl) h
  rwa [map_map,map_map] at this
 have key:∀l:List N5,FW (l.map nn) ws t=FW l ws t:=fun l=>by
  unfold FW
  rw [Xx,Li,show HU (l.map nn)=HU l from Qg _ l]
 rw [← key us,e,key]
theorem JR:∀(l:List N5) (b f ws vs:List PV),(∀v ∈ b,tok v.1 v.2=true)→FF b f ws l=some vs→∀v ∈ vs,tok v.1 v.2=true
 |[],b,f,ws,vs,ht,h=>by cases h;exact ht
 |x::l,b,f,ws,vs,ht,h=>by
  have a:∀{t:PV},tok t.1 t.2=true→∀v ∈ b++[t],tok v.1 v.2=true:=fun {t} c v d=>by
   rcases List.mem_append.1 d with d|d
   ·exact ht v d
   ·rw [List.mem_singleton.1 d];exact c
  have e:∀{t:PV} {s:List Int},EN t s=true→tok t.1 t.2=true:=fun c=>by unfold EN at c;rw [Bool.and_eq_true] at c;exact c.1
  unfold FF at h
  split at h
  ·split at h
   ·split at h
    ·rename_i c;exact JR l _ _ _ vs (a (e c)) h
    ·cases h
   ·cases h
  ·split at h
   ·split at h
    ·split at h
     ·rename_i c;exact JR l _ _ _ vs (a (e c)) h
     ·cases h
    ·cases h
   ·split at h
    ·rename_i g
     exact JR l _ _ _ vs (a (Mc g).tok) h
    ·cases h
theorem Q8 {v:PV} (h:tok v.1 v.2=true):v.1.length≤16777216∧v.2.length≤16777216:=by
 obtain ⟨a,b⟩:=BJ h
 have:=((Shapes.ok_iff _).1 a).1
 have:=Shapes.size_le v.1
 omega
def Vd (R:Option (List PV)):Int:=if R.isSome then 0 else 1
def Pt (R:Option (List PV)):PV:=K6 (R.getD [])
theorem Yj (v:Value) (us:List N5) (u:Value) (ws:List T4) (t:T4) (R:Option (List PV)) (W:World) (h:GN W v us) (e:CN W u ws) (j:t.at W) (g:FW us (ws.map pv) (pv t)=R):
  AM prog 21 [.agg [v].toArray,u,t.v] W (fun r a=>Below W.heap.size W a∧∃c:T4,r= .tuple #[c.v, .int .i64 (Vd R)]∧IL a W.heap.size a.heap.size c∧pv c=Pt R):=by
 refine (Yk v us u ws t W h e j).mono fun r a ⟨i,b⟩=>⟨i, ?_⟩
 rw [g] at b
 cases R with
 |none=>exact ⟨⟨_,_,[],[]⟩,b,OB _ _ _,rfl⟩
 |some vs=>
  obtain ⟨c,d,M,f⟩:=b
  exact ⟨c,d,⟨M.row,M.col,M.row.lt,M.col.lt,M.apart⟩,f⟩
theorem WN (v:Value) (d:List N5) (u:Value) (ws:List T4) (t:T4) (R:Option (List PV)) (W:World) (h:GN W v d) (e:CN W u ws) (i:t.at W) (f:FW d (ws.map pv) (pv t)=R):
  AM prog 22 [.agg [v].toArray,u,t.v] W (fun r a=>Below W.heap.size W a∧∃c:T4,r= .tuple #[c.v, .int .i64 (Vd R)]∧c.at a∧pv c=Pt R):=by
 refine (WO v d u ws t W h e i).mono fun r a ⟨g,b⟩=>⟨g, ?_⟩
 rw [f] at b
 cases R with
 |none=>exact ⟨⟨_,_,[],[]⟩,b,(OB a 0 0).at,rfl⟩
 |some vs=>exact b
theorem YA (v:Value) (us:List N5) (u:Value) (ws:List T4) (t:T4) (R:Option (List PV)) (W:World) (h:GN W v us) (d:CN W u ws) (i:t.at W) (f:FW us (ws.map pv) (pv t)=R):
  AM prog 23 [.agg [v].toArray,u,t.v] W (fun r a=>Below W.heap.size W a∧∃q ts,r= .tuple #[q, .int .i64 (Vd R)]∧FT W a ts∧BM a W.heap.size Oc 2 q ts.length (cellsOf ts)∧ts.map pv=R.getD []):=by
 refine (Uq v us u ws t W h d i).mono fun r a ⟨g,b⟩=>⟨g, ?_⟩
 rw [f] at b
 cases R with
 |none=>exact ⟨_,[],b,⟨fun _ h=>(by cases h),List.Pairwise.nil⟩, .inl ⟨rfl, .inl ⟨rfl,rfl⟩⟩,rfl⟩
 |some vs=>
  obtain ⟨q,ts,c, -,e,k,j⟩:=b
  exact ⟨q,ts,c,e,k,j⟩
theorem WT (v:Value) (c:List N5) (u:Value) (ws:List T4) (t:T4) (R:Option (List PV)) (W:World) (h:GN W v c) (e:CN W u ws) (j:t.at W) (g:FW c (ws.map pv) (pv t)=R):
  AM prog 24 [.agg [v].toArray,u,t.v] W (fun r a=>Below W.heap.size W a∧∃q ts,r= .tuple #[q, .int .i64 (Vd R)]∧CN a q ts∧ts.map pv=R.getD []):=by
 refine (Tg v c u ws t W h e j).mono fun r a ⟨i,b⟩=>⟨i, ?_⟩
 rw [g] at b
 cases R with
 |none=>exact ⟨_,[],b,⟨C0 _ _,fun _ h=>(by cases h)⟩,rfl⟩
 |some vs=>
  obtain ⟨q,ts,d,f, -,k⟩:=b
  exact ⟨q,ts,d,f,k⟩
theorem TH:∀{cs:List T4} {n:Int} {h:Hd},h ∈ R9 n cs→∃c ∈ cs,h.v=c.x
 |c::cs,n,h,a=>by
  rcases List.mem_cons.1 a with rfl|a
  ·exact ⟨c,by simp,rfl⟩
  ·obtain ⟨d,b,e⟩:=TH a
   exact ⟨d,by simp [b],e⟩
theorem TG:∀{cs:List T4} {n:Int} {h:Hd},h ∈ R8 n cs→∃c ∈ cs,h.v=c.y
 |c::cs,n,h,a=>by
  rcases List.mem_cons.1 a with rfl|a
  ·exact ⟨c,by simp,rfl⟩
  ·obtain ⟨d,b,e⟩:=TG a
   exact ⟨d,by simp [b],e⟩
theorem FV.consP {w:World} {d f:Nat} {E:TypeId} {sz:Nat} {x:Hd} {c:List Hd} (h:FV w d f E sz [x]) (k:FV w d f E sz c) (i:∀y ∈ c,JX x.v y.v):FV w d f E sz (x::c):=by
 have a:∀{P:Hd→Prop},(∀y ∈ [x],P y)→(∀y ∈ c,P y)→∀y ∈ x::c,P y:=fun p q y b=>(List.mem_cons.1 b).elim (fun e=>p y (by rw [e];simp)) (q y)
 refine ⟨⟨⟨a h.kept.num k.kept.num,a h.kept.few k.kept.few,List.Pairwise.cons i k.kept.apart,a h.kept.new k.kept.new⟩,a h.kept.own k.kept.own⟩,fun e ⟨y,b,g⟩=> ?_⟩
 rcases List.mem_cons.1 b with rfl|b
 ·exact h.top e ⟨y,by simp,g⟩
 ·exact k.top e ⟨y,b,g⟩
theorem FT.kin {W w:World}:∀{cs:List T4} (_:FT W w cs) {n:Int},0≤n→n+2*cs.length≤4000000→(∀c ∈ cs,c.s.length≤16777216∧c.l.length≤16777216)→FV w W.heap.size w.heap.size 3 1 (R9 n cs)∧FV w W.heap.size w.heap.size 21 1 (R8 n cs)
 |[],_,_,_,_,_=>⟨E4 _ _ _ _ _,E4 _ _ _ _ _⟩
 |c::cs,h,n,n0,n1,hk=>by
  simp only [length_cons] at n1
  have f:=List.pairwise_cons.1 h.apart
  obtain ⟨j,k⟩:=FT.kin (cs:=cs) ⟨fun d a=>h.each d (by simp [a]),f.2⟩ (n:=n+2) (by omega) (by omega) fun d a=>hk d (by simp [a])
  have i:=hk c (by simp)
  have M:=h.each c (by simp)
  refine ⟨(FV.one M.row (fun b e=>(M.row.lt b e).2) (by omega) (by omega) i.1).consP j fun y g=> ?_,(FV.one M.col (fun b e=>(M.col.lt b e).2) (by omega) (by omega) i.2).consP k fun y g=> ?_⟩
  ·obtain ⟨d,a,e⟩:=TH g
   show JX c.x y.v
   rw [e];exact (f.1 d a).1
  ·obtain ⟨d,a,e⟩:=TG g
   show JX c.y y.v
   rw [e];exact (f.1 d a).2

theorem LW:∀(l:List N5) (a b:List (List Int)),DX a l=some b→b.length=a.length+l.length
 |[],a,b,h=>by cases h;simp
 |x::l,a,b,h=>by
  unfold DX at h
  cases e:I3 a x with
  |none=>rw [e] at h;cases h
  |some s=>
   rw [e] at h
   have:=LW l _ _ h
   rw [length_append,length_singleton] at this
   rw [length_cons];omega
theorem LV:∀(l:List N5) (a b:List (List Int)),DX a l=some b→b.take a.length=a
 |[],a,b,h=>by cases h;simp
 |x::l,a,b,h=>by
  unfold DX at h
  cases e:I3 a x with
  |none=>rw [e] at h;cases h
  |some s=>
   rw [e] at h
   have:=LV l _ _ h
   rw [length_append,length_singleton] at this
   have c:=cngA (take a.length) this
   rw [take_take,Nat.min_eq_left (by omega),take_append_of_le_length (AX _),take_length] at c
   exact c
theorem OD:∀(l:List N5) (a b:List (List Int)),DX a l=some b→∀i (c:i<l.length),I3 (b.take (a.length+i)) l[i]=some (b.getD (a.length+i) [])
 |[],_,_,_,i,c=>by simp at c
 |x::l,a,b,h,i,c=>by
  have g:=LV _ _ _ h
  unfold DX at h
  cases e:I3 a x with
  |none=>rw [e] at h;cases h
  |some s=>
   rw [e] at h
   cases i with
   |zero=>
    have f:=LV _ _ _ h
    rw [length_append,length_singleton] at f
    rw [Nat.add_zero,g]
    show I3 a x=_
    rw [e]
    have d:=cngA (fun z:List (List Int)=>z[a.length]?) f
    simp only [getElem?_take,Nat.lt_succ_self,if_true] at d
    rw [getElem?_append_right (AX _),Nat.sub_self] at d
    rw [getD_eq_getElem?_getD,d];rfl
   |succ i=>
    have:=OD l _ _ h i (by simpa using c)
    rw [length_append,length_singleton,show a.length+1+i=a.length+(i+1) by omega] at this
    exact this
theorem SB {a:List (List Int)} {x:N5} {s:List Int} (h:I3 a x=some s):CJ x.k x.i x.s x.n x.p=true∧(∀j ∈ x.i,0≤j∧j<(a.length:Int))∧s=IJ x.k x.s x.n x.p (x.i.map fun j=>a.getD j.toNat [])∧Shapes.ok s=true:=by
 unfold I3 at h
 split at h
 ·rename_i b
  simp only [Bool.and_eq_true,Bool.not_eq_true'] at b
  have e:=Option.some.inj h
  refine ⟨b.1.1,fun j d=> ?_,e.symm,e ▸ b.2⟩
  have c:=b.1.2
  unfold NQ at c
  have:=List.any_eq_false.1 c j d
  simp at this
  omega
 ·cases h
structure Qv (ss:List (List Int)) (i:Nat) (x:N5):Prop where
 kind:CJ x.k x.i x.s x.n x.p=true
 ins:∀j ∈ x.i,0≤j∧j<(i:Int)
 sh:ss.getD i []=IJ x.k x.s x.n x.p (x.i.map fun j=>ss.getD j.toNat [])
 ok:Shapes.ok (ss.getD i [])=true
theorem Vq {b:List N5} {a:List (List Int)} (h:DX [] b=some a) {i:Nat} (l:i<b.length):Qv a i b[i]:=by
 have e:=LW _ _ _ h
 have:=OD b [] a h i l
 rw [length_nil,Nat.zero_add] at this
 obtain ⟨g,d,k,f⟩:=SB this
 have lt:(a.take i).length=i:=by rw [length_take];simp at e;omega
 refine ⟨g,fun j c=>by have:=d j c;rwa [lt] at this, ?_,f⟩
 rw [k]
 congr 1
 refine map_congr_left fun j c=> ?_
 have:=d j c
 rw [lt] at this
 rw [getD_eq_getElem?_getD,getElem?_take,if_pos (by omega),← getD_eq_getElem?_getD]
theorem TA {l:List Int} (h:l.length=2):∃a b,l=[a,b]:=by
 match l,h with
 |[a,b],_=>exact ⟨a,b,rfl⟩
theorem Rw {c:List (List Int)} {i:Nat} {x:N5} (h:Qv c i x) (f:x.k=7#8):∃a b,x.i=[a,b]∧(0≤a∧a<(i:Int))∧(0≤b∧b<(i:Int))∧Shapes.ok (c.getD a.toNat [])=true∧(c.getD a.toNat []).length=2:=by
 have k:=h.kind
 rw [f] at k
 have:=(BI k Ty).1
 obtain ⟨a,b,e⟩:=TA (l:=x.i) (by omega)
 have s:=h.sh
 have o:=h.ok
 rw [e,f] at s
 have g:c.getD i []=if DV (c.getD a.toNat []) (c.getD b.toNat [])=0 then [(c.getD a.toNat []).getD 0 default,(c.getD b.toNat []).getD 1 default] else []:=s
 have d:DV (c.getD a.toNat []) (c.getD b.toNat [])=0:=by
  by_cases d:DV (c.getD a.toNat []) (c.getD b.toNat [])=0
  ·exact d
  ·rw [if_neg d] at g
   rw [g] at o;cases o
 refine ⟨a,b,e,h.ins a (by rw [e];simp),h.ins b (by rw [e];simp), ?_⟩
 unfold DV at d
 split at d
 ·rename_i j
  rw [Bool.and_eq_true] at j
  split at d
  ·rename_i m;exact ⟨j.1,m.1⟩
  ·cases d
 ·cases d
theorem Tp {c:List (List Int)} {i:Nat} {x:N5} (h:Qv c i x) (g:x.k=8#8):∃a b,x.i=[a,b]∧(0≤a∧a<(i:Int))∧(0≤b∧b<(i:Int))∧Shapes.ok (c.getD b.toNat [])=true∧(c.getD b.toNat []).length=4:=by
 have k:=h.kind
 rw [g] at k
 have:=(BI k R4).1
 obtain ⟨a,b,e⟩:=TA (l:=x.i) (by omega)
 have s:=h.sh
 have o:=h.ok
 rw [e,g] at s
 have j:c.getD i []=if BZ (c.getD a.toNat []) (c.getD b.toNat []) x.n x.p=0 then FG (c.getD a.toNat []) (c.getD b.toNat []) x.n x.p else []:=s
 have d:BZ (c.getD a.toNat []) (c.getD b.toNat []) x.n x.p=0:=by
  by_cases d:BZ (c.getD a.toNat []) (c.getD b.toNat []) x.n x.p=0
  ·exact d
  ·rw [if_neg d] at j
   rw [j] at o;cases o
 refine ⟨a,b,e,h.ins a (by rw [e];simp),h.ins b (by rw [e];simp), ?_⟩
 unfold BZ at d
 split at d
 ·cases d
 ·rename_i f
  split at d
  ·rename_i m
   have f:EZ (c.getD a.toNat []) (c.getD b.toNat []) x.n x.p=false:=by simpa using f
   simp only [EZ,Bool.or_eq_false_iff,Bool.not_eq_false'] at f
   simp only [IZ,Bool.and_eq_true,decide_eq_true_eq] at m
   exact ⟨f.1.1.1.1.2,m.1.1.2⟩
  ·cases d
theorem W4 (v:Value) (M:List N5) (W:World) (h:GN W v M):AM prog 99 [.agg [v].toArray] W (fun r B=>(∃n,r= .int .i64 n)∧Below W.heap.size W B):=by
 have N:=Below.refl W.heap.size W
 have t:=h.sl
 have hle:=h.sl.le
 obtain ⟨R,hR⟩:∃R,R=ID M:=⟨_,rfl⟩
 refine Bb (n:=73) func99 O<|Af<|B5 (cs:=[v]) O O O ?_
 rintro K w eA_g J d -
 have N:=N.bs d
 have h:=h.bs d
 have t:=t.bs d
 refine Ab O<|Bl<|Aa (B9 (FC _) (DR _) O O ‹_›) O ?_
 refine Aj O O (Pv v M _ h) ?_
 rintro _ w ⟨d,Y⟩
 rw [← hR] at Y
 have N:=N.bs d
 have h:=h.bs d
 have t:=t.bs d
 have J:=J.bs d
 cases eR:R with
 |none=>
  rw [eR] at Y
  obtain rfl:=Y
  refine Ac O<|Aa (As (i:=0) O O) O<|Aa (As (i:=1) O O) O<|Ab O<|Ab O<|Bl<|Ab O<|Bh<|Ab O<|Ak<|Ao ?_
  refine Bq (S:=Nat) (fun i=>[(3, .slice none 0 0),(4, .int .i64 1),(5, .int .i64 0),(6, .int .i64 (i:Int))]) (fun i B=>i=0∧B=w) (fun i=>1) (0) ⟨rfl,rfl,rfl,rfl,trivial⟩ ?_ ?_
  ·exact ⟨rfl,rfl⟩
  rintro i y ⟨rfl,rfl⟩
  have s_n:Sl y 1 (.slice none 0 0) 0 []:=C0 _ _
  refine An<|Af<|Ac O<|Ac O<|Aa (Au BB O ‹_›) O ?_
  exact B3 rfl<|Ac rfl<|C5 19 (v' := .bool false) rfl (cngA Value.bool (rfl))<|Ae (dj:=19) rfl rfl rfl rfl<|Ae (dj:=19) rfl rfl rfl rfl<|Cn rfl<|Ak<|D6 rfl<|Bp<|Al<|Al<|Bd<|Cm<|Ac rfl<|Ab rfl<|Bc<|Ax rfl rfl<|⟨⟨_,rfl⟩,N⟩
 |some ss=>
  rw [eR] at Y
  obtain ⟨u,ps,rfl,hL,e⟩:=Y
  have hg:=JK (hR.symm.trans eR)
  have X:=hg.1
  have T:=LW _ _ _ X
  rw [length_nil,Nat.zero_add] at T
  have lps:ps.length=M.length:=by rw [← T,← e,length_map]
  have lps2:(BE ps).length=ps.length:=length_map ..
  have hl32:=hg.2.2.2
  have G:=hL.sl
  rename World=>w0
  refine Ac O<|Aa (As (i:=0) O O) O<|Aa (As (i:=1) O O) O<|Ab O<|Ab O<|Bl<|Ab O<|Bh<|Ab O<|Ak<|Ao ?_
  refine Bq (S:=(Nat×Int)) (fun z=>[(1, .pointer (some ⟨K,0,none⟩)),(3,u),(4, .int .i64 0),(5, .int .i64 z.2),(6, .int .i64 (z.1:Int))]) (fun z B=>z.1≤ps.length∧0≤z.2∧z.2≤1073741824*(z.1:Int)∧Below w0.heap.size w0 B) (fun z=>ps.length - z.1) ((0,0)) ⟨rfl,rfl,rfl,rfl,rfl,trivial⟩ ?_ ?_
  ·exact ⟨Nat.zero_le _,Int.le_refl _,by simp only;omega,Below.refl _ _⟩
  rintro ⟨i,n⟩ y ⟨hi,n0,n1,l⟩
  replace hi:i≤ps.length:=hi
  replace n0:0≤n:=n0
  replace n1:n≤1073741824*(i:Int):=n1
  have s_u1:=G.bs l
  have E:=t.bs l
  have b_g1:=J.bs l
  refine An<|Af<|Ac O<|Ac O<|Aa (Au BB O ‹_›) O ?_
  refine B3 O<|Ac O ?_
  refine Cc 19 O ?_ ?_
  ·intro g
   have o:i<ps.length:=by have:=AD g;omega
   have C:i<M.length:=by omega
   obtain ⟨x,F⟩:∃x,x=M[i]:=⟨_,rfl⟩
   have hx:=(h.each x (F ▸ getElem_mem C)).bs l
   have Z:=h.cells C
   rw [← F] at Z
   have NA:=Vq X C
   rw [← F] at NA
   have ei:(ps.getD i default).2=ss.getD i []:=by rw [← e];simp [BE,getD_eq_getElem?_getD,o]
   have p:∀j:Nat,j<ps.length→BS (Value.int .i64) w0 (ps.getD j default).1 (ss.getD j []):=fun j hj=>by
    have ej:(ps.getD j default).2=ss.getD j []:=by rw [← e];simp [BE,getD_eq_getElem?_getD,hj]
    rw [← ej]
    exact hL.each _ (by rw [getD_eq_getElem?_getD,getElem?_eq_getElem hj];exact getElem_mem hj)
   refine Ag (dj:=19) O O<|Ac O<|Ag (dj:=19) O O<|Aa (Da O O) O<|B4 O<|Ak<|Ca O true (rfl)<|B0<|An<|Ao<|Af<|Be underlying64 O (CQ _)<|Aa (Ah (CZ _) O ‹_› rfl) O ?_
   refine Ac O<|Aa (Ci BQ O O E i O C) O<|Aa (Cq (cs:=x.cells) (EM _) (EJ _) O E O (by decide) Z) O<|C1 (cs:=x.cells) GD O O O O (fun _=>rfl) (hx.ones) ?_
   rintro A_x w2 eA_x b_x d zhn
   have A:=bt l d
   have Q:=hx.bs d
   have k:=G.bs A
   refine Bl<|Ab O<|Bh<|Be underlying25 O (DF _)<|Aa (Ah (DG _) O ‹_› rfl) O ?_
   refine Aa (Cl O (show _=some (b8 (7#8)) from rfl)) O<|Ak ?_
   refine Fi (St:=Int) (fun s=>[(1, .pointer (some ⟨K,0,none⟩)),(3,u),(4, .int .i64 0),(5, .int .i64 n),(6, .int .i64 (i:Int)),(7, .pointer (some ⟨A_x,0,none⟩)),(8, .int .i64 s)]) (fun s B=>0≤s∧s≤262144∧B=w2) ?_ ?_
   ·refine Aq O ?_ ?_
    ·intro q
     have q:=AD q
     obtain ⟨a,b,e1,ha, -,ka,la⟩:=Rw NA q
     have f:=Q.i
     rw [e1] at f
     have I:a.toNat<ps.length:=by omega
     have V:=(p a.toNat I).bs A
     have da:=EK ka (i:=1) (by omega)
     refine Bw<|Ac O<|Be underlying25 O (AN _)<|Aa (Ah (AF _) O ‹_› rfl) O ?_
     refine Aa (Ay AC O O f 0 O (Nat.zero_lt_succ _)) O<|Aa ((Bj (AK _) O f (Nat.zero_lt_succ _)).as (cngA (Value.int .i64) (show a=((a.toNat:Nat):Int) by omega))) O<|Aa (Ay BB O O k a.toNat O I) O<|Aa (Bj (AF _) O k I) O<|Aa (Ay AC O O V 1 O (by omega)) O<|Aa (Bj (AK _) O V (by omega)) O<|Ab O<|Bf ?_
     exact Dq (((ss.getD a.toNat []).getD 1 default)) ⟨rfl,rfl,rfl,rfl,rfl,rfl,rfl,trivial⟩ (⟨by omega,by omega,rfl⟩)
    intro q
    exact Cp<|Dq (1) ⟨rfl,rfl,rfl,rfl,rfl,rfl,rfl,trivial⟩ (⟨by decide,by decide,rfl⟩)
   rintro s1 U ⟨s0,s4,rfl⟩
   refine B8<|An<|Af<|Be underlying25 O (DF _)<|Aa (Ah (DG _) O ‹_› rfl) O ?_
   refine Aa (Cl O (show _=some (b8 (8#8)) from rfl)) O<|Ak ?_
   refine Fi (St:=Int) (fun s=>[(1, .pointer (some ⟨K,0,none⟩)),(3,u),(4, .int .i64 0),(5, .int .i64 n),(6, .int .i64 (i:Int)),(8, .int .i64 s)]) (fun s B=>0≤s∧s≤262144∧Below U.heap.size U B) ?_ ?_
   ·refine Aq O ?_ ?_
    ·intro q
     have q:=AD q
     obtain ⟨a,b,e1, -,hb,kb,lb⟩:=Tp NA q
     have f:=Q.i
     rw [e1] at f
     have L:b.toNat<ps.length:=by omega
     have m:=(p b.toNat L).bs A
     have d1:=EK kb (i:=1) (by omega)
     have d2:=EK kb (i:=2) (by omega)
     have d3:=EK kb (i:=3) (by omega)
     have p2:(ss.getD b.toNat []).getD 1 default*(ss.getD b.toNat []).getD 2 default≤4096:=by
      have:=Int.mul_le_mul d1.2 d2.2 (by omega) (by omega);omega
     have p20:=Int.mul_nonneg (show 0≤(ss.getD b.toNat []).getD 1 default by omega) (show 0≤(ss.getD b.toNat []).getD 2 default by omega)
     have p3:(ss.getD b.toNat []).getD 1 default*(ss.getD b.toNat []).getD 2 default*(ss.getD b.toNat []).getD 3 default≤262144:=by
      have:=Int.mul_le_mul p2 d3.2 (by omega) (by omega);omega
     have p30:=Int.mul_nonneg p20 (show 0≤(ss.getD b.toNat []).getD 3 default by omega)
     refine Af<|Ac O<|Be underlying25 O (AN _)<|Aa (Ah (AF _) O ‹_› rfl) O ?_
     refine Aa (Ay AC O O f 1 O (show 1<2 by decide)) O<|Aa ((Bj (AK _) O f (show 1<2 by decide)).as (cngA (Value.int .i64) (show b=((b.toNat:Nat):Int) by omega))) O<|Aa (Ay BB O O k b.toNat O L) O<|Aa (Bj (AF _) O k L) O<|Ab O<|Ak<|Cv AS (by kernel_rfl)<|Bg O<|Ad (fun y c=>Ay AC O O (m.bs c) 1 O (by omega)) O<|Ad (fun y c=>Bj (AK _) O (m.bs c) (by omega)) O<|Bg O<|Ad (fun y c=>Ay AC O O (m.bs c) 2 O (by omega)) O<|Ad (fun y c=>Bj (AK _) O (m.bs c) (by omega)) O<|Ad (fun y c=>C6 O O (by omega)) O<|Bg O<|Ad (fun y c=>Ay AC O O (m.bs c) 3 O (by omega)) O<|Ad (fun y c=>Bj (AK _) O (m.bs c) (by omega)) O<|Ad (fun y c=>C6 O O (by omega)) O<|Dk O ?_
     refine Cr (fun w3 c=> ?_)
     exact Dq (((ss.getD b.toNat []).getD 1 default*(ss.getD b.toNat []).getD 2 default*(ss.getD b.toNat []).getD 3 default)) ⟨rfl,rfl,rfl,rfl,rfl,rfl,trivial⟩ (⟨by omega,by omega,c⟩)
    intro q
    exact Cp<|Dq (s1) ⟨rfl,rfl,rfl,rfl,rfl,rfl,trivial⟩ (⟨s0,s4,Below.refl _ _⟩)
   rintro s2 w3 ⟨t0,t4,d⟩
   refine B8 ?_
   have H:=bt A d
   have D:=G.bs H
   have s_i:=(p i o).bs H
   have z0:=Shapes.size_le (ss.getD i [])
   have zp:=AD (show decide (0<Shapes.size (ss.getD i []))=true from NA.ok)
   have m0:=Int.mul_nonneg t0 (Int.le_of_lt zp)
   have m1:s2*Shapes.size (ss.getD i [])≤262144*4096:=Int.mul_le_mul t4 (by omega) (by omega) (by omega)
   refine Bw<|Ac O<|Ac O<|Ac O<|Ac O<|Aa (Ay BB O O D i O o) O<|Aa (Bj (AF _) O D o) O<|Aj O O (HH (ps.getD i default).1 (ss.getD i []) w3 s_i) ?_
   rintro _ w4 ⟨rfl,d⟩
   refine Aa (C6 O O (by omega)) O<|B7 O (by omega)<|Ab O<|Bf<|Bn<|Ch<|Ac O<|B7 O (by omega)<|Ab O<|Bf ?_
   exact Ap (Pw.next ((i+1,n+s2*Shapes.size (ss.getD i []))) ⟨rfl,rfl,rfl,rfl,rfl,trivial⟩ (⟨o,by simp only;omega,by simp only;omega,bt H d⟩) (by simp only;omega))
  intro g
  exact Ae (dj:=19) rfl rfl rfl rfl<|Ae (dj:=19) rfl rfl rfl rfl<|Cn rfl<|Ak<|D6 rfl<|Bp<|Al<|Al<|Bd<|Cm<|Ac rfl<|Ab rfl<|Bc<|Ax rfl rfl<|⟨⟨_,rfl⟩,bt N l⟩
end Go.Proofs.YtmipoeanpnnjoaaGreatDoor

namespace Go.Proofs.YtmipoeanpnnjoaaGreatDoor
open Go Go.Dd Go.RowKit Go.ChangeShapes Go.WideShapes List Go.Proofs.Tryz
set_option maxRecDepth 100000
def To (ls:List N5) (ws:List T4) (t:T4):Prop:=YN ls≤5000∧UC 0 [J0 (ws.length:Int) (ws.map fun t=>Jx t.s t.l),Jx t.s t.l]=false
theorem VA (v u:Value) (j:List N5) (ws:List T4) (t:T4) (W:World) (h:GN W v j) (Q:j.length≤1125899906842624) (M:∀t ∈ j,t.few) (z:CN W u ws) (L:ws.length≤1125899906842624) (D:∀t ∈ ws,Mu t) (y:t.at W) (p:Mu t):
  AM prog 18 [.agg [v,u,t.x,t.y].toArray] W (fun r s=>(∃b,r= .bool b∧(b=false→To j ws t))∧Below W.heap.size W s):=by
 have o:=Below.refl W.heap.size W
 refine Bb (n:=23) func18 O<|Af<|B5 (cs:=[v,u,t.x,t.y]) O O O ?_
 rintro F w E R f -
 have o:=o.bs f
 have h:=h.bs f
 have z:=z.bs f
 have y:=y.bs f
 refine Ab O<|Ak<|An ?_
 rename World=>d
 refine Cw.any AS (fun S e _=> ?_)
 refine Dh (fun s=>Below d.heap.size d s) (fun T=> ?_) (e)
 refine Cj (Am Bo)<|Ai 0 O (fun d c=>Cd underlying66 O (DR _)) O<|Ai 1 O (fun d c=>Eg (ds:=[v]) (FC _) (DR _) O O (AO.bs ‹_› c) O) O<|Cb ?_
 refine AZ.only ‹_› (i:=2) (by kernel_rfl) O ?_
 refine Aj O O (V9 v j S (h.bs e) Q M) ?_
 rintro _ H ⟨rfl,f⟩
 have e:=bt e f
 refine AZ.back<|Cj (Am Bo)<|Ai 3 O (fun d c=>Dr O O) O<|Ai 4 O (fun d c=>B6 O) O<|Cb ?_
 refine Fs 7 O ?_ ?_
 ·intro g
  refine Db (i:=5) (dj:=7) (Am Bo) O O O O (by kernel_rfl) (by kernel_rfl) (by kernel_rfl) O<|Db (i:=6) (dj:=7) (Am Bo) O O O O (by kernel_rfl) (by kernel_rfl) (by kernel_rfl) O<|Db (i:=7) (dj:=7) (Am Bo) O O O O (by kernel_rfl) (by kernel_rfl) (by kernel_rfl) O<|Db (i:=8) (dj:=7) (Am Bo) O O O O (by kernel_rfl) (by kernel_rfl) (by kernel_rfl) O<|Db (i:=9) (dj:=7) (Am Bo) O O O O (by kernel_rfl) (by kernel_rfl) (by kernel_rfl) O<|Db (i:=10) (dj:=7) (Am Bo) O O O O (by kernel_rfl) (by kernel_rfl) (by kernel_rfl) O<|Db (i:=11) (dj:=7) (Am Bo) O O O O (by kernel_rfl) (by kernel_rfl) (by kernel_rfl) O<|Db (i:=12) (dj:=7) (Am Bo) O O O O (by kernel_rfl) (by kernel_rfl) (by kernel_rfl) O<|Cj (Am Bo)<|Ai 13 O (fun d c=>Ct O O) O<|Ai 14 O (fun d c=>B6 O) O<|Cb<|Db (i:=15) (dj:=17) (Am Bo) O O O O (by kernel_rfl) (by kernel_rfl) (by kernel_rfl) O<|Db (i:=16) (dj:=17) (Am Bo) O O O O (by kernel_rfl) (by kernel_rfl) (by kernel_rfl) O ?_
  refine Db (i:=17) (dj:=17) (Am Bo) O O O O (by kernel_rfl) (by kernel_rfl) (by kernel_rfl) O<|Db (i:=18) (dj:=17) (Am Bo) O O O O (by kernel_rfl) (by kernel_rfl) (by kernel_rfl) O<|Cj (Am Bo)<|Ai 19 O (fun d c=>Ct O O) O<|Ai 20 O (fun d c=>Cf O) O<|Cb<|Cu ‹_› (by kernel_rfl) ?_
  exact Ap<|B8<|Df<|Ax rfl rfl<|⟨⟨true,rfl,fun h=>by cases h⟩,bt o e⟩
 intro g
 have N:YN j≤5000:=by have:=AB g;omega
 refine Dt (i:=5) (dj:=7) (Am Bo) O O O (by kernel_rfl) (by kernel_rfl) (by kernel_rfl) (fun d c=>Cd underlying66 O (GA _)) O<|Dt (i:=6) (dj:=7) (Am Bo) O O O (by kernel_rfl) (by kernel_rfl) (by kernel_rfl) (fun d c=>Ah (EY _) O (AO.bs ‹_› c) O) O<|Dt (i:=8) (dj:=7) (Am Bo) O O O (by kernel_rfl) (by kernel_rfl) (by kernel_rfl) (fun d c=>D4 (q:=1) underlying66 O (AP _) O) O<|Dt (i:=9) (dj:=7) (Am Bo) O O O (by kernel_rfl) (by kernel_rfl) (by kernel_rfl) (fun d c=>Eg (ds:=[t.x,t.y]) (AT _) (AP _) O O (AO.bs ‹_› c) O) O ?_
 refine AZ.only ‹_› (i:=7) (by kernel_rfl) O ?_
 refine Ag (dj:=7) O O<|Aj O O (Sp u ws H (z.bs e) L D) ?_
 rintro _ G ⟨rfl,f⟩
 have e:=bt e f
 refine AZ.back<|AZ.only ‹_› (i:=10) (by kernel_rfl) O ?_
 refine Ag (dj:=7) O O<|Aj O O (Q7 t G (y.bs e) p.1 p.2) ?_
 rintro _ w5 ⟨rfl,f⟩
 have e:=bt e f
 refine AZ.back<|AZ.only ‹_› (i:=11) (by kernel_rfl) O ?_
 refine Ag (dj:=7) O O<|Bk (Dl (vs:=[J0 (ws.length:Int) (ws.map fun t=>Jx t.s t.l),Jx t.s t.l].map (Value.int .i64)) AC DI O O O O O) O ?_
 rintro q I ⟨B, -,f, -⟩
 have e:=bt e f
 have U:=Pf (l:=ws.map fun t=>Jx t.s t.l) (n:=(ws.length:Int)) (m:=4503599626321920) (fun x k=>by
  obtain ⟨a,C,rfl⟩:=List.mem_map.1 k
  have Z:=(D a C).1
  have V:=(D a C).2
  unfold Jx;split<;>omega) (by decide)
 have Y:=Jc (l:=ws.map fun t=>Jx t.s t.l) (n:=(ws.length:Int)) (fun x k=>by
  obtain ⟨a,C,rfl⟩:=List.mem_map.1 k
  have:=Jz a.s a.l;omega)
 have b2:=Q6 p
 have X:=Jz t.s t.l
 have A:∀x ∈ [J0 (ws.length:Int) (ws.map fun t=>Jx t.s t.l),Jx t.s t.l],0≤x∧x≤4503599627370496:=fun x k=>by
  rcases List.mem_cons.1 k with rfl|k
  ·omega
  ·rw [List.mem_singleton.1 k];omega
 refine AZ.back<|AZ.only ‹_› (i:=12) (by kernel_rfl) O ?_
 refine Ag (dj:=7) O O<|Aj O O (Ul q _ I (AQ B) A) ?_
 rintro _ J ⟨rfl,f⟩
 have e:=bt e f
 refine AZ.back<|Cj (Am Bo)<|Ai 13 O (fun d c=>Cz O O) O<|Ai 14 O (fun d c=>B6 O) O<|Cb ?_
 refine Fs 17 O ?_ ?_
 ·intro g
  refine Db (i:=15) (dj:=17) (Am Bo) O O O O (by kernel_rfl) (by kernel_rfl) (by kernel_rfl) O<|Db (i:=16) (dj:=17) (Am Bo) O O O O (by kernel_rfl) (by kernel_rfl) (by kernel_rfl) O<|Db (i:=17) (dj:=17) (Am Bo) O O O O (by kernel_rfl) (by kernel_rfl) (by kernel_rfl) O<|Db (i:=18) (dj:=17) (Am Bo) O O O O (by kernel_rfl) (by kernel_rfl) (by kernel_rfl) O<|Cj (Am Bo)<|Ai 19 O (fun d c=>Ct O O) O<|Ai 20 O (fun d c=>Cf O) O<|Cb<|Cu ‹_› (by kernel_rfl) ?_
  exact Ap<|B8<|Df<|Ax rfl rfl<|⟨⟨true,rfl,fun h=>by cases h⟩,bt o e⟩
 intro K
 refine Dt (i:=15) (dj:=17) (Am Bo) O O O (by kernel_rfl) (by kernel_rfl) (by kernel_rfl) (fun d c=>Cd underlying66 O (DR _)) O<|Dt (i:=16) (dj:=17) (Am Bo) O O O (by kernel_rfl) (by kernel_rfl) (by kernel_rfl) (fun d c=>Eg (ds:=[v]) (FC _) (DR _) O O (AO.bs ‹_› c) O) O ?_
 refine AZ.only ‹_› (i:=17) (by kernel_rfl) O ?_
 refine Ag (dj:=17) O O<|Aj O O (W4 v j J (h.bs e)) ?_
 rintro _ w8 ⟨⟨n,rfl⟩,f⟩
 have e:=bt e f
 refine AZ.back<|Dt (i:=18) (dj:=17) (Am Bo) O O O (by kernel_rfl) (by kernel_rfl) (by kernel_rfl) (fun d c=>Dr O O) O<|Cj (Am Bo)<|Ai 19 O (fun d c=>Cz O O) O<|Ai 20 O (fun d c=>Cf O) O<|Cb<|Cu ‹_› (by kernel_rfl) ?_
 exact Ap<|B8<|Df<|Ax rfl rfl<|⟨⟨_,rfl,fun _=>⟨N,K⟩⟩,bt o e⟩
theorem RQ {H:Type} {enc:TypeId×Value→H} {w:World} {base:Nat} {z:Value} (y:Value.okWide prog w .any base 66 z) (h:In enc prog w 66 z.cells.toList):
  ∃(v u:Value) (g:List N5) (ws:List T4) (t:T4),z= .agg [v,u,t.x,t.y].toArray∧GN w v g∧g.length≤1125899906842624∧(∀t ∈ g,t.few)∧CN w u ws∧ws.length≤1125899906842624∧(∀t ∈ ws,Mu t)∧t.at w∧Mu t:=by
 obtain ⟨cs,rfl,i⟩:=Qm underlying66 y h
 obtain ⟨e,f⟩:=i.struct underlying66
 have C:Tryz.prog.cellsOf 66=4:=by kernel_rfl
 have x:Tryz.prog.cellsOf 64=1:=by kernel_rfl
 have r:Tryz.prog.cellsOf 26=1:=by kernel_rfl
 have e1:Tryz.prog.cellsOf 33=2:=by kernel_rfl
 rw [C] at e
 obtain ⟨a,b,c,d,rfl⟩:∃a b c d,cs=[a,b,c,d]:=by
  match cs,e with
  |[a,b,c,d],_=>exact ⟨a,b,c,d,rfl⟩
 have k:In enc prog w 64 (([a,b,c,d].drop 0).take (Tryz.prog.cellsOf 64)):=f 0 _ rfl
 have l:In enc prog w 26 (([a,b,c,d].drop 1).take (Tryz.prog.cellsOf 26)):=f 1 _ rfl
 have j:In enc prog w 33 (([a,b,c,d].drop 2).take (Tryz.prog.cellsOf 33)):=f 2 _ rfl
 rw [x] at k
 rw [r] at l
 rw [e1] at j
 obtain ⟨v,ev,g,q,D,s⟩:=TD k
 obtain ⟨u,n,ws,p,B,o⟩:=V6 l
 obtain ⟨t,m,A,E,F⟩:=TB j
 simp at ev n m
 obtain ⟨rfl,rfl⟩:=m
 subst ev n
 exact ⟨_,_,g,ws,t,rfl,q,D,s,p,B,o,A,by omega,by omega⟩
end Go.Proofs.YtmipoeanpnnjoaaGreatDoor

namespace Go.Proofs.YtmipoeanpnnjoaaGreatDoor
open Go Go.Dd Go.RowKit List Go.Proofs.Tryz
set_option maxRecDepth 100000
theorem Vc (a b:T4) (W:World) (c:a.at W) (d:b.at W):AM prog 11 [a.v,b.v] W (fun r p=>r= .bool (decide (pv a=pv b))∧Below W.heap.size W p):=by
 have i:=Below.refl W.heap.size W
 have x:decide (pv a=pv b)=(decide (a.s=b.s) && decide (a.l=b.l)):=by
  rw [← Bool.decide_and]
  exact decide_eq_decide.2 ⟨fun h=>⟨cngA (·.1) h,cngA (·.2) h⟩,fun ⟨s,q⟩=>by unfold pv;rw [s,q]⟩
 rw [x]
 refine Bb (n:=17) func11 O<|Af<|B5 (cs:=[a.x,a.y]) O O O ?_
 rintro u w m f e -
 have i:=i.bs e
 have c:=c.bs e
 have d:=d.bs e
 refine B5 (cs:=[b.x,b.y]) O O O ?_
 rintro v w l j e -
 have i:=i.bs e
 have c:=c.bs e
 have d:=d.bs e
 have f:=f.bs e
 refine Ab O<|Bl<|Be underlying33 O (AN _)<|Aa (Ah (AF _) O ‹_› rfl) O ?_
 refine Be underlying33 O (AN _)<|Aa (Ah (AF _) O ‹_› rfl) O ?_
 have y:=c.1
 have t:=c.2
 refine Aj O O (Lz a.x b.x a.s b.s w c.1 d.1) ?_
 rintro _ o ⟨rfl,e⟩
 have f:=f.bs e
 have j:=j.bs e
 have i:=bt i e
 have c:=c.bs e
 have d:=d.bs e
 refine Ac O ?_
 refine Cc 10 O ?_ ?_
 ·intro g
  refine Ag (dj:=10) O O<|Be underlying33 O (BC _)<|Ag (dj:=10) O O<|Aa (Ah (BG _) O ‹_› rfl) O ?_
  refine Ag (dj:=10) O O<|Be underlying33 O (BC _)<|Ag (dj:=10) O O<|Aa (Ah (BG _) O ‹_› rfl) O ?_
  refine Ag (dj:=10) O O<|Aj O O (IS a.y b.y a.l b.l o c.2 d.2) ?_
  rintro _ z ⟨rfl,k⟩
  exact B4 rfl<|Ab rfl<|Bc<|Ax rfl rfl<|⟨by rw [g,Bool.true_and],bt i k⟩
 intro g
 refine Ae (dj:=10) O O O O<|Ae (dj:=10) O O O O<|Ae (dj:=10) O O O O<|Ae (dj:=10) O O O O<|Ae (dj:=10) O O O O<|Cn O<|Ab O<|Bc<|Ax O O ?_
 exact ⟨by rw [g];rfl,i⟩
theorem SZ (u v:Value) (xs f:List T4) (W:World) (t:CN W u xs) (E:CN W v f):AM prog 25 [u,v] W (fun r p=>r= .bool (decide (xs.map pv=f.map pv))∧Below W.heap.size W p):=by
 have x:=t.1
 have C:=E.1
 have R:=t.1.le
 refine Bb (n:=27) func25 O<|Af<|Ab O<|Bh<|Ac O<|Aa (Au AR O ‹_›) O ?_
 refine Ac O<|Aa (Au AR O ‹_›) O ?_
 refine Aa (Cs O O) O<|Ak<|Aq O ?_ ?_
 ·intro g
  have B:¬xs.length=f.length:=fun e=>by rw [e] at g;simp at g
  refine Af<|Ab O<|Bu<|Ax O O ?_
  exact ⟨by rw [decide_eq_false fun e=>B (by have:=cngA length e;simpa using this)],Below.refl _ _⟩
 intro g
 have B:xs.length=f.length:=by simp at g;omega
 refine B0<|An<|Af<|Ab O<|Ak<|Ao ?_
 refine Bq (S:=Nat) (fun i=>[(0,u),(1,v),(5, .int .i64 (i:Int))]) (fun i p=>i≤xs.length∧(xs.take i).map pv=(f.take i).map pv∧Below W.heap.size W p) (fun i=>xs.length - i) (0) ⟨rfl,rfl,rfl,trivial⟩ ?_ ?_
 ·exact ⟨Nat.zero_le _,rfl,Below.refl _ _⟩
 rintro i d ⟨T,D,m⟩
 have x:=t.1.bs m
 have C:=E.1.bs m
 refine An<|Af<|Ac O<|Ac O<|Aa (Au AR O ‹_›) O ?_
 refine B3 O<|Ak<|Aq O ?_ ?_
 ·intro h
  have c:i<xs.length:=by have:=AD h;omega
  have k:i<f.length:=by omega
  obtain ⟨a,w⟩:∃a,a=xs[i]:=⟨_,rfl⟩
  obtain ⟨b,s⟩:∃b,b=f[i]:=⟨_,rfl⟩
  have G:=BN c
  have H:=BN k
  rw [← w] at G
  rw [← s] at H
  have A:=(t.2 a (w ▸ getElem_mem c)).bs m
  have y:=(E.2 b (s ▸ getElem_mem k)).bs m
  have M:(xs.take (i+1)).map pv=(xs.take i).map pv++[pv a]:=by rw [take_succ_eq_append_getElem c,map_append,← w];rfl
  have K:(f.take (i+1)).map pv=(f.take i).map pv++[pv b]:=by rw [take_succ_eq_append_getElem k,map_append,← s];rfl
  refine B0<|An<|Ao<|An ?_
  refine Cw.any AS (fun N o _=> ?_)
  refine Dh (fun p=>Below d.heap.size d p) (fun Q=> ?_) (o)
  refine Cj (Am (Bs (Am (Am (Bs (Am Bo))))))<|Ai 0 O (fun d j=>B6 O) O<|Ai 1 O (fun d j=>B6 O) O<|Ai 2 O (fun d j=>Ci AR O O (x.bs j) i O c) O<|Ai 3 O (fun d j=>Cq (cs:=[a.x,a.y]) (AT _) (AP _) O (x.bs j) O (by decide) G) O<|Ai 4 O (fun d j=>B6 O) O<|Ai 5 O (fun d j=>B6 O) O<|Ai 6 O (fun d j=>Ci AR O O (C.bs j) i O k) O<|Ai 7 O (fun d j=>Cq (cs:=[b.x,b.y]) (AT _) (AP _) O (C.bs j) O (by decide) H) O<|Cb<|AZ.only ‹_› (i:=8) (by kernel_rfl) O ?_
  refine Aj O O (Vc a b N (A.bs o) (y.bs o)) ?_
  rintro _ J ⟨rfl,L⟩
  have z:Below d.heap.size d J:=o.trans (L.mono o.size)
  have q:=m.trans (z.mono (AA m))
  refine AZ.back<|Cj (Am (Bs (Am (Am (Bs (Am Bo))))))<|Ai 9 O (fun d j=>Ck O) O<|Cb<|Cu ‹_› (by kernel_rfl) ?_
  refine Ap<|B8<|Aq O ?_ ?_
  ·intro l
   have l:¬pv a=pv b:=by simpa using l
   refine Af<|Ab O<|Bc<|Bi<|Av<|Av<|Bi<|Av<|Ax O O ?_
   refine ⟨?_,q⟩
   rw [decide_eq_false fun e=>l ?_]
   have F:(xs.map pv)[i]? =some (pv a):=by rw [getElem?_map,getElem?_eq_getElem c,← w];rfl
   have I:(f.map pv)[i]? =some (pv b):=by rw [getElem?_map,getElem?_eq_getElem k,← s];rfl
   rw [e,I] at F
   exact (Option.some.inj F).symm
  intro l
  have l:pv a=pv b:=by simpa using l
  refine Cp<|Bn<|Ch<|Ac O<|B7 O (by omega)<|Ab O<|Bf ?_
  exact Ap (Pw.next (i+1) ⟨rfl,rfl,rfl,trivial⟩ (⟨c,by rw [M,K,D,l],q⟩) (by omega))
 intro h
 have c:i=xs.length:=by have:=AB h;omega
 subst c
 have e2:f.take xs.length=f:=by rw [B,take_length]
 rw [take_length,e2] at D
 exact Bp<|Al<|Al<|Bd<|Cm<|Ab rfl<|Bc<|Ax rfl rfl<|⟨by rw [decide_eq_true D],m⟩

theorem own:ownKnob Tryz.prog.godebug=none:=by kernel_rfl
theorem Vu:laidOutB prog=true:=by kernel_rfl
end Go.Proofs.YtmipoeanpnnjoaaGreatDoor
