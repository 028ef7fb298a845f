/- Texts of this proof, one behind the other: BookCode, BookLaw, RefShape, RefCode, TwinTensor, BookTen, MdlHold, Open, TensorsArg, TensArg, MeansArg, TwinNode, BookMany, BookKeep, BookFive, BookApart, BookMore, BookList, TwinLists, BookIn, NodeCard. -/
import Derived.Test.YtblbopcaflaldaaGreatDoorPk1
import Derived.Test.YtblbopcaflaldaaGreatDoorPk2
import Derived.ProofKit
import Derived.OpenShut
import Derived.SizedLaws

namespace Go.Proofs.YtblbopcaflaldaaGreatDoor
open Go Go.Dd Go.RowKit List Go.Proofs.Tryz
set_option maxRecDepth 100000
abbrev BE:TypeId:=55
abbrev CE (n:Int):Value:=b8 (BitVec.ofInt 8 n)
theorem JU (n:Int) (w:World) (_hn:0≤n∧n≤4000000):AJ prog 169 [.int .i64 n] w (fun r w' =>r=CE n∧Below w.heap.size w w'):=by
 exact Bd (n:=5) func169 rfl<|Ah<|Aa (Cq (show _=some (b8 (0#8)) from rfl)) rfl<|Bg<|Ad rfl<|Aa (F6 PL RS rfl) rfl<|Ab rfl<|Ay<|Ax rfl rfl<|⟨rfl,Below.refl _ _⟩
theorem Mv (n:Int) (w:World) (_hn:0≤n∧n≤4000000):AJ prog 184 [CE n, .int .i64 n] w (fun r w' =>r= .bool true∧Below w.heap.size w w'):=by
 exact Bd (n:=9) func184 rfl<|Ah<|Ab rfl<|Bg<|Ad rfl<|Ad rfl<|Aa (F6 PL RS rfl) rfl<|Aa (B0 rfl rfl) rfl<|Ab rfl<|Ay<|Ax rfl rfl<|⟨cngA Value.bool (by simp),Below.refl _ _⟩
theorem NZ (A:Nat) (o:List Value) (u:Value) (hs:List Hd) (lo base:Nat) (w:World) (hA:AN w A BE o) (Z:o[1]? =some u) (Y:w.ownsRow lo 179 3 u hs.length (AO hs)) (l:DU w base 5 1 hs)
  (N:¬AW hs A) (K:∀b,u.ownBlock=some b→¬AW hs b):
  AJ prog 71 [.pointer (some ⟨A,0,none⟩)] w (fun r w' =>r= .tuple #[]∧BJ (AW hs) w w' ∧FW w' base 5 CE hs):=by
 have hle:=(AG Y).le
 refine Bd (n:=35) func71 O<|Ah<|Ab O<|Aj<|Ar ?_
 refine Bo (S:=Nat) (fun i=>[(0, .pointer (some ⟨A,0,none⟩)),(2, .int .i64 (i:Int))]) (fun i w' =>i≤hs.length∧BJ (AW hs) w w' ∧(∀j (f:j<hs.length),j<i→AT w' base 5 1 hs[j].v hs[j].k (BK CE hs[j].k hs[j].n))∧(∀j (f:j<hs.length),i≤j→AT w' base 5 1 hs[j].v hs[j].k hs[j].xs)) (fun i=>hs.length - i) (0) ⟨rfl,rfl,trivial⟩ ?_ ?_
 ·exact ⟨by omega,BJ.refl _ _,fun j f h=>by omega,fun j f _=>l.own _ (getElem_mem f)⟩
 rintro i m ⟨hi,B,Q,T⟩
 have R:=hA.chg B N
 have I:=AG (AL Y B K)
 refine Aq<|Ah<|Ad O<|Ad O<|Aa (Bb O) O<|A0 underlying55 O (JB _)<|Aa (Ak (Ky _) O R Z) O<|Aa (Au (sz:=3) JG O I) O<|B1 O<|Aj<|Ao O ?_ ?_
 ·intro h
  have a:i<hs.length:=by simp at h;omega
  have q:=getElem_mem a
  have hfew:=l.few _ q
  have D:=l.num _ q
  have C:hs[i].g.oneCell' =true:=by rw [l.new _ q];rfl
  have t:=(l.own _ q).len
  have F:∀b,hs[i].v.ownBlock=some b→b<w.heap.size:=fun b e=>(l.blk ⟨_,q,e⟩).2
  refine B2<|Aq<|Ar<|Ah<|Ad O<|Aa (Bb O) O<|A0 underlying55 O (JB _)<|Aa (Ak (Ky _) O R Z) O<|Ad O<|Aa (Cu JG O O I i O a) O<|Aa (C6 (cs:=hs[i].cells) (On _) (Ni _) O I O (by decide) (BH a)) O<|Cv (cs:=hs[i].cells) NB O O O O (fun _=>rfl) (by simp [Hd.cells,(l.own _ q).sl.one',C,DJ]) ?_
  rintro z w2 U g p V
  have J:=B.below p
  have z1:=B.size
  have W:=(T i a (AX _)).bs p
  refine Bg<|Ab O<|Aj<|Ar ?_
  refine Bo (S:=Nat) (fun k=>[(0, .pointer (some ⟨A,0,none⟩)),(2, .int .i64 (i:Int)),(3, .pointer (some ⟨z,0,none⟩)),(4, .int .i64 (k:Int))]) (fun k w' =>k≤hs[i].k∧AN w' z 179 hs[i].cells∧BJ (AW hs) w w' ∧BJ (fun b=>hs[i].v.ownBlock=some b) w2 w' ∧AT w' base 5 1 hs[i].v hs[i].k (BK CE k hs[i].n++hs[i].xs.drop k)) (fun k=>hs[i].k - k) (0) ⟨rfl,rfl,rfl,rfl,trivial⟩ ?_ ?_
  ·exact ⟨by omega,g,J,BJ.refl _ _,by simpa [BK] using W⟩
  clear g W
  rintro k w3 ⟨L,g,E,y,v⟩
  refine Aq<|Ah<|Ad O<|A0 underlying179 O (Ho _)<|Aa (Ak (I8 _) O ‹_› rfl) O ?_
  refine Aa (Au (sz:=1) Hq O v.sl) O<|B1 O<|Aj<|Ao O ?_ ?_
  ·intro h
   have c:k<hs[i].k:=by simp at h;omega
   refine B2<|Aq<|Ar<|Cw.tail 7 mixed (by kernel_rfl)<|Ai (fun m d=>Ck underlying179 O (Ho _)) O<|Ai (fun m d=>Ak (I8 _) O (AN.bs ‹_› d) O) O ?_
   refine Bt O<|Ai (fun m d=>Ck underlying179 O (AV _)) O<|Ai (fun m d=>Ak (AI _) O (AN.bs ‹_› d) O) O ?_
   refine C3 O O (fun m d=>(JU hs[i].n m D).q d)<|Ai (fun m d=>Ed Hq O O v.sl.shp k O c) O ?_
   refine Qw.done (fun w4 d=> ?_)
   refine Br (G0 (Tm _) O O O (v.bs d) (by rw [IR (by simpa using t) L];exact c)) ?_
   rintro w5 ⟨X,s, -⟩
   rw [HS (by simpa using t) c] at X
   have b5:=(g.bs d).by s (fun e=>by have:=F _ e.symm;omega)
   refine Be<|Bi<|Cd<|Ad O<|B9 O (by omega)<|Ab O<|Be ?_
   exact Av (Bw (k+1) ⟨rfl,rfl,rfl,rfl,trivial⟩ (⟨c,b5,(E.below d).grown s (fun b e=> .inl ⟨_,q,e⟩),(y.below d).grown s (fun b e=> .inl e),X⟩) (by omega))
  intro h
  have c:k=hs[i].k:=by simp at h;omega
  rw [drop_of_length_le (by omega),append_nil,c] at v
  have hall:BJ (fun b=>hs[i].v.ownBlock=some b) m w3:=(BJ.of_below p).trans y
  refine Bn<|Al<|Al<|Bc<|Bi<|Cd<|Ad O<|B9 O (by omega)<|Ab O<|Be ?_
  exact Av (Bw (i+1) ⟨rfl,rfl,trivial⟩ (⟨a,E,fun j f G=>(if e:j=i then by subst e;exact v else (Q j f (by omega)).chg hall fun b M H=>BI l.apart a f (Ne.symm e) b H M),fun j f G=>(T j f (by omega)).chg hall fun b M H=>BI l.apart a f (by omega) b H M⟩) (by omega))
 intro h
 have a:i=hs.length:=by simp at h;omega
 refine Bn<|Al<|Al<|Bc<|Cs O ?_
 refine ⟨rfl,B,fun x hx=> ?_⟩
 obtain ⟨j,f,rfl⟩:=List.mem_iff_getElem.1 hx
 exact Q j f (by omega)
theorem NP (A:Nat) (D:List Value) (u:Value) (hs:List Hd) (lo base:Nat) (w:World) (hA:AN w A BE D) (hu:D[1]? =some u) (ho:w.ownsRow lo 179 3 u hs.length (AO hs)) (G:KOk hs) (hf:FW w base 5 CE hs)
  (hb1:¬AW hs A) (o:∀b,u.ownBlock=some b→¬AW hs b) (U:u.ownBlock≠some A) (hbase:base≤w.heap.size):
  AJ prog 86 [.pointer (some ⟨A,0,none⟩)] w (fun r w' =>r= .tuple #[]∧BJ (fun b=>AW hs b∨u.ownBlock=some b) w w' ∧∃d,DH w hs d∧w'.ownsRow lo 179 3 u hs.length (AO d)∧∀t ∈ d,DP w' CE t):=by
 have hle:=(AG ho).le
 refine Bd (n:=42) func86 O<|Ah<|Ab O<|Aj<|Ar ?_
 refine Bo (S:=(Nat×List Hd)) (fun s=>[(0, .pointer (some ⟨A,0,none⟩)),(2, .int .i64 (s.1:Int))]) (fun s w' =>s.1≤hs.length∧DH w hs s.2∧(∀t ∈ s.2,t.g.oneCell' =true)∧BJ (fun b=>AW hs b∨u.ownBlock=some b) w w' ∧w'.ownsRow lo 179 3 u hs.length (AO s.2)∧(∀j (m:j<s.2.length),j<s.1→DP w' CE s.2[j])∧(∀j (m:j<hs.length),s.1≤j→AT w' base 5 1 hs[j].v hs[j].k (BK CE hs[j].k hs[j].n))) (fun s=>hs.length - s.1) ((0,hs)) ⟨rfl,rfl,trivial⟩ ?_ ?_
 ·exact ⟨by simp,Eh w G.new,fun t R=>(by rw [G.new t R];rfl),BJ.refl _ _,ho,fun j m h=>by simp at h,fun j m _=>hf _ (getElem_mem m)⟩
 rintro ⟨i,d⟩ w1 ⟨hi,M,h1,N,o1,hd,R⟩
 dsimp only at hi M h1 N o1 hd R ⊢
 have b1:=hA.chg N (fun e=>e.elim hb1 U)
 have s1:=AG o1
 have hlen:=M.len
 refine Aq<|Ah<|Ad O<|Ad O<|Aa (Bb O) O<|A0 underlying55 O (JB _)<|Aa (Ak (Ky _) O b1 hu) O<|Aa (Au (sz:=3) JG O s1) O<|B1 O<|Aj<|Ao O ?_ ?_
 ·intro h
  have a:i<hs.length:=by simp at h;omega
  have x:i<d.length:=by omega
  obtain ⟨ev,ek,en,eg⟩:=M.all i a x
  have C:=getElem_mem a
  have hmt:=getElem_mem x
  have hfew:=G.few _ C
  have hnum:=G.num _ C
  have T:=h1 _ hmt
  have X:∀b,hs[i].v.ownBlock=some b→b<w.heap.size:=fun b e=>(hf.blk ⟨_,C,e⟩).2
  refine B2<|Aq<|Ar<|Ah<|Ad O<|Aa (Bb O) O<|A0 underlying55 O (JB _)<|Aa (Ak (Ky _) O b1 hu) O<|Ad O<|Aa (Cu JG O O s1 i O a) O<|Aa (C6 (cs:=d[i].cells) (On _) (Ni _) O s1 O (by decide) (BH x)) O<|Cv (cs:=d[i].cells) NB O O O O (fun _=>rfl) (by simp [Hd.cells,ev,(hf _ C).sl.one',T,DJ]) ?_
  rintro K w2 eA_h z L zhn2
  have hc2:=N.below L
  have z1:=N.size
  have z2:=hc2.size
  have r0:=(R i a (AX _)).bs L
  refine Bg<|A0 underlying179 O (Ho _)<|Aa (Ak (I8 _) O ‹_› rfl) O ?_
  refine Ab O<|Bj<|Ab O<|Aj<|Ar<|Ee 4 (v' :=hs[i].v) O (ev) ?_
  refine Bo (S:=(Nat×Value)) (fun s=>[(0, .pointer (some ⟨A,0,none⟩)),(2, .int .i64 (i:Int)),(3, .pointer (some ⟨K,0,none⟩)),(4,s.2),(5, .int .i64 (s.1:Int))]) (fun s w' =>s.1≤40∧AN w' K 179 d[i].cells∧BJ (fun b=>hs[i].v.ownBlock=some b) w2 w' ∧AT w' base 5 1 s.2 (hs[i].k+s.1) (BK CE (hs[i].k+s.1) hs[i].n)∧(∀b,s.2.ownBlock=some b→hs[i].v.ownBlock=some b∨w2.heap.size≤b)∧Sl w' 1 hs[i].v hs[i].k (BK CE hs[i].k hs[i].n)) (fun s=>40 - s.1) ((0,hs[i].v)) ⟨rfl,rfl,rfl,rfl,rfl,trivial⟩ ?_ ?_
  ·exact ⟨by simp,z,BJ.refl _ _,r0,fun b e=> .inl e,r0.sl⟩
  clear z
  rintro ⟨k,g⟩ w3 ⟨hk3,z,F,V,p,l3⟩
  dsimp only at hk3 V p ⊢
  have z3:=F.size
  refine Aq<|Ah<|Ad O<|B1 O<|Aj<|Ao O ?_ ?_
  ·intro h
   have E:k<40:=by simp at h;omega
   refine B2<|Aq<|Ar<|Bh<|Ad O<|A0 underlying179 O (AV _)<|Aa (Ak (AI _) O ‹_› rfl) O ?_
   refine Cm 30 (v' := .int .i64 hs[i].n) O (cngA (Value.int .i64) en)<|An O O (JU hs[i].n w3 hnum) ?_
   rintro _ H ⟨rfl,hn4⟩
   refine Bq (C2 (vs:=[CE hs[i].n]) Hq UG O O O O O) O ?_
   rintro nv w5 ⟨o5, -,hn5, -⟩
   have l:=bt hn4 hn5
   have z5:=l.size
   have r5:=V.bs l
   refine Bq (Ef (base:=base) Hq UG O (by decide) O O r5 (AG o5) O (by omega) (by omega) (by omega) (AX _)) O ?_
   rintro g' w6 ⟨r6,I,y⟩
   have l5:=l3.bs l
   have b5:=z.bs l
   have e6:BK CE (hs[i].k+k) hs[i].n++[CE hs[i].n]=BK CE (hs[i].k+(k+1)) hs[i].n:=HT
   rw [e6] at r6
   have hgA:some K≠g.ownBlock:=fun e=>by
    rcases p _ e.symm with c|c
    ·have:=X _ c;omega
    ·omega
   have l6:Sl w6 1 hs[i].v hs[i].k (BK CE hs[i].k hs[i].n):=HW r0 (.inl r6) I y l5 (by omega) (by simp [BK])
   have W:∀b,g'.ownBlock=some b→hs[i].v.ownBlock=some b∨w2.heap.size≤b:=fun b e=>by
    rcases y with c|⟨c, -⟩
    ·rw [c] at e;exact p b e
    ·exact .inr (by have:=c b e;omega)
   refine Ab O<|Be<|Bi<|Cd<|Ad O<|B9 O (by omega)<|Ab O<|Be ?_
   exact Av (Bw ((k+1,g')) ⟨rfl,rfl,rfl,rfl,rfl,trivial⟩ (⟨E,b5.by I hgA,(F.below l).grown I p, .inl r6,W,l6⟩) (by simp only;omega))
  intro h
  have E:k=40:=by simp at h;omega
  subst E
  have hall:BJ (fun b=>hs[i].v.ownBlock=some b) w1 w3:=(BJ.of_below L).trans F
  have Y:BJ (fun b=>AW hs b∨u.ownBlock=some b) w w3:=N.trans (hall.mono fun b e=> .inl ⟨_,C,e⟩)
  have b3:=hA.chg Y (fun e=>e.elim hb1 U)
  have o3:=AL o1 hall (fun b v f=>o b v ⟨_,C,f⟩)
  refine Bn<|Al<|Al<|Bc<|Cd<|Ad O<|Aa (Bb O) O<|A0 underlying55 O (JB _)<|Aa (Ak (Ky _) O b3 hu) O<|Ad O<|Ad O<|Aa (Cu JG O O (AG o3) i O a) O<|Aa (Dj underlying179 O (Ho _) O (Ht o3 (by omega))) O<|Br (E1 (j:=i*3+1) (Ho _) O O V.sl.one' o3 (by rw [EU];omega)) ?_
  rintro H ⟨o4,B, -⟩
  have e4:=ET x g
  have o4:H.ownsRow lo 179 3 u hs.length (AO (d.set i {d[i] with g:=g})):=by rw [← e4];exact o4
  have hG4:=M.set a x (g:=g) (fun b e=>by
   rcases p b e with c|c
   ·exact .inl c
   ·exact .inr (by omega))
  have q:BJ (fun b=>hs[i].v.ownBlock=some b∨u.ownBlock=some b) w1 H:=(hall.mono fun b e=> .inl e).grown B (fun b e=> .inl (.inr e))
  have hS4:BJ (fun b=>AW hs b∨u.ownBlock=some b) w H:=Y.grown B (fun b e=> .inl (.inr e))
  have t4:DP H CE {d[i] with g:=g}:=by
   refine ⟨?_, ?_⟩
   ·simp only;rw [ev,ek,en]
    refine l3.by B ?_
    cases hv:hs[i].v.ownBlock with
    |none=>exact .inl rfl
    |some b=>exact .inr fun e=>o b e.symm ⟨_,C,hv⟩
   ·simp only;rw [ek,en]
    refine V.sl.by B ?_
    cases hv:g.ownBlock with
    |none=>exact .inl rfl
    |some b=>
     refine .inr fun e=> ?_
     rcases p b hv with c|c
     ·exact o b e.symm ⟨_,C,c⟩
     ·have:=(AF ho b e.symm).2;omega
  have h14:∀t ∈ d.set i {d[i] with g:=g},t.g.oneCell' =true:=fun t J=>by
   rcases mem_or_eq_of_mem_set J with c|c
   ·exact h1 t c
   ·rw [c];exact V.sl.one'
  have hd4:∀j (m:j<(d.set i {d[i] with g:=g}).length),j<i+1→DP H CE (d.set i {d[i] with g:=g})[j]:=fun j m hji=>by
    rw [getElem_set]
    split
    ·exact t4
    ·rename_i Q
     have Z:j<d.length:=by simpa using m
     obtain ⟨fv,_,_,fg⟩:=M.all j (by omega) Z
     refine (hd j Z (by omega)).chg q (fun b v _ f=> ?_) (fun b v _ f=> ?_)
     ·rw [fv] at v
      rcases f with f|f
      ·exact BI G.apart a (show j<hs.length by omega) Q b f v
      ·exact o b f ⟨_,getElem_mem _,v⟩
     ·rcases f with f|f
      ·rcases fg b v with c|c
       ·exact BI G.apart a (show j<hs.length by omega) Q b f c
       ·have:=X b f;omega
      ·rcases fg b v with c|c
       ·exact o b f ⟨_,getElem_mem _,c⟩
       ·have:=(AF ho b f).2;omega
  have ht4:∀j (m:j<hs.length),i+1≤j→AT H base 5 1 hs[j].v hs[j].k (BK CE hs[j].k hs[j].n):=fun j m hji=>(R j m (by omega)).chg q (fun b v f=>(by
    rcases f with f|f
    ·exact BI G.apart a m (by omega) b f v
    ·exact o b f ⟨_,getElem_mem _,v⟩))
  refine Be<|Bi<|Cd<|Ad O<|B9 O (by omega)<|Ab O<|Be ?_
  exact Av (Bw ((i+1,d.set i {d[i] with g:=g})) ⟨rfl,rfl,trivial⟩ (⟨a,hG4,h14,hS4,o4,hd4,ht4⟩) (by simp only;omega))
 intro h
 have a:i=hs.length:=by simp at h;omega
 refine Bn<|Al<|Al<|Bc<|Cs O ?_
 refine ⟨rfl,N,d,M,o1,fun t J=> ?_⟩
 obtain ⟨j,m,rfl⟩:=List.mem_iff_getElem.1 J
 exact hd j m (by omega)
theorem N1 (A:Nat) (l:List Value) (u:Value) (c:List Hd) (U:Nat) (w:World) (N:AN w A BE l) (H:l[1]? =some u) (G:w.ownsRow U 179 3 u c.length (AO c)) (M:∀t ∈ c,DP w CE t) (R:∀t ∈ c,(0≤t.n∧t.n≤4000000)∧t.k≤16777216):
  AJ prog 101 [.pointer (some ⟨A,0,none⟩)] w (fun r w' =>r= .bool true∧Below w.heap.size w w'):=by
 have T:=(AG G).le
 refine Bd (n:=64) func101 O<|Ah<|Ab O<|Bj<|Ab O<|Aj<|Ar ?_
 refine Bo (S:=Nat) (fun i=>[(0, .pointer (some ⟨A,0,none⟩)),(2, .bool false),(3, .int .i64 (i:Int))]) (fun i w' =>i≤c.length∧Below w.heap.size w w') (fun i=>c.length - i) (0) ⟨rfl,rfl,rfl,trivial⟩ ?_ ?_
 ·exact ⟨by omega,Below.refl _ _⟩
 rintro i b ⟨X,j⟩
 have C:=N.bs j
 have y:=(AG G).bs j
 refine Aq<|Ah<|Ad O<|Ad O<|Aa (Bb O) O<|A0 underlying55 O (JB _)<|Aa (Ak (Ky _) O C H) O<|Aa (Au (sz:=3) JG O y) O<|B1 O<|Aj<|Ao O ?_ ?_
 ·intro h
  have f:i<c.length:=by simp at h;omega
  have I:=getElem_mem f
  obtain ⟨m,J⟩:=R _ I
  have q:=M _ I
  refine B2<|Aq<|Ar<|Ah<|Ad O<|Aa (Bb O) O<|A0 underlying55 O (JB _)<|Aa (Ak (Ky _) O C H) O<|Ad O<|Aa (Cu JG O O y i O f) O<|Aa (C6 (cs:=c[i].cells) (On _) (Ni _) O y O (by decide) (BH f)) O<|Cv (cs:=c[i].cells) NB O O O O (fun _=>rfl) (by simp [Hd.cells,q.l.one',q.g.one',DJ]) ?_
  rintro v K D s z F
  have o:=bt j z
  have l2:=q.l.bs o
  have E:=q.g.bs o
  refine Bj<|A0 underlying179 O (Ho _)<|Aa (Ak (I8 _) O ‹_› rfl) O ?_
  refine Aa (Au (sz:=1) Hq O E) O<|A0 underlying179 O (Ho _)<|Aa (Ak (I8 _) O ‹_› rfl) O ?_
  refine Aa (Au (sz:=1) Hq O l2) O<|B9 O (by omega)<|Aa (Cn O O) O<|Aj<|Bv O false (by simp)<|Cp<|Ab O<|Aj<|Ar ?_
  refine Bo (S:=Nat) (fun k=>[(0, .pointer (some ⟨A,0,none⟩)),(2, .bool false),(3, .int .i64 (i:Int)),(4, .pointer (some ⟨v,0,none⟩)),(5, .int .i64 (k:Int))]) (fun k w' =>k≤c[i].k+40∧Below K.heap.size K w') (fun k=>c[i].k+40 - k) (0) ⟨rfl,rfl,rfl,rfl,rfl,trivial⟩ ?_ ?_
  ·exact ⟨by omega,Below.refl _ _⟩
  rintro k V ⟨Q,d⟩
  have x:=l2.bs d
  have B:=E.bs d
  have W:=s.bs d
  refine Aq<|Ah<|Ad O<|A0 underlying179 O (Ho _)<|Aa (Ak (I8 _) O ‹_› rfl) O ?_
  refine Aa (Au (sz:=1) Hq O B) O<|B1 O<|Aj<|Ao O ?_ ?_
  ·intro h
   have e:k<c[i].k+40:=by simp at h;omega
   refine B2<|Aq<|Ar<|Aq<|C8 mixed (by kernel_rfl)<|Ai (fun b a=>Ck underlying179 O (Ho _)) O<|Ai (fun b a=>Ak (I8 _) O (AN.bs ‹_› a) O) O ?_
   refine Bt O<|Ai (fun b a=>Ed Hq O O B.shp k O e) O<|Ai (fun b a=>E4 (u:=CE c[i].n) (UK _) O (B.bs a) (FN e)) O<|Ai (fun b a=>Ck underlying179 O (AV _)) O<|Ai (fun b a=>Ak (AI _) O (AN.bs ‹_› a) O) O ?_
   refine C3 O O (fun b a=>(Mv c[i].n b m).q a)<|Ai (fun b a=>Co O) O<|Bt O<|Ey 46 (v' := .bool false) O (cngA Value.bool (rfl))<|Az (dj:=46) O O<|Bt O<|Az (dj:=46) O O<|Ai (fun b a=>Ck underlying179 O (Ho _)) O<|Az (dj:=46) O O<|Ai (fun b a=>Ak (I8 _) O (AN.bs ‹_› a) O) O ?_
   refine Az (dj:=46) O O<|Ai (fun b a=>Au (sz:=1) Hq O (x.bs a)) O<|Az (dj:=46) O O<|Ai (fun b a=>Ep O O) O<|Az (dj:=46) O O<|Bt O ?_
   refine Di 52 O ?_ ?_
   ·intro g
    have p:k<c[i].k:=by simpa using g
    refine Az (dj:=52) O O<|Ai (fun b a=>Ck underlying179 O (Ho _)) O<|Az (dj:=52) O O<|Ai (fun b a=>Ak (I8 _) O (AN.bs ‹_› a) O) O ?_
    refine Az (dj:=52) O O<|Bt O<|Az (dj:=52) O O<|Ai (fun b a=>Ed Hq O O x.shp k O p) O<|Az (dj:=52) O O<|Ai (fun b a=>E4 (u:=CE c[i].n) (UK _) O (x.bs a) (FN p)) O<|Az (dj:=52) O O<|Ai (fun b a=>Ck underlying179 O (AV _)) O<|Az (dj:=52) O O<|Ai (fun b a=>Ak (AI _) O (AN.bs ‹_› a) O) O ?_
    refine Az (dj:=52) O O<|C3 O O (fun b a=>(Mv c[i].n b m).q a)<|Az (dj:=52) O O<|Ai (fun b a=>Co O) O<|Az (dj:=46) O O<|Ai (fun b a=>Cy O O) O<|Ai (fun b a=>Cx O O) O ?_
    refine C1 (fun L a=> ?_)
    refine Av<|B8<|Bv O false (rfl)<|Ca<|Bi<|Cd<|Ad O<|B9 O (by omega)<|Ab O<|Be ?_
    exact Av (Bw (k+1) ⟨rfl,rfl,rfl,rfl,rfl,trivial⟩ (⟨e,bt d a⟩) (by omega))
   ·intro g
    refine As (dj:=52) O O O O<|As (dj:=52) O O O O<|As (dj:=52) O O O O<|As (dj:=52) O O O O<|As (dj:=52) O O O O<|As (dj:=52) O O O O<|As (dj:=52) O O O O<|As (dj:=52) O O O O<|As (dj:=52) O O O O<|Az (dj:=46) O O<|Ai (fun b a=>Cx O O) O<|Ai (fun b a=>Cx O O) O ?_
    refine C1 (fun L a=> ?_)
    refine Av<|B8<|D5 O<|Ca<|Bi<|Cd<|Ad O<|B9 O (by omega)<|Ab O<|Be ?_
    exact Av (Bw (k+1) ⟨rfl,rfl,rfl,rfl,rfl,trivial⟩ (⟨e,bt d a⟩) (by omega))
  intro h
  refine Bn<|Al<|Al<|Bc<|Bi<|Cd<|Ad O<|B9 O (by omega)<|Ab O<|Be ?_
  exact Av (Bw (i+1) ⟨rfl,rfl,rfl,trivial⟩ (⟨f,bt o d⟩) (by omega))
 intro h
 exact Bn<|Al<|Al<|Bc<|Ci<|Ab rfl<|Ay<|Ax rfl rfl<|⟨rfl,j⟩
abbrev DB (n:Int):Value:= .int .i64 (-n)
theorem KG (n:Int) (w:World) (_hn:0≤n∧n≤4000000):AJ prog 170 [.int .i64 n] w (fun r w' =>r=DB n∧Below w.heap.size w w'):=by
 refine Bd (n:=5) func170 O<|Ah<|Ab O<|Bg<|Ad O<|Aa (Em O (by omega)) O<|Ab O<|Ay<|Ax O O ?_
 exact ⟨rfl,Below.refl _ _⟩
theorem OB (n:Int) (w:World) (_hn:0≤n∧n≤4000000):AJ prog 185 [DB n, .int .i64 n] w (fun r w' =>r= .bool true∧Below w.heap.size w w'):=by
 refine Bd (n:=9) func185 O<|Ah<|Ab O<|Bg<|Ad O<|Ad O<|Aa (Em O (by omega)) O<|Aa (Cl O O) O<|Ab O<|Ay<|Ax O O ?_
 exact ⟨cngA Value.bool (by simp),Below.refl _ _⟩
theorem P5 (A:Nat) (o:List Value) (u:Value) (hs:List Hd) (lo base:Nat) (w:World) (hA:AN w A BE o) (Z:o[2]? =some u) (Y:w.ownsRow lo 182 3 u hs.length (AO hs)) (l:DU w base 3 1 hs)
  (N:¬AW hs A) (K:∀b,u.ownBlock=some b→¬AW hs b):
  AJ prog 72 [.pointer (some ⟨A,0,none⟩)] w (fun r w' =>r= .tuple #[]∧BJ (AW hs) w w' ∧FW w' base 3 DB hs):=by
 have hle:=(AG Y).le
 refine Bd (n:=35) func72 O<|Ah<|Ab O<|Aj<|Ar ?_
 refine Bo (S:=Nat) (fun i=>[(0, .pointer (some ⟨A,0,none⟩)),(2, .int .i64 (i:Int))]) (fun i w' =>i≤hs.length∧BJ (AW hs) w w' ∧(∀j (f:j<hs.length),j<i→AT w' base 3 1 hs[j].v hs[j].k (BK DB hs[j].k hs[j].n))∧(∀j (f:j<hs.length),i≤j→AT w' base 3 1 hs[j].v hs[j].k hs[j].xs)) (fun i=>hs.length - i) (0) ⟨rfl,rfl,trivial⟩ ?_ ?_
 ·exact ⟨by omega,BJ.refl _ _,fun j f h=>by omega,fun j f _=>l.own _ (getElem_mem f)⟩
 rintro i m ⟨hi,B,Q,T⟩
 have R:=hA.chg B N
 have I:=AG (AL Y B K)
 refine Aq<|Ah<|Ad O<|Ad O<|Aa (Bb O) O<|A0 underlying55 O (HK _)<|Aa (Ak (Jo _) O R Z) O<|Aa (Au (sz:=3) Ig O I) O<|B1 O<|Aj<|Ao O ?_ ?_
 ·intro h
  have a:i<hs.length:=by simp at h;omega
  have q:=getElem_mem a
  have hfew:=l.few _ q
  have D:=l.num _ q
  have C:hs[i].g.oneCell' =true:=by rw [l.new _ q];rfl
  have t:=(l.own _ q).len
  have F:∀b,hs[i].v.ownBlock=some b→b<w.heap.size:=fun b e=>(l.blk ⟨_,q,e⟩).2
  refine B2<|Aq<|Ar<|Ah<|Ad O<|Aa (Bb O) O<|A0 underlying55 O (HK _)<|Aa (Ak (Jo _) O R Z) O<|Ad O<|Aa (Cu Ig O O I i O a) O<|Aa (C6 (cs:=hs[i].cells) (Om _) (Nh _) O I O (by decide) (BH a)) O<|Cv (cs:=hs[i].cells) Kf O O O O (fun _=>rfl) (by simp [Hd.cells,(l.own _ q).sl.one',C,DJ]) ?_
  rintro z w2 U g p V
  have J:=B.below p
  have z1:=B.size
  have W:=(T i a (AX _)).bs p
  refine Bg<|Ab O<|Aj<|Ar ?_
  refine Bo (S:=Nat) (fun k=>[(0, .pointer (some ⟨A,0,none⟩)),(2, .int .i64 (i:Int)),(3, .pointer (some ⟨z,0,none⟩)),(4, .int .i64 (k:Int))]) (fun k w' =>k≤hs[i].k∧AN w' z 182 hs[i].cells∧BJ (AW hs) w w' ∧BJ (fun b=>hs[i].v.ownBlock=some b) w2 w' ∧AT w' base 3 1 hs[i].v hs[i].k (BK DB k hs[i].n++hs[i].xs.drop k)) (fun k=>hs[i].k - k) (0) ⟨rfl,rfl,rfl,rfl,trivial⟩ ?_ ?_
  ·exact ⟨by omega,g,J,BJ.refl _ _,by simpa [BK] using W⟩
  clear g W
  rintro k w3 ⟨L,g,E,y,v⟩
  refine Aq<|Ah<|Ad O<|A0 underlying182 O (AU _)<|Aa (Ak (AK _) O ‹_› rfl) O ?_
  refine Aa (Au (sz:=1) AD O v.sl) O<|B1 O<|Aj<|Ao O ?_ ?_
  ·intro h
   have c:k<hs[i].k:=by simp at h;omega
   refine B2<|Aq<|Ar<|Cw.tail 7 mixed (by kernel_rfl)<|Ai (fun m d=>Ck underlying182 O (AU _)) O<|Ai (fun m d=>Ak (AK _) O (AN.bs ‹_› d) O) O ?_
   refine Bt O<|Ai (fun m d=>Ck underlying182 O (AV _)) O<|Ai (fun m d=>Ak (AI _) O (AN.bs ‹_› d) O) O ?_
   refine C3 O O (fun m d=>(KG hs[i].n m D).q d)<|Ai (fun m d=>Ed AD O O v.sl.shp k O c) O ?_
   refine Qw.done (fun w4 d=> ?_)
   refine Br (G0 (AV _) O O O (v.bs d) (by rw [IR (by simpa using t) L];exact c)) ?_
   rintro w5 ⟨X,s, -⟩
   rw [HS (by simpa using t) c] at X
   have b5:=(g.bs d).by s (fun e=>by have:=F _ e.symm;omega)
   refine Be<|Bi<|Cd<|Ad O<|B9 O (by omega)<|Ab O<|Be ?_
   exact Av (Bw (k+1) ⟨rfl,rfl,rfl,rfl,trivial⟩ (⟨c,b5,(E.below d).grown s (fun b e=> .inl ⟨_,q,e⟩),(y.below d).grown s (fun b e=> .inl e),X⟩) (by omega))
  intro h
  have c:k=hs[i].k:=by simp at h;omega
  rw [drop_of_length_le (by omega),append_nil,c] at v
  have hall:BJ (fun b=>hs[i].v.ownBlock=some b) m w3:=(BJ.of_below p).trans y
  refine Bn<|Al<|Al<|Bc<|Bi<|Cd<|Ad O<|B9 O (by omega)<|Ab O<|Be ?_
  exact Av (Bw (i+1) ⟨rfl,rfl,trivial⟩ (⟨a,E,fun j f G=>(if e:j=i then by subst e;exact v else (Q j f (by omega)).chg hall fun b M H=>BI l.apart a f (Ne.symm e) b H M),fun j f G=>(T j f (by omega)).chg hall fun b M H=>BI l.apart a f (by omega) b H M⟩) (by omega))
 intro h
 have a:i=hs.length:=by simp at h;omega
 refine Bn<|Al<|Al<|Bc<|Cs O ?_
 refine ⟨rfl,B,fun x hx=> ?_⟩
 obtain ⟨j,f,rfl⟩:=List.mem_iff_getElem.1 hx
 exact Q j f (by omega)
theorem P0 (A:Nat) (D:List Value) (u:Value) (hs:List Hd) (lo base:Nat) (w:World) (hA:AN w A BE D) (hu:D[2]? =some u) (ho:w.ownsRow lo 182 3 u hs.length (AO hs)) (G:KOk hs) (hf:FW w base 3 DB hs)
  (hb1:¬AW hs A) (o:∀b,u.ownBlock=some b→¬AW hs b) (U:u.ownBlock≠some A) (hbase:base≤w.heap.size):
  AJ prog 87 [.pointer (some ⟨A,0,none⟩)] w (fun r w' =>r= .tuple #[]∧BJ (fun b=>AW hs b∨u.ownBlock=some b) w w' ∧∃d,DH w hs d∧w'.ownsRow lo 182 3 u hs.length (AO d)∧∀t ∈ d,DP w' DB t):=by
 have hle:=(AG ho).le
 refine Bd (n:=42) func87 O<|Ah<|Ab O<|Aj<|Ar ?_
 refine Bo (S:=(Nat×List Hd)) (fun s=>[(0, .pointer (some ⟨A,0,none⟩)),(2, .int .i64 (s.1:Int))]) (fun s w' =>s.1≤hs.length∧DH w hs s.2∧(∀t ∈ s.2,t.g.oneCell' =true)∧BJ (fun b=>AW hs b∨u.ownBlock=some b) w w' ∧w'.ownsRow lo 182 3 u hs.length (AO s.2)∧(∀j (m:j<s.2.length),j<s.1→DP w' DB s.2[j])∧(∀j (m:j<hs.length),s.1≤j→AT w' base 3 1 hs[j].v hs[j].k (BK DB hs[j].k hs[j].n))) (fun s=>hs.length - s.1) ((0,hs)) ⟨rfl,rfl,trivial⟩ ?_ ?_
 ·exact ⟨by simp,Eh w G.new,fun t R=>(by rw [G.new t R];rfl),BJ.refl _ _,ho,fun j m h=>by simp at h,fun j m _=>hf _ (getElem_mem m)⟩
 rintro ⟨i,d⟩ w1 ⟨hi,M,h1,N,o1,hd,R⟩
 dsimp only at hi M h1 N o1 hd R ⊢
 have b1:=hA.chg N (fun e=>e.elim hb1 U)
 have s1:=AG o1
 have hlen:=M.len
 refine Aq<|Ah<|Ad O<|Ad O<|Aa (Bb O) O<|A0 underlying55 O (HK _)<|Aa (Ak (Jo _) O b1 hu) O<|Aa (Au (sz:=3) Ig O s1) O<|B1 O<|Aj<|Ao O ?_ ?_
 ·intro h
  have a:i<hs.length:=by simp at h;omega
  have x:i<d.length:=by omega
  obtain ⟨ev,ek,en,eg⟩:=M.all i a x
  have C:=getElem_mem a
  have hmt:=getElem_mem x
  have hfew:=G.few _ C
  have hnum:=G.num _ C
  have T:=h1 _ hmt
  have X:∀b,hs[i].v.ownBlock=some b→b<w.heap.size:=fun b e=>(hf.blk ⟨_,C,e⟩).2
  refine B2<|Aq<|Ar<|Ah<|Ad O<|Aa (Bb O) O<|A0 underlying55 O (HK _)<|Aa (Ak (Jo _) O b1 hu) O<|Ad O<|Aa (Cu Ig O O s1 i O a) O<|Aa (C6 (cs:=d[i].cells) (Om _) (Nh _) O s1 O (by decide) (BH x)) O<|Cv (cs:=d[i].cells) Kf O O O O (fun _=>rfl) (by simp [Hd.cells,ev,(hf _ C).sl.one',T,DJ]) ?_
  rintro K w2 eA_h z L zhn2
  have hc2:=N.below L
  have z1:=N.size
  have z2:=hc2.size
  have r0:=(R i a (AX _)).bs L
  refine Bg<|A0 underlying182 O (AU _)<|Aa (Ak (AK _) O ‹_› rfl) O ?_
  refine Ab O<|Bj<|Ab O<|Aj<|Ar<|Ee 4 (v' :=hs[i].v) O (ev) ?_
  refine Bo (S:=(Nat×Value)) (fun s=>[(0, .pointer (some ⟨A,0,none⟩)),(2, .int .i64 (i:Int)),(3, .pointer (some ⟨K,0,none⟩)),(4,s.2),(5, .int .i64 (s.1:Int))]) (fun s w' =>s.1≤40∧AN w' K 182 d[i].cells∧BJ (fun b=>hs[i].v.ownBlock=some b) w2 w' ∧AT w' base 3 1 s.2 (hs[i].k+s.1) (BK DB (hs[i].k+s.1) hs[i].n)∧(∀b,s.2.ownBlock=some b→hs[i].v.ownBlock=some b∨w2.heap.size≤b)∧Sl w' 1 hs[i].v hs[i].k (BK DB hs[i].k hs[i].n)) (fun s=>40 - s.1) ((0,hs[i].v)) ⟨rfl,rfl,rfl,rfl,rfl,trivial⟩ ?_ ?_
  ·exact ⟨by simp,z,BJ.refl _ _,r0,fun b e=> .inl e,r0.sl⟩
  clear z
  rintro ⟨k,g⟩ w3 ⟨hk3,z,F,V,p,l3⟩
  dsimp only at hk3 V p ⊢
  have z3:=F.size
  refine Aq<|Ah<|Ad O<|B1 O<|Aj<|Ao O ?_ ?_
  ·intro h
   have E:k<40:=by simp at h;omega
   refine B2<|Aq<|Ar<|Bh<|Ad O<|A0 underlying182 O (AV _)<|Aa (Ak (AI _) O ‹_› rfl) O ?_
   refine Cm 30 (v' := .int .i64 hs[i].n) O (cngA (Value.int .i64) en)<|An O O (KG hs[i].n w3 hnum) ?_
   rintro _ H ⟨rfl,hn4⟩
   refine Bq (C2 (vs:=[DB hs[i].n]) AD DT O O O O O) O ?_
   rintro nv w5 ⟨o5, -,hn5, -⟩
   have l:=bt hn4 hn5
   have z5:=l.size
   have r5:=V.bs l
   refine Bq (Ef (base:=base) AD DT O (by decide) O O r5 (AG o5) O (by omega) (by omega) (by omega) (AX _)) O ?_
   rintro g' w6 ⟨r6,I,y⟩
   have l5:=l3.bs l
   have b5:=z.bs l
   have e6:BK DB (hs[i].k+k) hs[i].n++[DB hs[i].n]=BK DB (hs[i].k+(k+1)) hs[i].n:=HT
   rw [e6] at r6
   have hgA:some K≠g.ownBlock:=fun e=>by
    rcases p _ e.symm with c|c
    ·have:=X _ c;omega
    ·omega
   have l6:Sl w6 1 hs[i].v hs[i].k (BK DB hs[i].k hs[i].n):=HW r0 (.inl r6) I y l5 (by omega) (by simp [BK])
   have W:∀b,g'.ownBlock=some b→hs[i].v.ownBlock=some b∨w2.heap.size≤b:=fun b e=>by
    rcases y with c|⟨c, -⟩
    ·rw [c] at e;exact p b e
    ·exact .inr (by have:=c b e;omega)
   refine Ab O<|Be<|Bi<|Cd<|Ad O<|B9 O (by omega)<|Ab O<|Be ?_
   exact Av (Bw ((k+1,g')) ⟨rfl,rfl,rfl,rfl,rfl,trivial⟩ (⟨E,b5.by I hgA,(F.below l).grown I p, .inl r6,W,l6⟩) (by simp only;omega))
  intro h
  have E:k=40:=by simp at h;omega
  subst E
  have hall:BJ (fun b=>hs[i].v.ownBlock=some b) w1 w3:=(BJ.of_below L).trans F
  have Y:BJ (fun b=>AW hs b∨u.ownBlock=some b) w w3:=N.trans (hall.mono fun b e=> .inl ⟨_,C,e⟩)
  have b3:=hA.chg Y (fun e=>e.elim hb1 U)
  have o3:=AL o1 hall (fun b v f=>o b v ⟨_,C,f⟩)
  refine Bn<|Al<|Al<|Bc<|Cd<|Ad O<|Aa (Bb O) O<|A0 underlying55 O (HK _)<|Aa (Ak (Jo _) O b3 hu) O<|Ad O<|Ad O<|Aa (Cu Ig O O (AG o3) i O a) O<|Aa (Dj underlying182 O (AU _) O (Ht o3 (by omega))) O<|Br (E1 (j:=i*3+1) (AU _) O O V.sl.one' o3 (by rw [EU];omega)) ?_
  rintro H ⟨o4,B, -⟩
  have e4:=ET x g
  have o4:H.ownsRow lo 182 3 u hs.length (AO (d.set i {d[i] with g:=g})):=by rw [← e4];exact o4
  have hG4:=M.set a x (g:=g) (fun b e=>by
   rcases p b e with c|c
   ·exact .inl c
   ·exact .inr (by omega))
  have q:BJ (fun b=>hs[i].v.ownBlock=some b∨u.ownBlock=some b) w1 H:=(hall.mono fun b e=> .inl e).grown B (fun b e=> .inl (.inr e))
  have hS4:BJ (fun b=>AW hs b∨u.ownBlock=some b) w H:=Y.grown B (fun b e=> .inl (.inr e))
  have t4:DP H DB {d[i] with g:=g}:=by
   refine ⟨?_, ?_⟩
   ·simp only;rw [ev,ek,en]
    refine l3.by B ?_
    cases hv:hs[i].v.ownBlock with
    |none=>exact .inl rfl
    |some b=>exact .inr fun e=>o b e.symm ⟨_,C,hv⟩
   ·simp only;rw [ek,en]
    refine V.sl.by B ?_
    cases hv:g.ownBlock with
    |none=>exact .inl rfl
    |some b=>
     refine .inr fun e=> ?_
     rcases p b hv with c|c
     ·exact o b e.symm ⟨_,C,c⟩
     ·have:=(AF ho b e.symm).2;omega
  have h14:∀t ∈ d.set i {d[i] with g:=g},t.g.oneCell' =true:=fun t J=>by
   rcases mem_or_eq_of_mem_set J with c|c
   ·exact h1 t c
   ·rw [c];exact V.sl.one'
  have hd4:∀j (m:j<(d.set i {d[i] with g:=g}).length),j<i+1→DP H DB (d.set i {d[i] with g:=g})[j]:=fun j m hji=>by
    rw [getElem_set]
    split
    ·exact t4
    ·rename_i Q
     have Z:j<d.length:=by simpa using m
     obtain ⟨fv,_,_,fg⟩:=M.all j (by omega) Z
     refine (hd j Z (by omega)).chg q (fun b v _ f=> ?_) (fun b v _ f=> ?_)
     ·rw [fv] at v
      rcases f with f|f
      ·exact BI G.apart a (show j<hs.length by omega) Q b f v
      ·exact o b f ⟨_,getElem_mem _,v⟩
     ·rcases f with f|f
      ·rcases fg b v with c|c
       ·exact BI G.apart a (show j<hs.length by omega) Q b f c
       ·have:=X b f;omega
      ·rcases fg b v with c|c
       ·exact o b f ⟨_,getElem_mem _,c⟩
       ·have:=(AF ho b f).2;omega
  have ht4:∀j (m:j<hs.length),i+1≤j→AT H base 3 1 hs[j].v hs[j].k (BK DB hs[j].k hs[j].n):=fun j m hji=>(R j m (by omega)).chg q (fun b v f=>(by
    rcases f with f|f
    ·exact BI G.apart a m (by omega) b f v
    ·exact o b f ⟨_,getElem_mem _,v⟩))
  refine Be<|Bi<|Cd<|Ad O<|B9 O (by omega)<|Ab O<|Be ?_
  exact Av (Bw ((i+1,d.set i {d[i] with g:=g})) ⟨rfl,rfl,trivial⟩ (⟨a,hG4,h14,hS4,o4,hd4,ht4⟩) (by simp only;omega))
 intro h
 have a:i=hs.length:=by simp at h;omega
 refine Bn<|Al<|Al<|Bc<|Cs O ?_
 refine ⟨rfl,N,d,M,o1,fun t J=> ?_⟩
 obtain ⟨j,m,rfl⟩:=List.mem_iff_getElem.1 J
 exact hd j m (by omega)
theorem Ph (A:Nat) (l:List Value) (u:Value) (c:List Hd) (U:Nat) (w:World) (N:AN w A BE l) (H:l[2]? =some u) (G:w.ownsRow U 182 3 u c.length (AO c)) (M:∀t ∈ c,DP w DB t) (R:∀t ∈ c,(0≤t.n∧t.n≤4000000)∧t.k≤16777216):
  AJ prog 102 [.pointer (some ⟨A,0,none⟩)] w (fun r w' =>r= .bool true∧Below w.heap.size w w'):=by
 have T:=(AG G).le
 refine Bd (n:=64) func102 O<|Ah<|Ab O<|Bj<|Ab O<|Aj<|Ar ?_
 refine Bo (S:=Nat) (fun i=>[(0, .pointer (some ⟨A,0,none⟩)),(2, .bool false),(3, .int .i64 (i:Int))]) (fun i w' =>i≤c.length∧Below w.heap.size w w') (fun i=>c.length - i) (0) ⟨rfl,rfl,rfl,trivial⟩ ?_ ?_
 ·exact ⟨by omega,Below.refl _ _⟩
 rintro i b ⟨X,j⟩
 have C:=N.bs j
 have y:=(AG G).bs j
 refine Aq<|Ah<|Ad O<|Ad O<|Aa (Bb O) O<|A0 underlying55 O (HK _)<|Aa (Ak (Jo _) O C H) O<|Aa (Au (sz:=3) Ig O y) O<|B1 O<|Aj<|Ao O ?_ ?_
 ·intro h
  have f:i<c.length:=by simp at h;omega
  have I:=getElem_mem f
  obtain ⟨m,J⟩:=R _ I
  have q:=M _ I
  refine B2<|Aq<|Ar<|Ah<|Ad O<|Aa (Bb O) O<|A0 underlying55 O (HK _)<|Aa (Ak (Jo _) O C H) O<|Ad O<|Aa (Cu Ig O O y i O f) O<|Aa (C6 (cs:=c[i].cells) (Om _) (Nh _) O y O (by decide) (BH f)) O<|Cv (cs:=c[i].cells) Kf O O O O (fun _=>rfl) (by simp [Hd.cells,q.l.one',q.g.one',DJ]) ?_
  rintro v K D s z F
  have o:=bt j z
  have l2:=q.l.bs o
  have E:=q.g.bs o
  refine Bj<|A0 underlying182 O (AU _)<|Aa (Ak (AK _) O ‹_› rfl) O ?_
  refine Aa (Au (sz:=1) AD O E) O<|A0 underlying182 O (AU _)<|Aa (Ak (AK _) O ‹_› rfl) O ?_
  refine Aa (Au (sz:=1) AD O l2) O<|B9 O (by omega)<|Aa (Cn O O) O<|Aj<|Bv O false (by simp)<|Cp<|Ab O<|Aj<|Ar ?_
  refine Bo (S:=Nat) (fun k=>[(0, .pointer (some ⟨A,0,none⟩)),(2, .bool false),(3, .int .i64 (i:Int)),(4, .pointer (some ⟨v,0,none⟩)),(5, .int .i64 (k:Int))]) (fun k w' =>k≤c[i].k+40∧Below K.heap.size K w') (fun k=>c[i].k+40 - k) (0) ⟨rfl,rfl,rfl,rfl,rfl,trivial⟩ ?_ ?_
  ·exact ⟨by omega,Below.refl _ _⟩
  rintro k V ⟨Q,d⟩
  have x:=l2.bs d
  have B:=E.bs d
  have W:=s.bs d
  refine Aq<|Ah<|Ad O<|A0 underlying182 O (AU _)<|Aa (Ak (AK _) O ‹_› rfl) O ?_
  refine Aa (Au (sz:=1) AD O B) O<|B1 O<|Aj<|Ao O ?_ ?_
  ·intro h
   have e:k<c[i].k+40:=by simp at h;omega
   refine B2<|Aq<|Ar<|Aq<|C8 mixed (by kernel_rfl)<|Ai (fun b a=>Ck underlying182 O (AU _)) O<|Ai (fun b a=>Ak (AK _) O (AN.bs ‹_› a) O) O ?_
   refine Bt O<|Ai (fun b a=>Ed AD O O B.shp k O e) O<|Ai (fun b a=>E4 (u:=DB c[i].n) (AI _) O (B.bs a) (FN e)) O<|Ai (fun b a=>Ck underlying182 O (AV _)) O<|Ai (fun b a=>Ak (AI _) O (AN.bs ‹_› a) O) O ?_
   refine C3 O O (fun b a=>(OB c[i].n b m).q a)<|Ai (fun b a=>Co O) O<|Bt O<|Ey 46 (v' := .bool false) O (cngA Value.bool (rfl))<|Az (dj:=46) O O<|Bt O<|Az (dj:=46) O O<|Ai (fun b a=>Ck underlying182 O (AU _)) O<|Az (dj:=46) O O<|Ai (fun b a=>Ak (AK _) O (AN.bs ‹_› a) O) O ?_
   refine Az (dj:=46) O O<|Ai (fun b a=>Au (sz:=1) AD O (x.bs a)) O<|Az (dj:=46) O O<|Ai (fun b a=>Ep O O) O<|Az (dj:=46) O O<|Bt O ?_
   refine Di 52 O ?_ ?_
   ·intro g
    have p:k<c[i].k:=by simpa using g
    refine Az (dj:=52) O O<|Ai (fun b a=>Ck underlying182 O (AU _)) O<|Az (dj:=52) O O<|Ai (fun b a=>Ak (AK _) O (AN.bs ‹_› a) O) O ?_
    refine Az (dj:=52) O O<|Bt O<|Az (dj:=52) O O<|Ai (fun b a=>Ed AD O O x.shp k O p) O<|Az (dj:=52) O O<|Ai (fun b a=>E4 (u:=DB c[i].n) (AI _) O (x.bs a) (FN p)) O<|Az (dj:=52) O O<|Ai (fun b a=>Ck underlying182 O (AV _)) O<|Az (dj:=52) O O<|Ai (fun b a=>Ak (AI _) O (AN.bs ‹_› a) O) O ?_
    refine Az (dj:=52) O O<|C3 O O (fun b a=>(OB c[i].n b m).q a)<|Az (dj:=52) O O<|Ai (fun b a=>Co O) O<|Az (dj:=46) O O<|Ai (fun b a=>Cy O O) O<|Ai (fun b a=>Cx O O) O ?_
    refine C1 (fun L a=> ?_)
    refine Av<|B8<|Bv O false (rfl)<|Ca<|Bi<|Cd<|Ad O<|B9 O (by omega)<|Ab O<|Be ?_
    exact Av (Bw (k+1) ⟨rfl,rfl,rfl,rfl,rfl,trivial⟩ (⟨e,bt d a⟩) (by omega))
   ·intro g
    refine As (dj:=52) O O O O<|As (dj:=52) O O O O<|As (dj:=52) O O O O<|As (dj:=52) O O O O<|As (dj:=52) O O O O<|As (dj:=52) O O O O<|As (dj:=52) O O O O<|As (dj:=52) O O O O<|As (dj:=52) O O O O<|Az (dj:=46) O O<|Ai (fun b a=>Cx O O) O<|Ai (fun b a=>Cx O O) O ?_
    refine C1 (fun L a=> ?_)
    refine Av<|B8<|D5 O<|Ca<|Bi<|Cd<|Ad O<|B9 O (by omega)<|Ab O<|Be ?_
    exact Av (Bw (k+1) ⟨rfl,rfl,rfl,rfl,rfl,trivial⟩ (⟨e,bt d a⟩) (by omega))
  intro h
  refine Bn<|Al<|Al<|Bc<|Bi<|Cd<|Ad O<|B9 O (by omega)<|Ab O<|Be ?_
  exact Av (Bw (i+1) ⟨rfl,rfl,rfl,trivial⟩ (⟨f,bt o d⟩) (by omega))
 intro h
 exact Bn<|Al<|Al<|Bc<|Ci<|Ab rfl<|Ay<|Ax rfl rfl<|⟨rfl,j⟩
abbrev BG (n:Int):Value:=i32 (BitVec.ofInt 32 (-n))
theorem Iu (n:Int) (w:World) (_hn:0≤n∧n≤4000000):AJ prog 171 [.int .i64 n] w (fun r w' =>r=BG n∧Below w.heap.size w w'):=by
 refine Bd (n:=6) func171 O<|Ah<|Aa (Cq (show _=some (i32 (0#32)) from rfl)) O<|Bg<|Ad O<|Aa (Em O (by omega)) O<|Aa (F4 PL SN O) O<|Ab O<|Ay<|Ax O O ?_
 exact ⟨rfl,Below.refl _ _⟩
theorem Kh (n:Int) (w:World) (_hn:0≤n∧n≤4000000):AJ prog 186 [BG n, .int .i64 n] w (fun r w' =>r= .bool true∧Below w.heap.size w w'):=by
 refine Bd (n:=10) func186 O<|Ah<|Ab O<|Bg<|Ad O<|Ad O<|Aa (Em O (by omega)) O<|Aa (F4 PL SN O) O<|Aa (Ex.eqli32 O O) O<|Ab O<|Ay<|Ax O O ?_
 exact ⟨cngA Value.bool (by simp),Below.refl _ _⟩
theorem L2 (A:Nat) (o:List Value) (u:Value) (hs:List Hd) (lo base:Nat) (w:World) (hA:AN w A BE o) (Z:o[3]? =some u) (Y:w.ownsRow lo 185 3 u hs.length (AO hs)) (l:DU w base 21 1 hs)
  (N:¬AW hs A) (K:∀b,u.ownBlock=some b→¬AW hs b):
  AJ prog 73 [.pointer (some ⟨A,0,none⟩)] w (fun r w' =>r= .tuple #[]∧BJ (AW hs) w w' ∧FW w' base 21 BG hs):=by
 have hle:=(AG Y).le
 refine Bd (n:=35) func73 O<|Ah<|Ab O<|Aj<|Ar ?_
 refine Bo (S:=Nat) (fun i=>[(0, .pointer (some ⟨A,0,none⟩)),(2, .int .i64 (i:Int))]) (fun i w' =>i≤hs.length∧BJ (AW hs) w w' ∧(∀j (f:j<hs.length),j<i→AT w' base 21 1 hs[j].v hs[j].k (BK BG hs[j].k hs[j].n))∧(∀j (f:j<hs.length),i≤j→AT w' base 21 1 hs[j].v hs[j].k hs[j].xs)) (fun i=>hs.length - i) (0) ⟨rfl,rfl,trivial⟩ ?_ ?_
 ·exact ⟨by omega,BJ.refl _ _,fun j f h=>by omega,fun j f _=>l.own _ (getElem_mem f)⟩
 rintro i m ⟨hi,B,Q,T⟩
 have R:=hA.chg B N
 have I:=AG (AL Y B K)
 refine Aq<|Ah<|Ad O<|Ad O<|Aa (Bb O) O<|A0 underlying55 O (JA _)<|Aa (Ak (Kx _) O R Z) O<|Aa (Au (sz:=3) JF O I) O<|B1 O<|Aj<|Ao O ?_ ?_
 ·intro h
  have a:i<hs.length:=by simp at h;omega
  have q:=getElem_mem a
  have hfew:=l.few _ q
  have D:=l.num _ q
  have C:hs[i].g.oneCell' =true:=by rw [l.new _ q];rfl
  have t:=(l.own _ q).len
  have F:∀b,hs[i].v.ownBlock=some b→b<w.heap.size:=fun b e=>(l.blk ⟨_,q,e⟩).2
  refine B2<|Aq<|Ar<|Ah<|Ad O<|Aa (Bb O) O<|A0 underlying55 O (JA _)<|Aa (Ak (Kx _) O R Z) O<|Ad O<|Aa (Cu JF O O I i O a) O<|Aa (C6 (cs:=hs[i].cells) (Ol _) (Ng _) O I O (by decide) (BH a)) O<|Cv (cs:=hs[i].cells) NA O O O O (fun _=>rfl) (by simp [Hd.cells,(l.own _ q).sl.one',C,DJ]) ?_
  rintro z w2 U g p V
  have J:=B.below p
  have z1:=B.size
  have W:=(T i a (AX _)).bs p
  refine Bg<|Ab O<|Aj<|Ar ?_
  refine Bo (S:=Nat) (fun k=>[(0, .pointer (some ⟨A,0,none⟩)),(2, .int .i64 (i:Int)),(3, .pointer (some ⟨z,0,none⟩)),(4, .int .i64 (k:Int))]) (fun k w' =>k≤hs[i].k∧AN w' z 185 hs[i].cells∧BJ (AW hs) w w' ∧BJ (fun b=>hs[i].v.ownBlock=some b) w2 w' ∧AT w' base 21 1 hs[i].v hs[i].k (BK BG k hs[i].n++hs[i].xs.drop k)) (fun k=>hs[i].k - k) (0) ⟨rfl,rfl,rfl,rfl,trivial⟩ ?_ ?_
  ·exact ⟨by omega,g,J,BJ.refl _ _,by simpa [BK] using W⟩
  clear g W
  rintro k w3 ⟨L,g,E,y,v⟩
  refine Aq<|Ah<|Ad O<|A0 underlying185 O (Hn _)<|Aa (Ak (I7 _) O ‹_› rfl) O ?_
  refine Aa (Au (sz:=1) HL O v.sl) O<|B1 O<|Aj<|Ao O ?_ ?_
  ·intro h
   have c:k<hs[i].k:=by simp at h;omega
   refine B2<|Aq<|Ar<|Cw.tail 7 mixed (by kernel_rfl)<|Ai (fun m d=>Ck underlying185 O (Hn _)) O<|Ai (fun m d=>Ak (I7 _) O (AN.bs ‹_› d) O) O ?_
   refine Bt O<|Ai (fun m d=>Ck underlying185 O (AV _)) O<|Ai (fun m d=>Ak (AI _) O (AN.bs ‹_› d) O) O ?_
   refine C3 O O (fun m d=>(Iu hs[i].n m D).q d)<|Ai (fun m d=>Ed HL O O v.sl.shp k O c) O ?_
   refine Qw.done (fun w4 d=> ?_)
   refine Br (G0 (U0 _) O O O (v.bs d) (by rw [IR (by simpa using t) L];exact c)) ?_
   rintro w5 ⟨X,s, -⟩
   rw [HS (by simpa using t) c] at X
   have b5:=(g.bs d).by s (fun e=>by have:=F _ e.symm;omega)
   refine Be<|Bi<|Cd<|Ad O<|B9 O (by omega)<|Ab O<|Be ?_
   exact Av (Bw (k+1) ⟨rfl,rfl,rfl,rfl,trivial⟩ (⟨c,b5,(E.below d).grown s (fun b e=> .inl ⟨_,q,e⟩),(y.below d).grown s (fun b e=> .inl e),X⟩) (by omega))
  intro h
  have c:k=hs[i].k:=by simp at h;omega
  rw [drop_of_length_le (by omega),append_nil,c] at v
  have hall:BJ (fun b=>hs[i].v.ownBlock=some b) m w3:=(BJ.of_below p).trans y
  refine Bn<|Al<|Al<|Bc<|Bi<|Cd<|Ad O<|B9 O (by omega)<|Ab O<|Be ?_
  exact Av (Bw (i+1) ⟨rfl,rfl,trivial⟩ (⟨a,E,fun j f G=>(if e:j=i then by subst e;exact v else (Q j f (by omega)).chg hall fun b M H=>BI l.apart a f (Ne.symm e) b H M),fun j f G=>(T j f (by omega)).chg hall fun b M H=>BI l.apart a f (by omega) b H M⟩) (by omega))
 intro h
 have a:i=hs.length:=by simp at h;omega
 refine Bn<|Al<|Al<|Bc<|Cs O ?_
 refine ⟨rfl,B,fun x hx=> ?_⟩
 obtain ⟨j,f,rfl⟩:=List.mem_iff_getElem.1 hx
 exact Q j f (by omega)
theorem Ly (A:Nat) (D:List Value) (u:Value) (hs:List Hd) (lo base:Nat) (w:World) (hA:AN w A BE D) (hu:D[3]? =some u) (ho:w.ownsRow lo 185 3 u hs.length (AO hs)) (G:KOk hs) (hf:FW w base 21 BG hs)
  (hb1:¬AW hs A) (o:∀b,u.ownBlock=some b→¬AW hs b) (U:u.ownBlock≠some A) (hbase:base≤w.heap.size):
  AJ prog 88 [.pointer (some ⟨A,0,none⟩)] w (fun r w' =>r= .tuple #[]∧BJ (fun b=>AW hs b∨u.ownBlock=some b) w w' ∧∃d,DH w hs d∧w'.ownsRow lo 185 3 u hs.length (AO d)∧∀t ∈ d,DP w' BG t):=by
 have hle:=(AG ho).le
 refine Bd (n:=42) func88 O<|Ah<|Ab O<|Aj<|Ar ?_
 refine Bo (S:=(Nat×List Hd)) (fun s=>[(0, .pointer (some ⟨A,0,none⟩)),(2, .int .i64 (s.1:Int))]) (fun s w' =>s.1≤hs.length∧DH w hs s.2∧(∀t ∈ s.2,t.g.oneCell' =true)∧BJ (fun b=>AW hs b∨u.ownBlock=some b) w w' ∧w'.ownsRow lo 185 3 u hs.length (AO s.2)∧(∀j (m:j<s.2.length),j<s.1→DP w' BG s.2[j])∧(∀j (m:j<hs.length),s.1≤j→AT w' base 21 1 hs[j].v hs[j].k (BK BG hs[j].k hs[j].n))) (fun s=>hs.length - s.1) ((0,hs)) ⟨rfl,rfl,trivial⟩ ?_ ?_
 ·exact ⟨by simp,Eh w G.new,fun t R=>(by rw [G.new t R];rfl),BJ.refl _ _,ho,fun j m h=>by simp at h,fun j m _=>hf _ (getElem_mem m)⟩
 rintro ⟨i,d⟩ w1 ⟨hi,M,h1,N,o1,hd,R⟩
 dsimp only at hi M h1 N o1 hd R ⊢
 have b1:=hA.chg N (fun e=>e.elim hb1 U)
 have s1:=AG o1
 have hlen:=M.len
 refine Aq<|Ah<|Ad O<|Ad O<|Aa (Bb O) O<|A0 underlying55 O (JA _)<|Aa (Ak (Kx _) O b1 hu) O<|Aa (Au (sz:=3) JF O s1) O<|B1 O<|Aj<|Ao O ?_ ?_
 ·intro h
  have a:i<hs.length:=by simp at h;omega
  have x:i<d.length:=by omega
  obtain ⟨ev,ek,en,eg⟩:=M.all i a x
  have C:=getElem_mem a
  have hmt:=getElem_mem x
  have hfew:=G.few _ C
  have hnum:=G.num _ C
  have T:=h1 _ hmt
  have X:∀b,hs[i].v.ownBlock=some b→b<w.heap.size:=fun b e=>(hf.blk ⟨_,C,e⟩).2
  refine B2<|Aq<|Ar<|Ah<|Ad O<|Aa (Bb O) O<|A0 underlying55 O (JA _)<|Aa (Ak (Kx _) O b1 hu) O<|Ad O<|Aa (Cu JF O O s1 i O a) O<|Aa (C6 (cs:=d[i].cells) (Ol _) (Ng _) O s1 O (by decide) (BH x)) O<|Cv (cs:=d[i].cells) NA O O O O (fun _=>rfl) (by simp [Hd.cells,ev,(hf _ C).sl.one',T,DJ]) ?_
  rintro K w2 eA_h z L zhn2
  have hc2:=N.below L
  have z1:=N.size
  have z2:=hc2.size
  have r0:=(R i a (AX _)).bs L
  refine Bg<|A0 underlying185 O (Hn _)<|Aa (Ak (I7 _) O ‹_› rfl) O ?_
  refine Ab O<|Bj<|Ab O<|Aj<|Ar<|Ee 4 (v' :=hs[i].v) O (ev) ?_
  refine Bo (S:=(Nat×Value)) (fun s=>[(0, .pointer (some ⟨A,0,none⟩)),(2, .int .i64 (i:Int)),(3, .pointer (some ⟨K,0,none⟩)),(4,s.2),(5, .int .i64 (s.1:Int))]) (fun s w' =>s.1≤40∧AN w' K 185 d[i].cells∧BJ (fun b=>hs[i].v.ownBlock=some b) w2 w' ∧AT w' base 21 1 s.2 (hs[i].k+s.1) (BK BG (hs[i].k+s.1) hs[i].n)∧(∀b,s.2.ownBlock=some b→hs[i].v.ownBlock=some b∨w2.heap.size≤b)∧Sl w' 1 hs[i].v hs[i].k (BK BG hs[i].k hs[i].n)) (fun s=>40 - s.1) ((0,hs[i].v)) ⟨rfl,rfl,rfl,rfl,rfl,trivial⟩ ?_ ?_
  ·exact ⟨by simp,z,BJ.refl _ _,r0,fun b e=> .inl e,r0.sl⟩
  clear z
  rintro ⟨k,g⟩ w3 ⟨hk3,z,F,V,p,l3⟩
  dsimp only at hk3 V p ⊢
  have z3:=F.size
  refine Aq<|Ah<|Ad O<|B1 O<|Aj<|Ao O ?_ ?_
  ·intro h
   have E:k<40:=by simp at h;omega
   refine B2<|Aq<|Ar<|Bh<|Ad O<|A0 underlying185 O (AV _)<|Aa (Ak (AI _) O ‹_› rfl) O ?_
   refine Cm 30 (v' := .int .i64 hs[i].n) O (cngA (Value.int .i64) en)<|An O O (Iu hs[i].n w3 hnum) ?_
   rintro _ H ⟨rfl,hn4⟩
   refine Bq (C2 (vs:=[BG hs[i].n]) HL SQ O O O O O) O ?_
   rintro nv w5 ⟨o5, -,hn5, -⟩
   have l:=bt hn4 hn5
   have z5:=l.size
   have r5:=V.bs l
   refine Bq (Ef (base:=base) HL SQ O (by decide) O O r5 (AG o5) O (by omega) (by omega) (by omega) (AX _)) O ?_
   rintro g' w6 ⟨r6,I,y⟩
   have l5:=l3.bs l
   have b5:=z.bs l
   have e6:BK BG (hs[i].k+k) hs[i].n++[BG hs[i].n]=BK BG (hs[i].k+(k+1)) hs[i].n:=HT
   rw [e6] at r6
   have hgA:some K≠g.ownBlock:=fun e=>by
    rcases p _ e.symm with c|c
    ·have:=X _ c;omega
    ·omega
   have l6:Sl w6 1 hs[i].v hs[i].k (BK BG hs[i].k hs[i].n):=HW r0 (.inl r6) I y l5 (by omega) (by simp [BK])
   have W:∀b,g'.ownBlock=some b→hs[i].v.ownBlock=some b∨w2.heap.size≤b:=fun b e=>by
    rcases y with c|⟨c, -⟩
    ·rw [c] at e;exact p b e
    ·exact .inr (by have:=c b e;omega)
   refine Ab O<|Be<|Bi<|Cd<|Ad O<|B9 O (by omega)<|Ab O<|Be ?_
   exact Av (Bw ((k+1,g')) ⟨rfl,rfl,rfl,rfl,rfl,trivial⟩ (⟨E,b5.by I hgA,(F.below l).grown I p, .inl r6,W,l6⟩) (by simp only;omega))
  intro h
  have E:k=40:=by simp at h;omega
  subst E
  have hall:BJ (fun b=>hs[i].v.ownBlock=some b) w1 w3:=(BJ.of_below L).trans F
  have Y:BJ (fun b=>AW hs b∨u.ownBlock=some b) w w3:=N.trans (hall.mono fun b e=> .inl ⟨_,C,e⟩)
  have b3:=hA.chg Y (fun e=>e.elim hb1 U)
  have o3:=AL o1 hall (fun b v f=>o b v ⟨_,C,f⟩)
  refine Bn<|Al<|Al<|Bc<|Cd<|Ad O<|Aa (Bb O) O<|A0 underlying55 O (JA _)<|Aa (Ak (Kx _) O b3 hu) O<|Ad O<|Ad O<|Aa (Cu JF O O (AG o3) i O a) O<|Aa (Dj underlying185 O (Hn _) O (Ht o3 (by omega))) O<|Br (E1 (j:=i*3+1) (Hn _) O O V.sl.one' o3 (by rw [EU];omega)) ?_
  rintro H ⟨o4,B, -⟩
  have e4:=ET x g
  have o4:H.ownsRow lo 185 3 u hs.length (AO (d.set i {d[i] with g:=g})):=by rw [← e4];exact o4
  have hG4:=M.set a x (g:=g) (fun b e=>by
   rcases p b e with c|c
   ·exact .inl c
   ·exact .inr (by omega))
  have q:BJ (fun b=>hs[i].v.ownBlock=some b∨u.ownBlock=some b) w1 H:=(hall.mono fun b e=> .inl e).grown B (fun b e=> .inl (.inr e))
  have hS4:BJ (fun b=>AW hs b∨u.ownBlock=some b) w H:=Y.grown B (fun b e=> .inl (.inr e))
  have t4:DP H BG {d[i] with g:=g}:=by
   refine ⟨?_, ?_⟩
   ·simp only;rw [ev,ek,en]
    refine l3.by B ?_
    cases hv:hs[i].v.ownBlock with
    |none=>exact .inl rfl
    |some b=>exact .inr fun e=>o b e.symm ⟨_,C,hv⟩
   ·simp only;rw [ek,en]
    refine V.sl.by B ?_
    cases hv:g.ownBlock with
    |none=>exact .inl rfl
    |some b=>
     refine .inr fun e=> ?_
     rcases p b hv with c|c
     ·exact o b e.symm ⟨_,C,c⟩
     ·have:=(AF ho b e.symm).2;omega
  have h14:∀t ∈ d.set i {d[i] with g:=g},t.g.oneCell' =true:=fun t J=>by
   rcases mem_or_eq_of_mem_set J with c|c
   ·exact h1 t c
   ·rw [c];exact V.sl.one'
  have hd4:∀j (m:j<(d.set i {d[i] with g:=g}).length),j<i+1→DP H BG (d.set i {d[i] with g:=g})[j]:=fun j m hji=>by
    rw [getElem_set]
    split
    ·exact t4
    ·rename_i Q
     have Z:j<d.length:=by simpa using m
     obtain ⟨fv,_,_,fg⟩:=M.all j (by omega) Z
     refine (hd j Z (by omega)).chg q (fun b v _ f=> ?_) (fun b v _ f=> ?_)
     ·rw [fv] at v
      rcases f with f|f
      ·exact BI G.apart a (show j<hs.length by omega) Q b f v
      ·exact o b f ⟨_,getElem_mem _,v⟩
     ·rcases f with f|f
      ·rcases fg b v with c|c
       ·exact BI G.apart a (show j<hs.length by omega) Q b f c
       ·have:=X b f;omega
      ·rcases fg b v with c|c
       ·exact o b f ⟨_,getElem_mem _,c⟩
       ·have:=(AF ho b f).2;omega
  have ht4:∀j (m:j<hs.length),i+1≤j→AT H base 21 1 hs[j].v hs[j].k (BK BG hs[j].k hs[j].n):=fun j m hji=>(R j m (by omega)).chg q (fun b v f=>(by
    rcases f with f|f
    ·exact BI G.apart a m (by omega) b f v
    ·exact o b f ⟨_,getElem_mem _,v⟩))
  refine Be<|Bi<|Cd<|Ad O<|B9 O (by omega)<|Ab O<|Be ?_
  exact Av (Bw ((i+1,d.set i {d[i] with g:=g})) ⟨rfl,rfl,trivial⟩ (⟨a,hG4,h14,hS4,o4,hd4,ht4⟩) (by simp only;omega))
 intro h
 have a:i=hs.length:=by simp at h;omega
 refine Bn<|Al<|Al<|Bc<|Cs O ?_
 refine ⟨rfl,N,d,M,o1,fun t J=> ?_⟩
 obtain ⟨j,m,rfl⟩:=List.mem_iff_getElem.1 J
 exact hd j m (by omega)
theorem Lr (A:Nat) (l:List Value) (u:Value) (c:List Hd) (U:Nat) (w:World) (N:AN w A BE l) (H:l[3]? =some u) (G:w.ownsRow U 185 3 u c.length (AO c)) (M:∀t ∈ c,DP w BG t) (R:∀t ∈ c,(0≤t.n∧t.n≤4000000)∧t.k≤16777216):
  AJ prog 103 [.pointer (some ⟨A,0,none⟩)] w (fun r w' =>r= .bool true∧Below w.heap.size w w'):=by
 have T:=(AG G).le
 refine Bd (n:=64) func103 O<|Ah<|Ab O<|Bj<|Ab O<|Aj<|Ar ?_
 refine Bo (S:=Nat) (fun i=>[(0, .pointer (some ⟨A,0,none⟩)),(2, .bool false),(3, .int .i64 (i:Int))]) (fun i w' =>i≤c.length∧Below w.heap.size w w') (fun i=>c.length - i) (0) ⟨rfl,rfl,rfl,trivial⟩ ?_ ?_
 ·exact ⟨by omega,Below.refl _ _⟩
 rintro i b ⟨X,j⟩
 have C:=N.bs j
 have y:=(AG G).bs j
 refine Aq<|Ah<|Ad O<|Ad O<|Aa (Bb O) O<|A0 underlying55 O (JA _)<|Aa (Ak (Kx _) O C H) O<|Aa (Au (sz:=3) JF O y) O<|B1 O<|Aj<|Ao O ?_ ?_
 ·intro h
  have f:i<c.length:=by simp at h;omega
  have I:=getElem_mem f
  obtain ⟨m,J⟩:=R _ I
  have q:=M _ I
  refine B2<|Aq<|Ar<|Ah<|Ad O<|Aa (Bb O) O<|A0 underlying55 O (JA _)<|Aa (Ak (Kx _) O C H) O<|Ad O<|Aa (Cu JF O O y i O f) O<|Aa (C6 (cs:=c[i].cells) (Ol _) (Ng _) O y O (by decide) (BH f)) O<|Cv (cs:=c[i].cells) NA O O O O (fun _=>rfl) (by simp [Hd.cells,q.l.one',q.g.one',DJ]) ?_
  rintro v K D s z F
  have o:=bt j z
  have l2:=q.l.bs o
  have E:=q.g.bs o
  refine Bj<|A0 underlying185 O (Hn _)<|Aa (Ak (I7 _) O ‹_› rfl) O ?_
  refine Aa (Au (sz:=1) HL O E) O<|A0 underlying185 O (Hn _)<|Aa (Ak (I7 _) O ‹_› rfl) O ?_
  refine Aa (Au (sz:=1) HL O l2) O<|B9 O (by omega)<|Aa (Cn O O) O<|Aj<|Bv O false (by simp)<|Cp<|Ab O<|Aj<|Ar ?_
  refine Bo (S:=Nat) (fun k=>[(0, .pointer (some ⟨A,0,none⟩)),(2, .bool false),(3, .int .i64 (i:Int)),(4, .pointer (some ⟨v,0,none⟩)),(5, .int .i64 (k:Int))]) (fun k w' =>k≤c[i].k+40∧Below K.heap.size K w') (fun k=>c[i].k+40 - k) (0) ⟨rfl,rfl,rfl,rfl,rfl,trivial⟩ ?_ ?_
  ·exact ⟨by omega,Below.refl _ _⟩
  rintro k V ⟨Q,d⟩
  have x:=l2.bs d
  have B:=E.bs d
  have W:=s.bs d
  refine Aq<|Ah<|Ad O<|A0 underlying185 O (Hn _)<|Aa (Ak (I7 _) O ‹_› rfl) O ?_
  refine Aa (Au (sz:=1) HL O B) O<|B1 O<|Aj<|Ao O ?_ ?_
  ·intro h
   have e:k<c[i].k+40:=by simp at h;omega
   refine B2<|Aq<|Ar<|Aq<|C8 mixed (by kernel_rfl)<|Ai (fun b a=>Ck underlying185 O (Hn _)) O<|Ai (fun b a=>Ak (I7 _) O (AN.bs ‹_› a) O) O ?_
   refine Bt O<|Ai (fun b a=>Ed HL O O B.shp k O e) O<|Ai (fun b a=>E4 (u:=BG c[i].n) (Tb _) O (B.bs a) (FN e)) O<|Ai (fun b a=>Ck underlying185 O (AV _)) O<|Ai (fun b a=>Ak (AI _) O (AN.bs ‹_› a) O) O ?_
   refine C3 O O (fun b a=>(Kh c[i].n b m).q a)<|Ai (fun b a=>Co O) O<|Bt O<|Ey 46 (v' := .bool false) O (cngA Value.bool (rfl))<|Az (dj:=46) O O<|Bt O<|Az (dj:=46) O O<|Ai (fun b a=>Ck underlying185 O (Hn _)) O<|Az (dj:=46) O O<|Ai (fun b a=>Ak (I7 _) O (AN.bs ‹_› a) O) O ?_
   refine Az (dj:=46) O O<|Ai (fun b a=>Au (sz:=1) HL O (x.bs a)) O<|Az (dj:=46) O O<|Ai (fun b a=>Ep O O) O<|Az (dj:=46) O O<|Bt O ?_
   refine Di 52 O ?_ ?_
   ·intro g
    have p:k<c[i].k:=by simpa using g
    refine Az (dj:=52) O O<|Ai (fun b a=>Ck underlying185 O (Hn _)) O<|Az (dj:=52) O O<|Ai (fun b a=>Ak (I7 _) O (AN.bs ‹_› a) O) O ?_
    refine Az (dj:=52) O O<|Bt O<|Az (dj:=52) O O<|Ai (fun b a=>Ed HL O O x.shp k O p) O<|Az (dj:=52) O O<|Ai (fun b a=>E4 (u:=BG c[i].n) (Tb _) O (x.bs a) (FN p)) O<|Az (dj:=52) O O<|Ai (fun b a=>Ck underlying185 O (AV _)) O<|Az (dj:=52) O O<|Ai (fun b a=>Ak (AI _) O (AN.bs ‹_› a) O) O ?_
    refine Az (dj:=52) O O<|C3 O O (fun b a=>(Kh c[i].n b m).q a)<|Az (dj:=52) O O<|Ai (fun b a=>Co O) O<|Az (dj:=46) O O<|Ai (fun b a=>Cy O O) O<|Ai (fun b a=>Cx O O) O ?_
    refine C1 (fun L a=> ?_)
    refine Av<|B8<|Bv O false (rfl)<|Ca<|Bi<|Cd<|Ad O<|B9 O (by omega)<|Ab O<|Be ?_
    exact Av (Bw (k+1) ⟨rfl,rfl,rfl,rfl,rfl,trivial⟩ (⟨e,bt d a⟩) (by omega))
   ·intro g
    refine As (dj:=52) O O O O<|As (dj:=52) O O O O<|As (dj:=52) O O O O<|As (dj:=52) O O O O<|As (dj:=52) O O O O<|As (dj:=52) O O O O<|As (dj:=52) O O O O<|As (dj:=52) O O O O<|As (dj:=52) O O O O<|Az (dj:=46) O O<|Ai (fun b a=>Cx O O) O<|Ai (fun b a=>Cx O O) O ?_
    refine C1 (fun L a=> ?_)
    refine Av<|B8<|D5 O<|Ca<|Bi<|Cd<|Ad O<|B9 O (by omega)<|Ab O<|Be ?_
    exact Av (Bw (k+1) ⟨rfl,rfl,rfl,rfl,rfl,trivial⟩ (⟨e,bt d a⟩) (by omega))
  intro h
  refine Bn<|Al<|Al<|Bc<|Bi<|Cd<|Ad O<|B9 O (by omega)<|Ab O<|Be ?_
  exact Av (Bw (i+1) ⟨rfl,rfl,rfl,trivial⟩ (⟨f,bt o d⟩) (by omega))
 intro h
 exact Bn<|Al<|Al<|Bc<|Ci<|Ab rfl<|Ay<|Ax rfl rfl<|⟨rfl,j⟩
theorem Ro (A:Nat) (a:List Value) (w:World) (c:AN w A BE a) (b:a[4]? =some (.slice none 0 0)):AJ prog 74 [.pointer (some ⟨A,0,none⟩)] w (fun r w' =>r= .tuple #[]∧w=w'):=by
 refine Bd (n:=35) func74 O<|Ah<|Ab O<|Aj<|Ar ?_
 refine Bo (S:=Unit) (fun s=>[(0, .pointer (some ⟨A,0,none⟩)),(2, .int .i64 0)]) (fun s w' =>w=w') (fun s=>0) (()) ⟨rfl,rfl,trivial⟩ ?_ ?_
 ·rfl
 rintro _ _ rfl
 exact Aq<|Ah<|Ad rfl<|Ad rfl<|Aa (Bb rfl) rfl<|A0 underlying55 rfl (Qh _)<|Aa (Ak (RF _) rfl c b) rfl<|Aa (Au (sz:=3) Qt rfl (Ch _ _)) rfl<|B1 rfl<|Aj<|Bv rfl false (rfl)<|Bn<|Al<|Al<|Bc<|Cs rfl<|⟨rfl,rfl⟩
theorem Rh (A:Nat) (a:List Value) (w:World) (c:AN w A BE a) (b:a[4]? =some (.slice none 0 0)):AJ prog 89 [.pointer (some ⟨A,0,none⟩)] w (fun r w' =>r= .tuple #[]∧w=w'):=by
 refine Bd (n:=42) func89 O<|Ah<|Ab O<|Aj<|Ar ?_
 refine Bo (S:=Unit) (fun s=>[(0, .pointer (some ⟨A,0,none⟩)),(2, .int .i64 0)]) (fun s w' =>w=w') (fun s=>0) (()) ⟨rfl,rfl,trivial⟩ ?_ ?_
 ·rfl
 rintro _ _ rfl
 exact Aq<|Ah<|Ad rfl<|Ad rfl<|Aa (Bb rfl) rfl<|A0 underlying55 rfl (Qh _)<|Aa (Ak (RF _) rfl c b) rfl<|Aa (Au (sz:=3) Qt rfl (Ch _ _)) rfl<|B1 rfl<|Aj<|Bv rfl false (rfl)<|Bn<|Al<|Al<|Bc<|Cs rfl<|⟨rfl,rfl⟩
theorem QO (A:Nat) (a:List Value) (w:World) (c:AN w A BE a) (b:a[4]? =some (.slice none 0 0)):AJ prog 104 [.pointer (some ⟨A,0,none⟩)] w (fun r w' =>r= .bool true∧w=w'):=by
 refine Bd (n:=64) func104 O<|Ah<|Ab O<|Bj<|Ab O<|Aj<|Ar ?_
 refine Bo (S:=Unit) (fun s=>[(0, .pointer (some ⟨A,0,none⟩)),(2, .bool false),(3, .int .i64 0)]) (fun s w' =>w=w') (fun s=>0) (()) ⟨rfl,rfl,rfl,trivial⟩ ?_ ?_
 ·rfl
 rintro _ _ rfl
 exact Aq<|Ah<|Ad rfl<|Ad rfl<|Aa (Bb rfl) rfl<|A0 underlying55 rfl (Qh _)<|Aa (Ak (RF _) rfl c b) rfl<|Aa (Au (sz:=3) Qt rfl (Ch _ _)) rfl<|B1 rfl<|Aj<|Bv rfl false (rfl)<|Bn<|Al<|Al<|Bc<|Ci<|Ab rfl<|Ay<|Ax rfl rfl<|⟨rfl,rfl⟩
theorem NS (A:Nat) (a:List Value) (w:World) (c:AN w A BE a) (b:a[5]? =some (.slice none 0 0)):AJ prog 75 [.pointer (some ⟨A,0,none⟩)] w (fun r w' =>r= .tuple #[]∧w=w'):=by
 refine Bd (n:=35) func75 O<|Ah<|Ab O<|Aj<|Ar ?_
 refine Bo (S:=Unit) (fun s=>[(0, .pointer (some ⟨A,0,none⟩)),(2, .int .i64 0)]) (fun s w' =>w=w') (fun s=>0) (()) ⟨rfl,rfl,trivial⟩ ?_ ?_
 ·rfl
 rintro _ _ rfl
 exact Aq<|Ah<|Ad rfl<|Ad rfl<|Aa (Bb rfl) rfl<|A0 underlying55 rfl (Qg _)<|Aa (Ak (RE _) rfl c b) rfl<|Aa (Au (sz:=3) Qs rfl (Ch _ _)) rfl<|B1 rfl<|Aj<|Bv rfl false (rfl)<|Bn<|Al<|Al<|Bc<|Cs rfl<|⟨rfl,rfl⟩
theorem NH (A:Nat) (a:List Value) (w:World) (c:AN w A BE a) (b:a[5]? =some (.slice none 0 0)):AJ prog 90 [.pointer (some ⟨A,0,none⟩)] w (fun r w' =>r= .tuple #[]∧w=w'):=by
 refine Bd (n:=42) func90 O<|Ah<|Ab O<|Aj<|Ar ?_
 refine Bo (S:=Unit) (fun s=>[(0, .pointer (some ⟨A,0,none⟩)),(2, .int .i64 0)]) (fun s w' =>w=w') (fun s=>0) (()) ⟨rfl,rfl,trivial⟩ ?_ ?_
 ·rfl
 rintro _ _ rfl
 exact Aq<|Ah<|Ad rfl<|Ad rfl<|Aa (Bb rfl) rfl<|A0 underlying55 rfl (Qg _)<|Aa (Ak (RE _) rfl c b) rfl<|Aa (Au (sz:=3) Qs rfl (Ch _ _)) rfl<|B1 rfl<|Aj<|Bv rfl false (rfl)<|Bn<|Al<|Al<|Bc<|Cs rfl<|⟨rfl,rfl⟩
theorem Nt (A:Nat) (a:List Value) (w:World) (c:AN w A BE a) (b:a[5]? =some (.slice none 0 0)):AJ prog 105 [.pointer (some ⟨A,0,none⟩)] w (fun r w' =>r= .bool true∧w=w'):=by
 refine Bd (n:=64) func105 O<|Ah<|Ab O<|Bj<|Ab O<|Aj<|Ar ?_
 refine Bo (S:=Unit) (fun s=>[(0, .pointer (some ⟨A,0,none⟩)),(2, .bool false),(3, .int .i64 0)]) (fun s w' =>w=w') (fun s=>0) (()) ⟨rfl,rfl,rfl,trivial⟩ ?_ ?_
 ·rfl
 rintro _ _ rfl
 exact Aq<|Ah<|Ad rfl<|Ad rfl<|Aa (Bb rfl) rfl<|A0 underlying55 rfl (Qg _)<|Aa (Ak (RE _) rfl c b) rfl<|Aa (Au (sz:=3) Qs rfl (Ch _ _)) rfl<|B1 rfl<|Aj<|Bv rfl false (rfl)<|Bn<|Al<|Al<|Bc<|Ci<|Ab rfl<|Ay<|Ax rfl rfl<|⟨rfl,rfl⟩
theorem NT (A:Nat) (a:List Value) (w:World) (c:AN w A BE a) (b:a[8]? =some (.slice none 0 0)):AJ prog 78 [.pointer (some ⟨A,0,none⟩)] w (fun r w' =>r= .tuple #[]∧w=w'):=by
 refine Bd (n:=35) func78 O<|Ah<|Ab O<|Aj<|Ar ?_
 refine Bo (S:=Unit) (fun s=>[(0, .pointer (some ⟨A,0,none⟩)),(2, .int .i64 0)]) (fun s w' =>w=w') (fun s=>0) (()) ⟨rfl,rfl,trivial⟩ ?_ ?_
 ·rfl
 rintro _ _ rfl
 exact Aq<|Ah<|Ad rfl<|Ad rfl<|Aa (Bb rfl) rfl<|A0 underlying55 rfl (Qf _)<|Aa (Ak (RC _) rfl c b) rfl<|Aa (Au (sz:=3) Qr rfl (Ch _ _)) rfl<|B1 rfl<|Aj<|Bv rfl false (rfl)<|Bn<|Al<|Al<|Bc<|Cs rfl<|⟨rfl,rfl⟩
theorem NI (A:Nat) (a:List Value) (w:World) (c:AN w A BE a) (b:a[8]? =some (.slice none 0 0)):AJ prog 93 [.pointer (some ⟨A,0,none⟩)] w (fun r w' =>r= .tuple #[]∧w=w'):=by
 refine Bd (n:=42) func93 O<|Ah<|Ab O<|Aj<|Ar ?_
 refine Bo (S:=Unit) (fun s=>[(0, .pointer (some ⟨A,0,none⟩)),(2, .int .i64 0)]) (fun s w' =>w=w') (fun s=>0) (()) ⟨rfl,rfl,trivial⟩ ?_ ?_
 ·rfl
 rintro _ _ rfl
 exact Aq<|Ah<|Ad rfl<|Ad rfl<|Aa (Bb rfl) rfl<|A0 underlying55 rfl (Qf _)<|Aa (Ak (RC _) rfl c b) rfl<|Aa (Au (sz:=3) Qr rfl (Ch _ _)) rfl<|B1 rfl<|Aj<|Bv rfl false (rfl)<|Bn<|Al<|Al<|Bc<|Cs rfl<|⟨rfl,rfl⟩
theorem Nu (A:Nat) (a:List Value) (w:World) (c:AN w A BE a) (b:a[8]? =some (.slice none 0 0)):AJ prog 108 [.pointer (some ⟨A,0,none⟩)] w (fun r w' =>r= .bool true∧w=w'):=by
 refine Bd (n:=64) func108 O<|Ah<|Ab O<|Bj<|Ab O<|Aj<|Ar ?_
 refine Bo (S:=Unit) (fun s=>[(0, .pointer (some ⟨A,0,none⟩)),(2, .bool false),(3, .int .i64 0)]) (fun s w' =>w=w') (fun s=>0) (()) ⟨rfl,rfl,rfl,trivial⟩ ?_ ?_
 ·rfl
 rintro _ _ rfl
 exact Aq<|Ah<|Ad rfl<|Ad rfl<|Aa (Bb rfl) rfl<|A0 underlying55 rfl (Qf _)<|Aa (Ak (RC _) rfl c b) rfl<|Aa (Au (sz:=3) Qr rfl (Ch _ _)) rfl<|B1 rfl<|Aj<|Bv rfl false (rfl)<|Bn<|Al<|Al<|Bc<|Ci<|Ab rfl<|Ay<|Ax rfl rfl<|⟨rfl,rfl⟩
theorem NY (A:Nat) (a:List Value) (w:World) (c:AN w A BE a) (b:a[9]? =some (.slice none 0 0)):AJ prog 79 [.pointer (some ⟨A,0,none⟩)] w (fun r w' =>r= .tuple #[]∧w=w'):=by
 refine Bd (n:=35) func79 O<|Ah<|Ab O<|Aj<|Ar ?_
 refine Bo (S:=Unit) (fun s=>[(0, .pointer (some ⟨A,0,none⟩)),(2, .int .i64 0)]) (fun s w' =>w=w') (fun s=>0) (()) ⟨rfl,rfl,trivial⟩ ?_ ?_
 ·rfl
 rintro _ _ rfl
 exact Aq<|Ah<|Ad rfl<|Ad rfl<|Aa (Bb rfl) rfl<|A0 underlying55 rfl (Qe _)<|Aa (Ak (RB _) rfl c b) rfl<|Aa (Au (sz:=3) Qq rfl (Ch _ _)) rfl<|B1 rfl<|Aj<|Bv rfl false (rfl)<|Bn<|Al<|Al<|Bc<|Cs rfl<|⟨rfl,rfl⟩
theorem NO (A:Nat) (a:List Value) (w:World) (c:AN w A BE a) (b:a[9]? =some (.slice none 0 0)):AJ prog 94 [.pointer (some ⟨A,0,none⟩)] w (fun r w' =>r= .tuple #[]∧w=w'):=by
 refine Bd (n:=42) func94 O<|Ah<|Ab O<|Aj<|Ar ?_
 refine Bo (S:=Unit) (fun s=>[(0, .pointer (some ⟨A,0,none⟩)),(2, .int .i64 0)]) (fun s w' =>w=w') (fun s=>0) (()) ⟨rfl,rfl,trivial⟩ ?_ ?_
 ·rfl
 rintro _ _ rfl
 exact Aq<|Ah<|Ad rfl<|Ad rfl<|Aa (Bb rfl) rfl<|A0 underlying55 rfl (Qe _)<|Aa (Ak (RB _) rfl c b) rfl<|Aa (Au (sz:=3) Qq rfl (Ch _ _)) rfl<|B1 rfl<|Aj<|Bv rfl false (rfl)<|Bn<|Al<|Al<|Bc<|Cs rfl<|⟨rfl,rfl⟩
theorem Nz (A:Nat) (a:List Value) (w:World) (c:AN w A BE a) (b:a[9]? =some (.slice none 0 0)):AJ prog 109 [.pointer (some ⟨A,0,none⟩)] w (fun r w' =>r= .bool true∧w=w'):=by
 refine Bd (n:=64) func109 O<|Ah<|Ab O<|Bj<|Ab O<|Aj<|Ar ?_
 refine Bo (S:=Unit) (fun s=>[(0, .pointer (some ⟨A,0,none⟩)),(2, .bool false),(3, .int .i64 0)]) (fun s w' =>w=w') (fun s=>0) (()) ⟨rfl,rfl,rfl,trivial⟩ ?_ ?_
 ·rfl
 rintro _ _ rfl
 exact Aq<|Ah<|Ad rfl<|Ad rfl<|Aa (Bb rfl) rfl<|A0 underlying55 rfl (Qe _)<|Aa (Ak (RB _) rfl c b) rfl<|Aa (Au (sz:=3) Qq rfl (Ch _ _)) rfl<|B1 rfl<|Aj<|Bv rfl false (rfl)<|Bn<|Al<|Al<|Bc<|Ci<|Ab rfl<|Ay<|Ax rfl rfl<|⟨rfl,rfl⟩
theorem L1 (A:Nat) (a:List Value) (w:World) (c:AN w A BE a) (b:a[10]? =some (.slice none 0 0)):AJ prog 80 [.pointer (some ⟨A,0,none⟩)] w (fun r w' =>r= .tuple #[]∧w=w'):=by
 refine Bd (n:=35) func80 O<|Ah<|Ab O<|Aj<|Ar ?_
 refine Bo (S:=Unit) (fun s=>[(0, .pointer (some ⟨A,0,none⟩)),(2, .int .i64 0)]) (fun s w' =>w=w') (fun s=>0) (()) ⟨rfl,rfl,trivial⟩ ?_ ?_
 ·rfl
 rintro _ _ rfl
 exact Aq<|Ah<|Ad rfl<|Ad rfl<|Aa (Bb rfl) rfl<|A0 underlying55 rfl (Qd _)<|Aa (Ak (RA _) rfl c b) rfl<|Aa (Au (sz:=3) Qp rfl (Ch _ _)) rfl<|B1 rfl<|Aj<|Bv rfl false (rfl)<|Bn<|Al<|Al<|Bc<|Cs rfl<|⟨rfl,rfl⟩
theorem Lx (A:Nat) (a:List Value) (w:World) (c:AN w A BE a) (b:a[10]? =some (.slice none 0 0)):AJ prog 95 [.pointer (some ⟨A,0,none⟩)] w (fun r w' =>r= .tuple #[]∧w=w'):=by
 refine Bd (n:=42) func95 O<|Ah<|Ab O<|Aj<|Ar ?_
 refine Bo (S:=Unit) (fun s=>[(0, .pointer (some ⟨A,0,none⟩)),(2, .int .i64 0)]) (fun s w' =>w=w') (fun s=>0) (()) ⟨rfl,rfl,trivial⟩ ?_ ?_
 ·rfl
 rintro _ _ rfl
 exact Aq<|Ah<|Ad rfl<|Ad rfl<|Aa (Bb rfl) rfl<|A0 underlying55 rfl (Qd _)<|Aa (Ak (RA _) rfl c b) rfl<|Aa (Au (sz:=3) Qp rfl (Ch _ _)) rfl<|B1 rfl<|Aj<|Bv rfl false (rfl)<|Bn<|Al<|Al<|Bc<|Cs rfl<|⟨rfl,rfl⟩
theorem Lq (A:Nat) (a:List Value) (w:World) (c:AN w A BE a) (b:a[10]? =some (.slice none 0 0)):AJ prog 110 [.pointer (some ⟨A,0,none⟩)] w (fun r w' =>r= .bool true∧w=w'):=by
 refine Bd (n:=64) func110 O<|Ah<|Ab O<|Bj<|Ab O<|Aj<|Ar ?_
 refine Bo (S:=Unit) (fun s=>[(0, .pointer (some ⟨A,0,none⟩)),(2, .bool false),(3, .int .i64 0)]) (fun s w' =>w=w') (fun s=>0) (()) ⟨rfl,rfl,rfl,trivial⟩ ?_ ?_
 ·rfl
 rintro _ _ rfl
 exact Aq<|Ah<|Ad rfl<|Ad rfl<|Aa (Bb rfl) rfl<|A0 underlying55 rfl (Qd _)<|Aa (Ak (RA _) rfl c b) rfl<|Aa (Au (sz:=3) Qp rfl (Ch _ _)) rfl<|B1 rfl<|Aj<|Bv rfl false (rfl)<|Bn<|Al<|Al<|Bc<|Ci<|Ab rfl<|Ay<|Ax rfl rfl<|⟨rfl,rfl⟩
theorem MA (A:Nat) (a:List Value) (w:World) (c:AN w A BE a) (b:a[11]? =some (.slice none 0 0)):AJ prog 81 [.pointer (some ⟨A,0,none⟩)] w (fun r w' =>r= .tuple #[]∧w=w'):=by
 refine Bd (n:=35) func81 O<|Ah<|Ab O<|Aj<|Ar ?_
 refine Bo (S:=Unit) (fun s=>[(0, .pointer (some ⟨A,0,none⟩)),(2, .int .i64 0)]) (fun s w' =>w=w') (fun s=>0) (()) ⟨rfl,rfl,trivial⟩ ?_ ?_
 ·rfl
 rintro _ _ rfl
 exact Aq<|Ah<|Ad rfl<|Ad rfl<|Aa (Bb rfl) rfl<|A0 underlying55 rfl (Qc _)<|Aa (Ak (R9 _) rfl c b) rfl<|Aa (Au (sz:=3) Qo rfl (Ch _ _)) rfl<|B1 rfl<|Aj<|Bv rfl false (rfl)<|Bn<|Al<|Al<|Bc<|Cs rfl<|⟨rfl,rfl⟩
theorem M4 (A:Nat) (a:List Value) (w:World) (c:AN w A BE a) (b:a[11]? =some (.slice none 0 0)):AJ prog 96 [.pointer (some ⟨A,0,none⟩)] w (fun r w' =>r= .tuple #[]∧w=w'):=by
 refine Bd (n:=42) func96 O<|Ah<|Ab O<|Aj<|Ar ?_
 refine Bo (S:=Unit) (fun s=>[(0, .pointer (some ⟨A,0,none⟩)),(2, .int .i64 0)]) (fun s w' =>w=w') (fun s=>0) (()) ⟨rfl,rfl,trivial⟩ ?_ ?_
 ·rfl
 rintro _ _ rfl
 exact Aq<|Ah<|Ad rfl<|Ad rfl<|Aa (Bb rfl) rfl<|A0 underlying55 rfl (Qc _)<|Aa (Ak (R9 _) rfl c b) rfl<|Aa (Au (sz:=3) Qo rfl (Ch _ _)) rfl<|B1 rfl<|Aj<|Bv rfl false (rfl)<|Bn<|Al<|Al<|Bc<|Cs rfl<|⟨rfl,rfl⟩
theorem Mm (A:Nat) (a:List Value) (w:World) (c:AN w A BE a) (b:a[11]? =some (.slice none 0 0)):AJ prog 111 [.pointer (some ⟨A,0,none⟩)] w (fun r w' =>r= .bool true∧w=w'):=by
 refine Bd (n:=64) func111 O<|Ah<|Ab O<|Bj<|Ab O<|Aj<|Ar ?_
 refine Bo (S:=Unit) (fun s=>[(0, .pointer (some ⟨A,0,none⟩)),(2, .bool false),(3, .int .i64 0)]) (fun s w' =>w=w') (fun s=>0) (()) ⟨rfl,rfl,rfl,trivial⟩ ?_ ?_
 ·rfl
 rintro _ _ rfl
 exact Aq<|Ah<|Ad rfl<|Ad rfl<|Aa (Bb rfl) rfl<|A0 underlying55 rfl (Qc _)<|Aa (Ak (R9 _) rfl c b) rfl<|Aa (Au (sz:=3) Qo rfl (Ch _ _)) rfl<|B1 rfl<|Aj<|Bv rfl false (rfl)<|Bn<|Al<|Al<|Bc<|Ci<|Ab rfl<|Ay<|Ax rfl rfl<|⟨rfl,rfl⟩
theorem P6 (A:Nat) (a:List Value) (w:World) (c:AN w A BE a) (b:a[12]? =some (.slice none 0 0)):AJ prog 82 [.pointer (some ⟨A,0,none⟩)] w (fun r w' =>r= .tuple #[]∧w=w'):=by
 refine Bd (n:=35) func82 O<|Ah<|Ab O<|Aj<|Ar ?_
 refine Bo (S:=Unit) (fun s=>[(0, .pointer (some ⟨A,0,none⟩)),(2, .int .i64 0)]) (fun s w' =>w=w') (fun s=>0) (()) ⟨rfl,rfl,trivial⟩ ?_ ?_
 ·rfl
 rintro _ _ rfl
 exact Aq<|Ah<|Ad rfl<|Ad rfl<|Aa (Bb rfl) rfl<|A0 underlying55 rfl (Qb _)<|Aa (Ak (R8 _) rfl c b) rfl<|Aa (Au (sz:=3) Qn rfl (Ch _ _)) rfl<|B1 rfl<|Aj<|Bv rfl false (rfl)<|Bn<|Al<|Al<|Bc<|Cs rfl<|⟨rfl,rfl⟩
theorem P1 (A:Nat) (a:List Value) (w:World) (c:AN w A BE a) (b:a[12]? =some (.slice none 0 0)):AJ prog 97 [.pointer (some ⟨A,0,none⟩)] w (fun r w' =>r= .tuple #[]∧w=w'):=by
 refine Bd (n:=42) func97 O<|Ah<|Ab O<|Aj<|Ar ?_
 refine Bo (S:=Unit) (fun s=>[(0, .pointer (some ⟨A,0,none⟩)),(2, .int .i64 0)]) (fun s w' =>w=w') (fun s=>0) (()) ⟨rfl,rfl,trivial⟩ ?_ ?_
 ·rfl
 rintro _ _ rfl
 exact Aq<|Ah<|Ad rfl<|Ad rfl<|Aa (Bb rfl) rfl<|A0 underlying55 rfl (Qb _)<|Aa (Ak (R8 _) rfl c b) rfl<|Aa (Au (sz:=3) Qn rfl (Ch _ _)) rfl<|B1 rfl<|Aj<|Bv rfl false (rfl)<|Bn<|Al<|Al<|Bc<|Cs rfl<|⟨rfl,rfl⟩
theorem Pi (A:Nat) (a:List Value) (w:World) (c:AN w A BE a) (b:a[12]? =some (.slice none 0 0)):AJ prog 112 [.pointer (some ⟨A,0,none⟩)] w (fun r w' =>r= .bool true∧w=w'):=by
 refine Bd (n:=64) func112 O<|Ah<|Ab O<|Bj<|Ab O<|Aj<|Ar ?_
 refine Bo (S:=Unit) (fun s=>[(0, .pointer (some ⟨A,0,none⟩)),(2, .bool false),(3, .int .i64 0)]) (fun s w' =>w=w') (fun s=>0) (()) ⟨rfl,rfl,rfl,trivial⟩ ?_ ?_
 ·rfl
 rintro _ _ rfl
 exact Aq<|Ah<|Ad rfl<|Ad rfl<|Aa (Bb rfl) rfl<|A0 underlying55 rfl (Qb _)<|Aa (Ak (R8 _) rfl c b) rfl<|Aa (Au (sz:=3) Qn rfl (Ch _ _)) rfl<|B1 rfl<|Aj<|Bv rfl false (rfl)<|Bn<|Al<|Al<|Bc<|Ci<|Ab rfl<|Ay<|Ax rfl rfl<|⟨rfl,rfl⟩
theorem NX (A:Nat) (a:List Value) (w:World) (c:AN w A BE a) (b:a[13]? =some (.slice none 0 0)):AJ prog 83 [.pointer (some ⟨A,0,none⟩)] w (fun r w' =>r= .tuple #[]∧w=w'):=by
 refine Bd (n:=35) func83 O<|Ah<|Ab O<|Aj<|Ar ?_
 refine Bo (S:=Unit) (fun s=>[(0, .pointer (some ⟨A,0,none⟩)),(2, .int .i64 0)]) (fun s w' =>w=w') (fun s=>0) (()) ⟨rfl,rfl,trivial⟩ ?_ ?_
 ·rfl
 rintro _ _ rfl
 exact Aq<|Ah<|Ad rfl<|Ad rfl<|Aa (Bb rfl) rfl<|A0 underlying55 rfl (Qa _)<|Aa (Ak (R7 _) rfl c b) rfl<|Aa (Au (sz:=3) Qm rfl (Ch _ _)) rfl<|B1 rfl<|Aj<|Bv rfl false (rfl)<|Bn<|Al<|Al<|Bc<|Cs rfl<|⟨rfl,rfl⟩
theorem NN (A:Nat) (a:List Value) (w:World) (c:AN w A BE a) (b:a[13]? =some (.slice none 0 0)):AJ prog 98 [.pointer (some ⟨A,0,none⟩)] w (fun r w' =>r= .tuple #[]∧w=w'):=by
 refine Bd (n:=42) func98 O<|Ah<|Ab O<|Aj<|Ar ?_
 refine Bo (S:=Unit) (fun s=>[(0, .pointer (some ⟨A,0,none⟩)),(2, .int .i64 0)]) (fun s w' =>w=w') (fun s=>0) (()) ⟨rfl,rfl,trivial⟩ ?_ ?_
 ·rfl
 rintro _ _ rfl
 exact Aq<|Ah<|Ad rfl<|Ad rfl<|Aa (Bb rfl) rfl<|A0 underlying55 rfl (Qa _)<|Aa (Ak (R7 _) rfl c b) rfl<|Aa (Au (sz:=3) Qm rfl (Ch _ _)) rfl<|B1 rfl<|Aj<|Bv rfl false (rfl)<|Bn<|Al<|Al<|Bc<|Cs rfl<|⟨rfl,rfl⟩
theorem Ny (A:Nat) (a:List Value) (w:World) (c:AN w A BE a) (b:a[13]? =some (.slice none 0 0)):AJ prog 113 [.pointer (some ⟨A,0,none⟩)] w (fun r w' =>r= .bool true∧w=w'):=by
 refine Bd (n:=64) func113 O<|Ah<|Ab O<|Bj<|Ab O<|Aj<|Ar ?_
 refine Bo (S:=Unit) (fun s=>[(0, .pointer (some ⟨A,0,none⟩)),(2, .bool false),(3, .int .i64 0)]) (fun s w' =>w=w') (fun s=>0) (()) ⟨rfl,rfl,rfl,trivial⟩ ?_ ?_
 ·rfl
 rintro _ _ rfl
 exact Aq<|Ah<|Ad rfl<|Ad rfl<|Aa (Bb rfl) rfl<|A0 underlying55 rfl (Qa _)<|Aa (Ak (R7 _) rfl c b) rfl<|Aa (Au (sz:=3) Qm rfl (Ch _ _)) rfl<|B1 rfl<|Aj<|Bv rfl false (rfl)<|Bn<|Al<|Al<|Bc<|Ci<|Ab rfl<|Ay<|Ax rfl rfl<|⟨rfl,rfl⟩
theorem NW (A:Nat) (a:List Value) (w:World) (c:AN w A BE a) (b:a[14]? =some (.slice none 0 0)):AJ prog 84 [.pointer (some ⟨A,0,none⟩)] w (fun r w' =>r= .tuple #[]∧w=w'):=by
 refine Bd (n:=35) func84 O<|Ah<|Ab O<|Aj<|Ar ?_
 refine Bo (S:=Unit) (fun s=>[(0, .pointer (some ⟨A,0,none⟩)),(2, .int .i64 0)]) (fun s w' =>w=w') (fun s=>0) (()) ⟨rfl,rfl,trivial⟩ ?_ ?_
 ·rfl
 rintro _ _ rfl
 exact Aq<|Ah<|Ad rfl<|Ad rfl<|Aa (Bb rfl) rfl<|A0 underlying55 rfl (PZ _)<|Aa (Ak (R6 _) rfl c b) rfl<|Aa (Au (sz:=3) Ql rfl (Ch _ _)) rfl<|B1 rfl<|Aj<|Bv rfl false (rfl)<|Bn<|Al<|Al<|Bc<|Cs rfl<|⟨rfl,rfl⟩
theorem NM (A:Nat) (a:List Value) (w:World) (c:AN w A BE a) (b:a[14]? =some (.slice none 0 0)):AJ prog 99 [.pointer (some ⟨A,0,none⟩)] w (fun r w' =>r= .tuple #[]∧w=w'):=by
 refine Bd (n:=42) func99 O<|Ah<|Ab O<|Aj<|Ar ?_
 refine Bo (S:=Unit) (fun s=>[(0, .pointer (some ⟨A,0,none⟩)),(2, .int .i64 0)]) (fun s w' =>w=w') (fun s=>0) (()) ⟨rfl,rfl,trivial⟩ ?_ ?_
 ·rfl
 rintro _ _ rfl
 exact Aq<|Ah<|Ad rfl<|Ad rfl<|Aa (Bb rfl) rfl<|A0 underlying55 rfl (PZ _)<|Aa (Ak (R6 _) rfl c b) rfl<|Aa (Au (sz:=3) Ql rfl (Ch _ _)) rfl<|B1 rfl<|Aj<|Bv rfl false (rfl)<|Bn<|Al<|Al<|Bc<|Cs rfl<|⟨rfl,rfl⟩
theorem Nx (A:Nat) (a:List Value) (w:World) (c:AN w A BE a) (b:a[14]? =some (.slice none 0 0)):AJ prog 114 [.pointer (some ⟨A,0,none⟩)] w (fun r w' =>r= .bool true∧w=w'):=by
 refine Bd (n:=64) func114 O<|Ah<|Ab O<|Bj<|Ab O<|Aj<|Ar ?_
 refine Bo (S:=Unit) (fun s=>[(0, .pointer (some ⟨A,0,none⟩)),(2, .bool false),(3, .int .i64 0)]) (fun s w' =>w=w') (fun s=>0) (()) ⟨rfl,rfl,rfl,trivial⟩ ?_ ?_
 ·rfl
 rintro _ _ rfl
 exact Aq<|Ah<|Ad rfl<|Ad rfl<|Aa (Bb rfl) rfl<|A0 underlying55 rfl (PZ _)<|Aa (Ak (R6 _) rfl c b) rfl<|Aa (Au (sz:=3) Ql rfl (Ch _ _)) rfl<|B1 rfl<|Aj<|Bv rfl false (rfl)<|Bn<|Al<|Al<|Bc<|Ci<|Ab rfl<|Ay<|Ax rfl rfl<|⟨rfl,rfl⟩
theorem NV (A:Nat) (a:List Value) (w:World) (c:AN w A BE a) (b:a[15]? =some (.slice none 0 0)):AJ prog 85 [.pointer (some ⟨A,0,none⟩)] w (fun r w' =>r= .tuple #[]∧w=w'):=by
 refine Bd (n:=35) func85 O<|Ah<|Ab O<|Aj<|Ar ?_
 refine Bo (S:=Unit) (fun s=>[(0, .pointer (some ⟨A,0,none⟩)),(2, .int .i64 0)]) (fun s w' =>w=w') (fun s=>0) (()) ⟨rfl,rfl,trivial⟩ ?_ ?_
 ·rfl
 rintro _ _ rfl
 exact Aq<|Ah<|Ad rfl<|Ad rfl<|Aa (Bb rfl) rfl<|A0 underlying55 rfl (PY _)<|Aa (Ak (R5 _) rfl c b) rfl<|Aa (Au (sz:=3) Qk rfl (Ch _ _)) rfl<|B1 rfl<|Aj<|Bv rfl false (rfl)<|Bn<|Al<|Al<|Bc<|Cs rfl<|⟨rfl,rfl⟩
theorem NL (A:Nat) (a:List Value) (w:World) (c:AN w A BE a) (b:a[15]? =some (.slice none 0 0)):AJ prog 100 [.pointer (some ⟨A,0,none⟩)] w (fun r w' =>r= .tuple #[]∧w=w'):=by
 refine Bd (n:=42) func100 O<|Ah<|Ab O<|Aj<|Ar ?_
 refine Bo (S:=Unit) (fun s=>[(0, .pointer (some ⟨A,0,none⟩)),(2, .int .i64 0)]) (fun s w' =>w=w') (fun s=>0) (()) ⟨rfl,rfl,trivial⟩ ?_ ?_
 ·rfl
 rintro _ _ rfl
 exact Aq<|Ah<|Ad rfl<|Ad rfl<|Aa (Bb rfl) rfl<|A0 underlying55 rfl (PY _)<|Aa (Ak (R5 _) rfl c b) rfl<|Aa (Au (sz:=3) Qk rfl (Ch _ _)) rfl<|B1 rfl<|Aj<|Bv rfl false (rfl)<|Bn<|Al<|Al<|Bc<|Cs rfl<|⟨rfl,rfl⟩
theorem Nw (A:Nat) (a:List Value) (w:World) (c:AN w A BE a) (b:a[15]? =some (.slice none 0 0)):AJ prog 115 [.pointer (some ⟨A,0,none⟩)] w (fun r w' =>r= .bool true∧w=w'):=by
 refine Bd (n:=64) func115 O<|Ah<|Ab O<|Bj<|Ab O<|Aj<|Ar ?_
 refine Bo (S:=Unit) (fun s=>[(0, .pointer (some ⟨A,0,none⟩)),(2, .bool false),(3, .int .i64 0)]) (fun s w' =>w=w') (fun s=>0) (()) ⟨rfl,rfl,rfl,trivial⟩ ?_ ?_
 ·rfl
 rintro _ _ rfl
 exact Aq<|Ah<|Ad rfl<|Ad rfl<|Aa (Bb rfl) rfl<|A0 underlying55 rfl (PY _)<|Aa (Ak (R5 _) rfl c b) rfl<|Aa (Au (sz:=3) Qk rfl (Ch _ _)) rfl<|B1 rfl<|Aj<|Bv rfl false (rfl)<|Bn<|Al<|Al<|Bc<|Ci<|Ab rfl<|Ay<|Ax rfl rfl<|⟨rfl,rfl⟩
end Go.Proofs.YtblbopcaflaldaaGreatDoor

namespace Go.Proofs.YtblbopcaflaldaaGreatDoor
open Go Go.Dd Go.RowKit List
set_option maxRecDepth 100000
structure Bk (w:World) (lo A:Nat) (n:Int) (hb hi hn:List Hd) (ub ui un:Value):Prop where
 box:AN w A BE [.int .i64 n,ub,ui,un, .slice none 0 0, .slice none 0 0, .slice none 0 0, .slice none 0 0, .slice none 0 0, .slice none 0 0, .slice none 0 0, .slice none 0 0, .slice none 0 0, .slice none 0 0, .slice none 0 0, .slice none 0 0]
 ob:w.ownsRow lo 179 3 ub hb.length (AO hb)
 oi:w.ownsRow lo 182 3 ui hi.length (AO hi)
 on:w.ownsRow lo 185 3 un hn.length (AO hn)
 loA:lo≤A
 ab:ub.ownBlock≠some A
 ai:ui.ownBlock≠some A
 an:un.ownBlock≠some A
 bi:ID ub ui
 bn:ID ub un
 nn:ID ui un
 many:hb.length+hi.length+hn.length≤900
 num:0≤n∧n≤900
theorem Bk.size {w:World} {a A:Nat} {n:Int} {d e f:List Hd} {b c un:Value} (h:Bk w a A n d e f b c un):a<w.heap.size:=Nat.lt_of_le_of_lt h.loA (BL h.box)
theorem Bk.bs {w w' :World} {d A:Nat} {n:Int} {c e f:List Hd} {a b un:Value} (h:Bk w d A n c e f a b un) (g:Below w.heap.size w w'):Bk w' d A n c e f a b un:=
 ⟨h.box.bs g,AH h.ob g,AH h.oi g,AH h.on g,h.loA,h.ab,h.ai,h.an,h.bi,h.bn,h.nn,h.many,h.num⟩
theorem Bk.low {w w' :World} {a A:Nat} {n:Int} {i k l:List Hd} {c g un u:Value} (h:Bk w a A n i k l c g un) (f:∀b,u.ownBlock=some b→a≤b) (j:BJ (fun b=>b=A∨u.ownBlock=some b) w w'):Below a w w' :=j.to_below (fun b d=>by
 rcases d with rfl|e
 ·exact h.loA
 ·exact f b e) (Nat.le_of_lt h.size)
end Go.Proofs.YtblbopcaflaldaaGreatDoor

namespace Go.Proofs.YtblbopcaflaldaaGreatDoor
open Go Go.Dd Go.RowKit List Go.Proofs.Tryz
set_option maxRecDepth 100000
theorem HA {s:List Int} {i:Nat} (h:i<s.length):Shapes.prod (s.take (i+1))=Shapes.prod (s.take i)*s.getD i default:=by
 rw [take_succ_eq_append_getElem h,Shapes.prod_append]
 simp [Shapes.prod,h]
theorem P2 {s:List Int} {i:Nat} (h:i<s.length) (a:Shapes.good (s.take i)) (b:1≤s.getD i default∧s.getD i default≤64):Shapes.good (s.take (i+1)):=by
 rw [take_succ_eq_append_getElem h,Shapes.good_append]
 refine ⟨a,fun x c=> ?_⟩
 have:x=s.getD i default:=by simpa [h] using c
 rw [this];exact b
theorem IJ:∀{s:List Int},Shapes.good s→s.length≤4→1≤Shapes.prod s∧Shapes.prod s≤16777216
 |s,hg,hl=>by
  have key:∀(s:List Int),Shapes.good s→Shapes.prod s≤64 ^ s.length:=by
   intro s
   induction s with
   |nil=>intro _;simp [Shapes.prod]
   |cons x s ih=>
    intro h
    have b:=(Shapes.good_cons.1 h).1
    have a:=ih (Shapes.good_cons.1 h).2
    have c:=Shapes.prod_pos (Shapes.good_cons.1 h).2
    have:=Int.mul_le_mul b.2 a (by omega) (by omega)
    rw [length_cons,Int.pow_succ,Int.mul_comm ((64:Int) ^ s.length)]
    exact this
  refine ⟨Shapes.prod_pos hg,Int.le_trans (key s hg) ?_⟩
  have:s.length=0∨s.length=1∨s.length=2∨s.length=3∨s.length=4:=by omega
  rcases this with h|h|h|h|h<;>rw [h]<;>decide
theorem DM (u:Value) (s:List Int) (w:World) (v:CA (Value.int .i64) w u s):AJ prog 163 [u] w (fun r w' =>r= .bool (Shapes.ok s)∧Below w.heap.size w w'):=by
 have b:(s.length<1∨4<s.length)→Shapes.ok s=false:=fun h=>by
  cases hk:Shapes.ok s with
  |false=>rfl
  |true=>have:=(Shapes.ok_iff s).1 hk;omega
 refine Bd (n:=39) func163 O<|Ah<|Ab O<|Bj<|Ad O<|Aa (Au AD O ‹_›) O ?_
 refine B1 O<|Ad O ?_
 refine Bx 8 O ?_ ?_
 ·intro g
  refine Ae (dj:=8) O O O O<|Ae (dj:=8) O O O O<|Ae (dj:=8) O O O O<|Bu O<|Aj<|B3 O<|Ah<|Ab O<|Bz<|Ax O O ?_
  exact ⟨by rw [b (.inl (by have:=AC g;omega))],Below.refl _ _⟩
 intro g
 have t:=AB g
 refine Af (dj:=8) O O<|Ad O<|Af (dj:=8) O O<|Aa (Au AD O ‹_›) O ?_
 refine Af (dj:=8) O O<|Aa (Da O O) O<|B4 O<|Aj<|Ao O ?_ ?_
 ·intro g
  refine Ah<|Ab O<|Bz<|Ax O O ?_
  exact ⟨by rw [b (.inr (by have:=AC g;omega))],Below.refl _ _⟩
 intro g
 have q:=AB g
 have l:1≤s.length∧s.length≤4:=by omega
 refine Cp<|Ab O<|Bj<|Ab O<|Aj<|Ar ?_
 refine Bo (S:=Nat) (fun i=>[(0,u),(2, .bool false),(3, .int .i64 (Shapes.prod (s.take i))),(4, .int .i64 (i:Int))]) (fun i w' =>i≤s.length∧Shapes.good (s.take i)∧w' =w) (fun i=>s.length - i) (0) ⟨rfl,rfl,rfl,rfl,trivial⟩ ?_ ?_
 ·exact ⟨by omega,by simp [Shapes.good],rfl⟩
 rintro i p ⟨y,f,rfl⟩
 have k:=IJ f (by rw [length_take];omega)
 refine Aq<|Ah<|Ad O<|Ad O<|Aa (Au AD O ‹_›) O ?_
 refine B1 O<|Aj<|Ao O ?_ ?_
 ·intro h
  have a:i<s.length:=by simp at h;omega
  have c:(s.getD i default<1∨64<s.getD i default)→Shapes.ok s=false:=fun h=>by
   cases hk:Shapes.ok s with
   |false=>rfl
   |true=>
    have:=((Shapes.ok_iff s).1 hk).2.1 s[i] (getElem_mem a)
    simp [a] at h
    omega
  refine B2<|Aq<|Ar<|Aq<|Ah<|Ad O<|Ad O<|Aa (Bf AD O O ‹_› _ O (by omega)) O ?_
  refine Aa (Bl (AI _) O ‹_› (by omega)) O ?_
  refine B1 O<|Ad O ?_
  refine Bx 24 O ?_ ?_
  ·intro g
   exact Ae (dj:=24) rfl rfl rfl rfl<|Ae (dj:=24) rfl rfl rfl rfl<|Ae (dj:=24) rfl rfl rfl rfl<|Ae (dj:=24) rfl rfl rfl rfl<|Ae (dj:=24) rfl rfl rfl rfl<|Bu rfl<|Aj<|B3 rfl<|Ah<|Ab rfl<|Bz<|Ba<|Ap<|Ap<|Ba<|Ap<|Ax rfl rfl<|⟨by rw [c (.inl (AC g))],Below.refl _ _⟩
  intro g
  have x:=AB g
  refine Af (dj:=24) O O<|Ad O<|Af (dj:=24) O O<|Ad O<|Af (dj:=24) O O<|Aa (Bf AD O O ‹_› _ O (by omega)) O ?_
  refine Af (dj:=24) O O<|Aa (Bl (AI _) O ‹_› (by omega)) O ?_
  refine Af (dj:=24) O O<|Aa (Da O O) O<|B4 O<|Aj<|Ao O ?_ ?_
  ·intro g
   exact Ah<|Ab rfl<|Bz<|Ba<|Ap<|Ap<|Ba<|Ap<|Ax rfl rfl<|⟨by rw [c (.inr (AC g))],Below.refl _ _⟩
  intro g
  have o:=AB g
  have m:1≤s.getD i default∧s.getD i default≤64:=by omega
  have d:=P2 a f m
  have j:=IJ d (by rw [length_take];omega)
  rw [HA a] at j
  refine B2<|Bh<|Ad O<|Ad O<|Ad O<|Aa (Bf AD O O ‹_› _ O (by omega)) O ?_
  refine Aa (Bl (AI _) O ‹_› (by omega)) O ?_
  refine Aa (D8 O O (by omega)) O<|Ab O<|Be<|Bi<|Cd<|Ad O<|B9 O (by omega)<|Ab O<|Be ?_
  exact Av (Bw (i+1) ⟨rfl,rfl,(by rw [HA a];rfl),rfl,trivial⟩ (⟨a,d,rfl⟩) (by omega))
 intro h
 have a:i=s.length:=by simp at h;omega
 subst a
 rw [take_length] at f k
 have e:decide (Shapes.prod (s.take s.length)≤4096)=Shapes.ok s:=by
  rw [take_length]
  cases hk:Shapes.ok s with
  |true=>exact decide_eq_true ((Shapes.ok_iff s).1 hk).2.2
  |false=>
   refine decide_eq_false fun h=> ?_
   have:=(Shapes.ok_iff s).2 ⟨l,f,h⟩
   rw [hk] at this;cases this
 exact Bn<|Al<|Al<|Bc<|Ci<|Ad rfl<|Aa (Ej rfl rfl) rfl<|Ab rfl<|Ay<|Ax rfl rfl<|⟨by rw [← e],Below.refl _ _⟩
theorem Ox (u:Value) (s:List Int) (w:World) (c:CA (Value.int .i64) w u s):AJ prog 164 [u] w (fun r w' =>r= .int .i64 (Shapes.size s)∧Below w.heap.size w w'):=by
 refine Bd (n:=21) func164 O<|Ah<|Ab O<|Bj<|Ad O<|An O O (DM u s w c) ?_
 rintro _ f ⟨rfl,d⟩
 have c:=c.bs d
 refine Aa (Co O) O<|Aj<|Ao O ?_ ?_
 ·intro g
  exact Ah<|Ab rfl<|Bz<|Ax rfl rfl<|⟨by rw [Shapes.size_no (by simpa using g)],d⟩
 intro g
 have e:Shapes.ok s=true:=by simpa using g
 have j:=(Shapes.ok_iff s).1 e
 refine Cp<|Ab O<|Bj<|Ab O<|Aj<|Ar ?_
 refine Bo (S:=Nat) (fun i=>[(0,u),(3, .int .i64 (Shapes.prod (s.take i))),(4, .int .i64 (i:Int))]) (fun i w' =>i≤s.length∧w' =f) (fun i=>s.length - i) (0) ⟨rfl,rfl,rfl,trivial⟩ ?_ ?_
 ·exact ⟨by omega,rfl⟩
 rintro i l ⟨m,rfl⟩
 refine Aq<|Ah<|Ad O<|Ad O<|Aa (Au AD O ‹_›) O ?_
 refine B1 O<|Aj<|Ao O ?_ ?_
 ·intro h
  have a:i<s.length:=by simp at h;omega
  have b:=IJ (s:=s.take (i+1)) (fun x k=>j.2.1 x (mem_of_mem_take k)) (by rw [length_take];omega)
  rw [HA a] at b
  refine B2<|Aq<|Ar<|Bh<|Ad O<|Ad O<|Ad O<|Aa (Bf AD O O ‹_› _ O (by omega)) O ?_
  refine Aa (Bl (AI _) O ‹_› (by omega)) O ?_
  refine Aa (D8 O O (by omega)) O<|Ab O<|Be<|Bi<|Cd<|Ad O<|B9 O (by omega)<|Ab O<|Be ?_
  exact Av (Bw (i+1) ⟨rfl,(by rw [HA a];rfl),rfl,trivial⟩ (⟨a,rfl⟩) (by omega))
 intro h
 have a:i=s.length:=by simp at h;omega
 subst a
 exact Bn<|Al<|Al<|Bc<|Ci<|Ad rfl<|Ab rfl<|Ay<|Ax rfl rfl<|⟨by rw [take_length,Shapes.size_ok e],d⟩
theorem LV (u v:Value) (a b:List Int) (w:World) (q:CA (Value.int .i64) w u a) (z:CA (Value.int .i64) w v b):AJ prog 150 [u,v] w (fun r w' =>r= .bool (decide (a=b))∧Below w.heap.size w w'):=by
 have A:=q.le
 refine Bd (n:=26) func150 O<|Ah<|Ab O<|Bj<|Ad O<|Aa (Au AD O ‹_›) O ?_
 refine Ad O<|Aa (Au AD O ‹_›) O ?_
 refine Aa (Cn O O) O<|Aj<|Ao O ?_ ?_
 ·intro h
  have m:a≠b:=fun e=>by subst e;simp at h
  exact Ah<|Ab rfl<|Bz<|Ax rfl rfl<|⟨by rw [decide_eq_false m],Below.refl _ _⟩
 intro h
 have y:a.length=b.length:=by simp at h;omega
 refine B2<|Aq<|Ah<|Ab O<|Aj<|Ar ?_
 refine Bo (S:=Nat) (fun i=>[(0,u),(1,v),(4, .bool false),(5, .int .i64 (i:Int))]) (fun i w' =>i≤a.length∧a.take i=b.take i∧Below w.heap.size w w') (fun i=>a.length - i) (0) ⟨rfl,rfl,rfl,rfl,trivial⟩ ?_ ?_
 ·exact ⟨by omega,by simp,Below.refl _ _⟩
 rintro i j ⟨B,o,f⟩
 have s:=q.bs f
 have t:=z.bs f
 refine Aq<|Ah<|Ad O<|Ad O<|Aa (Au AD O ‹_›) O ?_
 refine B1 O<|Aj<|Ao O ?_ ?_
 ·intro h
  have c:i<a.length:=by simp at h;omega
  have k:i<b.length:=by omega
  refine B2<|Aq<|Ar<|Aq<|C8 mixed (by kernel_rfl)<|Bt O<|Bt O<|Ai (fun j d=>Bf AD O O (Sl.bs ‹_› d) _ O (by omega)) O ?_
  refine Ai (fun j d=>Bl (AI _) O (Sl.bs ‹_› d) (by omega)) O ?_
  refine Bt O<|Bt O<|Ai (fun j d=>Bf AD O O (Sl.bs ‹_› d) _ O (by omega)) O ?_
  refine Ai (fun j d=>Bl (AI _) O (Sl.bs ‹_› d) (by omega)) O ?_
  refine Ai (fun j d=>Cn O O) O ?_
  refine C1 (fun C d=> ?_)
  refine Av<|B8 ?_
  have l:=bt f d
  refine Ao O ?_ ?_
  ·intro g
   have p:a.getD i default≠b.getD i default:=by simpa using g
   exact Ah<|Ab rfl<|Ay<|Ba<|Ap<|Ap<|Ba<|Ap<|Ax rfl rfl<|⟨by rw [decide_eq_false (fun e=>p (by rw [e]))],l⟩
  ·intro g
   have p:a.getD i default=b.getD i default:=by simpa using g
   have x:a[i]=b[i]:=by simpa [c,k] using p
   refine Ca<|Bi<|Cd<|Ad O<|B9 O (by omega)<|Ab O<|Be ?_
   exact Av (Bw (i+1) ⟨rfl,rfl,rfl,rfl,trivial⟩ (⟨c,by rw [take_succ_eq_append_getElem c,take_succ_eq_append_getElem k,o,x],l⟩) (by omega))
 ·intro h
  have c:i=a.length:=by simp at h;omega
  subst c
  refine Bn<|Al<|Al<|Bc<|Ci<|Ab O<|Ay<|Ax O O ?_
  exact ⟨by rw [decide_eq_true (by rw [take_length,y,take_length] at o;exact o)],f⟩
end Go.Proofs.YtblbopcaflaldaaGreatDoor

namespace Go.Proofs.YtblbopcaflaldaaGreatDoor
open Go Go.Dd Go.RowKit List
set_option maxRecDepth 100000

theorem _root_.Go.Dd.Twn.own {α:Type} {w:World} {base:Nat} {T:TypeId} {enc:α→Value} {a v:Value} {l:List α} (h:Twn w base T enc a v l):w.ownsRow base T 1 v l.length (l.map enc):=by
 obtain ⟨b,cap,rfl,c⟩:=h
 exact KE c (by simp)

structure Hh (w:World) (lo hi:Nat) (c:T4):Prop where
 rx:AT w lo 3 1 c.x c.s.length (c.s.map (Value.int .i64))
 ry:AT w lo 21 1 c.y c.l.length (c.l.map i32)
 bx:∀b,c.x.ownBlock=some b→lo≤b∧b<hi
 by' :∀b,c.y.ownBlock=some b→lo≤b∧b<hi
 apart:ID c.y c.x
theorem Hh.bs {w w' :World} {a b:Nat} {c:T4} (h:Hh w a b c) (g:Below w.heap.size w w'):Hh w' a b c:=⟨h.rx.bs g,h.ry.bs g,h.bx,h.by',h.apart⟩
theorem Hh.below {w w' :World} {d a B:Nat} {c:T4} (h:Hh w d a c) (g:Below B w w') (f:a≤B):Hh w' d a c:=
 ⟨h.rx.heap fun b e=>g.block b (by have:=h.bx b e;omega),h.ry.heap fun b e=>g.block b (by have:=h.by' b e;omega),h.bx,h.by',h.apart⟩
theorem Hh.at {w:World} {a b:Nat} {c:T4} (h:Hh w a b c):c.at w:=⟨h.rx.slT,h.ry.slT⟩
theorem Hh.wide {w:World} {g i a d:Nat} {c:T4} (h:Hh w g i c) (f:a≤g) (j:i≤d):Hh w a d c:=
 ⟨h.rx.mono f,h.ry.mono f,fun b e=>by have:=h.bx b e;omega,fun b e=>by have:=h.by' b e;omega,h.apart⟩
theorem IB.held {W w:World} {x y:Value} {s:List Int} {l:List (BitVec 32)} (h:IB W w x y s l):Hh w W.heap.size w.heap.size ⟨x,y,s,l⟩:=
 ⟨h.row, .inl h.own,h.row.lt,AF h.own,h.apart⟩
def BO (w:World):Nat→Nat→List T4→Prop
 |base,top,[]=>base≤top
 |base,top,c::cs=>∃lo hi,base≤lo∧lo≤hi∧Hh w lo hi c∧BO w hi top cs
theorem BO.le:∀{w:World} {cs:List T4} {base a:Nat},BO w base a cs→base≤a
 |_,[],_,_,h=>h
 |_,_::_,_,_,⟨_,_,h1,h2,_,h3⟩=>by have:=h3.le;omega
theorem BO.bs {w w' :World} (g:Below w.heap.size w w'):∀{cs:List T4} {base a:Nat},BO w base a cs→BO w' base a cs
 |[],_,_,h=>h
 |_::_,_,_,⟨lo,hi,h1,h2,h3,h4⟩=>⟨lo,hi,h1,h2,h3.bs g,BO.bs g h4⟩
theorem BO.each:∀{w:World} {cs:List T4} {base b:Nat},BO w base b cs→∀c ∈ cs,Hh w base b c
 |_,[],_,_,_=>fun c a=>by cases a
 |_,d::ds,_,_,⟨lo,hi,h1,h2,h3,h4⟩=>fun c a=>by
  have:=h4.le
  rcases List.mem_cons.1 a with rfl|a
  ·exact h3.wide h1 (by omega)
  ·exact (h4.each c a).wide (by omega) (AX _)
structure KZ (w:World) (base top:Nat) (hi hn:List Hd):Prop where
 ki:DU w base 3 1 hi
 kn:DU w base 21 1 hn
 li:∀b,AW hi b→b<top
 ln:∀b,AW hn b→b<top
 xin:∀b,AW hi b→¬AW hn b
theorem KZ.bs {w w' :World} {base a:Nat} {b c:List Hd} (h:KZ w base a b c) (g:Below w.heap.size w w'):KZ w' base a b c:=⟨h.ki.bs g,h.kn.bs g,h.li,h.ln,h.xin⟩
theorem KZ.below {w w' :World} {base a:Nat} {d f:List Hd} (h:KZ w base a d f) (g:Below a w w'):KZ w' base a d f:=
 ⟨⟨h.ki.toKOk,fun x c=>(h.ki.own x c).heap fun b e=>g.block b (h.li b ⟨x,c,e⟩)⟩,⟨h.kn.toKOk,fun x c=>(h.kn.own x c).heap fun b e=>g.block b (h.ln b ⟨x,c,e⟩)⟩,h.li,h.ln,h.xin⟩
structure Kz (w:World) (lo hi:Nat) (x y:Value) (a:T4):Prop where
 held:Hh w lo hi ⟨x,y,a.s,a.l⟩
 tx:Twn w lo 3 (Value.int .i64) (Value.int .i64 (77)) x a.s
 ty:Twn w lo 21 i32 (i32 (77#32)) y a.l
theorem Kz.bs {w w' :World} {b c:Nat} {x y:Value} {a:T4} (h:Kz w b c x y a) (g:Below w.heap.size w w'):Kz w' b c x y a:=⟨h.held.bs g,h.tx.bs g,h.ty.bs g⟩
theorem Twn.mono {α:Type} {w:World} {B c:Nat} {T:TypeId} {enc:α→Value} {a v:Value} {l:List α} (h:Twn w B T enc a v l) (e:c≤B):Twn w c T enc a v l:=by
 obtain ⟨b,cap,rfl,d⟩:=h
 exact ⟨b,cap,rfl,DN d e⟩
theorem Twn.by {α:Type} {w w' :World} {B r:Nat} {T:TypeId} {enc:α→Value} {a v:Value} {l:List α} (h:Twn w B T enc a v l) (d:w.grownBy w' (some r)) (f:r<B):Twn w' B T enc a v l:=by
 obtain ⟨b,cap,rfl,c⟩:=h
 exact ⟨b,cap,rfl,c.kept d (.inr fun e=>by have:=(AF c r e).1;omega)⟩

structure NK (w:World) (lo hi:Nat) (c:N5):Prop where
 rx:AT w lo 3 1 c.x c.i.length (c.i.map (Value.int .i64))
 ry:AT w lo 3 1 c.y c.s.length (c.s.map (Value.int .i64))
 bx:∀b,c.x.ownBlock=some b→lo≤b∧b<hi
 by' :∀b,c.y.ownBlock=some b→lo≤b∧b<hi
 apart:ID c.x c.y
theorem NK.bs {w w' :World} {a b:Nat} {c:N5} (h:NK w a b c) (g:Below w.heap.size w w'):NK w' a b c:=⟨h.rx.bs g,h.ry.bs g,h.bx,h.by',h.apart⟩
theorem NK.below {w w' :World} {d a B:Nat} {c:N5} (h:NK w d a c) (g:Below B w w') (f:a≤B):NK w' d a c:=
 ⟨h.rx.heap fun b e=>g.block b (by have:=h.bx b e;omega),h.ry.heap fun b e=>g.block b (by have:=h.by' b e;omega),h.bx,h.by',h.apart⟩
theorem AE {w w' :World} {a sz k:Nat} {E T:TypeId} {v:Value} {xs:List Value} {r:Option Nat} (h:AT w a E sz v k xs) (g:w.grownBy w' r) (f:∀b,r=some b→∃cs,AN w b T cs) (i:E≠T):AT w' a E sz v k xs:=
 h.heap fun b e=>g.block b (h.lt b e).2 fun j=>by
  obtain ⟨cs,c⟩:=f b j.symm
  obtain ⟨ds,d⟩:=h.ty e
  exact i (FI d c)
theorem NK.other {w w' :World} {e f:Nat} {T:TypeId} {c:N5} {r:Option Nat} (h:NK w e f c) (g:w.grownBy w' r) (a:∀b,r=some b→∃cs,AN w b T cs) (d:3≠T):NK w' e f c:=
 ⟨AE h.rx g a d,AE h.ry g a d,h.bx,h.by',h.apart⟩
theorem NK.wide {w:World} {g i a d:Nat} {c:N5} (h:NK w g i c) (f:a≤g) (j:i≤d):NK w a d c:=
 ⟨h.rx.mono f,h.ry.mono f,fun b e=>by have:=h.bx b e;omega,fun b e=>by have:=h.by' b e;omega,h.apart⟩
theorem NK.at {w:World} {a b:Nat} {c:N5} (h:NK w a b c):N5.at w c:=⟨h.rx.slT,h.ry.slT⟩
def GR (w:World):Nat→Nat→List N5→Prop
 |base,top,[]=>base≤top
 |base,top,c::cs=>∃lo hi,base≤lo∧lo≤hi∧NK w lo hi c∧GR w hi top cs
theorem GR.le:∀{w:World} {cs:List N5} {base a:Nat},GR w base a cs→base≤a
 |_,[],_,_,h=>h
 |_,_::_,_,_,⟨_,_,h1,h2,_,h3⟩=>by have:=h3.le;omega
theorem GR.bs {w w' :World} (g:Below w.heap.size w w'):∀{cs:List N5} {base a:Nat},GR w base a cs→GR w' base a cs
 |[],_,_,h=>h
 |_::_,_,_,⟨lo,hi,h1,h2,h3,h4⟩=>⟨lo,hi,h1,h2,h3.bs g,GR.bs g h4⟩
theorem GR.below {w w' :World} {B:Nat} (g:Below B w w'):∀{cs:List N5} {base a:Nat},GR w base a cs→a≤B→GR w' base a cs
 |[],_,_,h,_=>h
 |_::_,_,_,⟨lo,hi,h1,h2,h3,h4⟩,hB=>⟨lo,hi,h1,h2,h3.below g (Nat.le_trans h4.le hB),GR.below g h4 hB⟩
theorem GR.other {w w' :World} {T:TypeId} {r:Option Nat} (g:w.grownBy w' r) (d:∀b,r=some b→∃cs,AN w b T cs) (c:3≠T):∀{cs:List N5} {base a:Nat},GR w base a cs→GR w' base a cs
 |[],_,_,h=>h
 |_::_,_,_,⟨lo,hi,q1,q2,q3,q4⟩=>⟨lo,hi,q1,q2,q3.other g d c,GR.other g d c q4⟩
theorem GR.snoc {w:World} {c:N5} {b d:Nat} (f:NK w b d c) (e:b≤d):∀{cs:List N5} {base a:Nat},GR w base a cs→a≤b→GR w base d (cs++[c])
 |[],_,_,h,ht=>⟨b,d,Nat.le_trans h ht,e,f,AX _⟩
 |_::_,_,_,⟨l1,h1,q1,q2,q3,q4⟩,ht=>⟨l1,h1,q1,q2,q3,GR.snoc f e q4 ht⟩
theorem GR.top {w:World} {b:Nat}:∀{cs:List N5} {base a:Nat},GR w base a cs→a≤b→GR w base b cs
 |[],_,_,h,ht=>Nat.le_trans h ht
 |_::_,_,_,⟨l1,h1,q1,q2,q3,q4⟩,ht=>⟨l1,h1,q1,q2,q3,GR.top q4 ht⟩
theorem GR.each:∀{w:World} {cs:List N5} {base b:Nat},GR w base b cs→∀c ∈ cs,NK w base b c
 |_,[],_,_,_=>fun c a=>by cases a
 |_,d::ds,_,_,⟨lo,hi,h1,h2,h3,h4⟩=>fun c a=>by
  have:=h4.le
  rcases List.mem_cons.1 a with rfl|a
  ·exact h3.wide h1 (by omega)
  ·exact (h4.each c a).wide (by omega) (AX _)
theorem GR.low {w:World} {cs:List N5} {base a b:Nat} (h:GR w base b cs) (d:a≤base):GR w a b cs:=by
 cases cs with
 |nil=>exact Nat.le_trans d h
 |cons c cs=>
  obtain ⟨g,i,f,e⟩:=h
  exact ⟨g,i,Nat.le_trans d f,e⟩
theorem GR.gn {w:World} {cs:List N5} {base b e:Nat} {v:Value} (h:GR w base b cs) (c:AT w e 79 5 v cs.length (FR N5.cells cs)):GN w v cs:=⟨c.sl,fun a d=>(h.each a d).at⟩
theorem Hh.other {w w' :World} {d e:Nat} {T:TypeId} {c:T4} {r:Option Nat} (h:Hh w d e c) (g:w.grownBy w' r) (a:∀b,r=some b→∃cs,AN w b T cs) (i:3≠T) (f:21≠T):Hh w' d e c:=
 ⟨AE h.rx g a i,AE h.ry g a f,h.bx,h.by',h.apart⟩
theorem BO.other {w w' :World} {T:TypeId} {r:Option Nat} (g:w.grownBy w' r) (d:∀b,r=some b→∃cs,AN w b T cs) (e:3≠T) (c:21≠T):∀{cs:List T4} {base a:Nat},BO w base a cs→BO w' base a cs
 |[],_,_,h=>h
 |_::_,_,_,⟨lo,hi,q1,q2,q3,q4⟩=>⟨lo,hi,q1,q2,q3.other g d e c,BO.other g d e c q4⟩
theorem Fl {w:World} {b:Nat}:∀{cs:List T4} {base a:Nat},BO w base a cs→a≤b→BO w base b cs
 |[],_,_,h,ht=>Nat.le_trans h ht
 |_::_,_,_,⟨l1,h1,q1,q2,q3,q4⟩,ht=>⟨l1,h1,q1,q2,q3,Fl q4 ht⟩
structure Up (w:World) (lo hi:Nat) (v u:Value) (ls:List N5) (ts:List T4):Prop where
 nodes:∃mid,GR w lo mid ls∧BO w mid hi ts
 nv:AT w lo 79 5 v ls.length (FR N5.cells ls)
 wv:AT w lo 75 2 u ts.length (cellsOf ts)
end Go.Proofs.YtblbopcaflaldaaGreatDoor

namespace Go.Dd
open Go Go.RowKit List
section
variable {H : Type} {enc : TypeId × Value → H} {P : Program} {w : World}
def In (enc:TypeId×Value→H) (P:Program) (w:World) (t:TypeId) (cs:List Value):Prop:=
 ∃fuel d ps,DataW.trod enc P w 0 (fun _=>true) true fuel t cs=some (d,ps)∧∀x ∈ d.weights P t,x≤reachBytes
theorem In.int {t:TypeId} {k:IntKind} {cs:List Value} (b:P.underlying t=some (.int k)) (h:In enc P w t cs):∃m,cs=[.int k m]∧(Lit.int k m).wf=true:=by
 obtain ⟨a,d,ps,h,_⟩:=h
 cases a with
 |zero=>simp [DataW.trod] at h
 |succ a=>
  unfold DataW.trod at h
  rw [b] at h
  split at h<;>simp_all
theorem In.bool {t:TypeId} {cs:List Value} (c:P.underlying t=some .bool) (h:In enc P w t cs):∃b,cs=[.bool b]:=by
 obtain ⟨a,d,ps,h,_⟩:=h
 cases a with
 |zero=>simp [DataW.trod] at h
 |succ a=>
  unfold DataW.trod at h
  rw [c] at h
  split at h<;>simp_all
theorem Iw {α β:Type} {f:α→Option β}:∀{l:List α} {r:List β},l.mapM f=some r→∀(i:Nat) (a:α),l[i]? =some a→∃b,f a=some b∧r[i]? =some b
 |[],r,h,i,a,hi=>by simp at hi
 |x::l,r,h,i,a,hi=>by
  simp only [mapM_cons,Option.bind_eq_bind,Option.pure_def] at h
  cases hx:f x with
  |none=>simp [hx] at h
  |some b=>
   cases hl:l.mapM f with
   |none=>simp [hx,hl] at h
   |some r' =>
    simp only [hx,hl,Option.bind_some,Option.some.injEq] at h
    subst h
    cases i with
    |zero=>simp at hi;subst hi;exact ⟨b,hx,by simp⟩
    |succ i=>simpa using Iw hl i a (by simpa using hi)
theorem Iv {α β:Type} {f:α→Option β}:∀{l:List α} {r:List β},l.mapM f=some r→r.length=l.length
 |[],r,h=>by simp at h;simp [← h]
 |x::l,r,h=>by
  simp only [mapM_cons,Option.bind_eq_bind,Option.pure_def] at h
  cases hx:f x with
  |none=>simp [hx] at h
  |some b=>
   cases hl:l.mapM f with
   |none=>simp [hx,hl] at h
   |some r' =>
    simp only [hx,hl,Option.bind_some,Option.some.injEq] at h
    subst h
    simpa using Iv hl
theorem KW {base n:Nat} {a:Addr} {cs:List Value} (h:w.cells? base a n=some cs):cs.length=n∧∀j u,cs[j]? =some u→w.cell? (a.add j)=some u:=by
 unfold World.cells? at h
 split at h
 ·refine ⟨by simpa using Iv h,fun j u c=> ?_⟩
  have e:j<n:=by
   have:=Iv h
   have d:j<cs.length:=by
    rcases Nat.lt_or_ge j cs.length with h|h
    ·exact h
    ·simp [getElem?_eq_none h] at c
   simp at this;omega
  obtain ⟨b,g,f⟩:=Iw h j j (by simp [e])
  rw [f] at c
  simp only [Option.some.injEq] at c
  rw [g,c]
 ·cases h
theorem Hm {e:TypeId}:∀{ds:List (DataW H)} {i:Nat} {d:DataW H},ds[i]? =some d→∀x ∈ d.weights P e,x ∈ DataW.weightsAll P e ds
 |d0::ds,0,d,hd,x,hx=>by
  simp only [getElem?_cons_zero,Option.some.injEq] at hd
  subst hd
  simp only [DataW.weightsAll,mem_append];exact .inl hx
 |d0::ds,i+1,d,hd,x,hx=>by
  simp only [getElem?_cons_succ] at hd
  simp only [DataW.weightsAll,mem_append];exact .inr (Hm hd x hx)
 |[],_,_,hd,_,_=>by simp at hd
theorem Kn {sz:Nat}:∀{a:List (List Value)} (_:∀c ∈ a,c.length=sz) (i:Nat) (c:List Value),a[i]? =some c→(a.flatten.drop (i*sz)).take sz=c
 |c0::a,hl,0,c,b=>by
  simp only [getElem?_cons_zero,Option.some.injEq] at b
  subst b
  have:=hl c0 (by simp)
  simp [flatten_cons,← this]
 |c0::a,hl,i+1,c,b=>by
  simp only [getElem?_cons_succ] at b
  have e:=hl c0 (by simp)
  have d:=Kn (fun c b=>hl c (by simp [b])) i c b
  rw [flatten_cons,show (i+1)*sz=c0.length+i*sz by rw [e,Nat.succ_mul];omega,← drop_drop,drop_left]
  exact d
 |[],_,_,_,b=>by simp at b
theorem Jj {sz:Nat}:∀{a:List (List Value)} (_:∀c ∈ a,c.length=sz) (j:Nat) (u:Value),a.flatten[j]? =some u→∃i c,a[i]? =some c∧c[j - i*sz]? =some u∧i*sz≤j
 |[],_,j,u,h=>by simp at h
 |c0::a,hl,j,u,h=>by
  have f:=hl c0 (by simp)
  rw [flatten_cons,getElem?_append] at h
  split at h
  ·exact ⟨0,c0,by simp,by simpa using h,by simp⟩
  ·obtain ⟨i,c,d,b,g⟩:=Jj (fun c e=>hl c (by simp [e])) (j - c0.length) u h
   refine ⟨i+1,c,by simpa using d, ?_,by rw [Nat.succ_mul];omega⟩
   rw [← b];congr 1;rw [Nat.succ_mul];omega
theorem In.slice {t e:TypeId} {sz:Nat} {cs:List Value} (I:P.underlying t=some (.slice e)) (E:P.cellsOf e=sz) (h:In enc P w t cs):
  ∃v n xs,cs=[v]∧Sl w sz v n xs∧n*P.bytesOf e≤reachBytes∧∀i,i<n→In enc P w e ((xs.drop (i*sz)).take sz):=by
 obtain ⟨g,d,ps,h,Q⟩:=h
 cases g with
 |zero=>simp [DataW.trod] at h
 |succ g=>
  unfold DataW.trod at h
  rw [I] at h
  split at h<;>try (simp_all;done)
  ·exact ⟨_,0,[],rfl,Ch w sz,by simp,fun i o=>by omega⟩
  ·rename_i W a len cap s
   simp only [Option.some.injEq,TypeDesc.slice.injEq] at s
   subst s
   simp only at h
   split at h
   ·rename_i k
    obtain ⟨_,L,C⟩:=k
    cases hel:(List.range len).mapM (fun i=>(w.cells? 0 (a.add (i*P.cellsOf e)) (P.cellsOf e)).bind (DataW.trod enc P w 0 (fun _=>true) true g e)) with
    |none=>simp [hel] at h
    |some elems=>
     rw [hel] at h
     simp only [Option.bind_some,Option.map_eq_some_iff] at h
     obtain ⟨A,M,h⟩:=h
     simp only [Prod.mk.injEq] at h
     obtain ⟨h,_⟩:=h
     subst h
     rw [E] at hel
     have z:elems.length=len:=by simpa using Iv hel
     have AO:∀i,i<len→∃c,w.cells? 0 (a.add (i*sz)) sz=some c∧∃b,DataW.trod enc P w 0 (fun _=>true) true g e c=some b∧elems[i]? =some b:=by
      intro i o
      obtain ⟨b,r,G⟩:=Iw hel i i (by simp [o])
      cases hcc:w.cells? 0 (a.add (i*sz)) sz with
      |none=>simp [hcc] at r
      |some c=>rw [hcc] at r;exact ⟨c,rfl,b,r,G⟩
     have J:∃f:List (List Value),f.length=len∧∀i c,f[i]? =some c→w.cells? 0 (a.add (i*sz)) sz=some c:=by
      refine ⟨(List.range len).map (fun i=>(w.cells? 0 (a.add (i*sz)) sz).getD []),by simp,fun i c k=> ?_⟩
      have o:i<len:=by
       rcases Nat.lt_or_ge i len with h|h
       ·exact h
       ·rw [getElem?_eq_none (by simpa using h)] at k;cases k
      obtain ⟨U,y,_⟩:=AO i o
      simp [o,y] at k
      rw [y,k]
     obtain ⟨f,N,p⟩:=J
     have m:∀c ∈ f,c.length=sz:=fun c k=>by
      obtain ⟨i,o⟩:=List.mem_iff_getElem?.1 k
      exact (KW (p i c o)).1
     have F:∀(l:List (List Value)),(∀c ∈ l,c.length=sz)→l.flatten.length=l.length*sz:=by
      intro l
      induction l with
      |nil=>intro _;simp
      |cons c l ih=>intro h;rw [flatten_cons,length_append,ih (fun c k=>h c (by simp [k])),h c (by simp),length_cons,Nat.succ_mul];omega
     refine ⟨_,len,f.flatten,rfl,⟨by rw [F f m,N],some a,cap,rfl,L,C,(fun h=>by cases h),fun V T j u D=> ?_⟩, ?_,fun i o=> ?_⟩
     ·cases T
      obtain ⟨i,c,B,R,X⟩:=Jj m j u D
      have:=(KW (p i c B)).2 _ _ R
      rw [IA] at this
      rwa [show i*sz+(j - i*sz)=j by omega] at this
     ·have:=Q ((elems.length+A.length)*P.bytesOf e) (by simp [DataW.weights,I])
      rw [z] at this
      exact Nat.le_trans (Nat.mul_le_mul_right _ (Nat.le_add_right _ _)) this
     ·obtain ⟨c,k,b,r,G⟩:=AO i o
      have K:f[i]? =some c:=by
       have q:i<f.length:=by omega
       have B:=p i f[i] (getElem?_eq_getElem q)
       rw [k] at B
       rw [getElem?_eq_getElem q]
       exact B.symm
      rw [Kn m i c K]
      refine ⟨g,b.1,b.2,by simpa using r,fun x S=>Q x ?_⟩
      simp only [DataW.weights,I,mem_cons,mem_append]
      right;left
      exact Hm (i:=i) (d:=b.1) (by simp [G]) x S
   ·cases h
theorem In.struct {t:TypeId} {l:Array Field} {cs:List Value} (k:P.underlying t=some (.struct l)) (h:In enc P w t cs):
  cs.length=P.cellsOf t∧∀(i:Nat) (f:Field),l[i]? =some f→In enc P w f.type ((cs.drop f.offset).take (P.cellsOf f.type)):=by
 obtain ⟨a,d,ps,h,m⟩:=h
 cases a with
 |zero=>simp [DataW.trod] at h
 |succ a=>
  unfold DataW.trod at h
  rw [k] at h
  split at h<;>try (simp_all;done)
  rename_i r o c
  simp only [Option.some.injEq,TypeDesc.struct.injEq] at c
  subst c
  split at h
  ·rename_i n
   simp only [Option.map_eq_some_iff] at h
   obtain ⟨xs,e,h⟩:=h
   simp only [Prod.mk.injEq] at h
   obtain ⟨h,_⟩:=h
   subst h
   refine ⟨n,fun i f g=> ?_⟩
   obtain ⟨b,q,p⟩:=Iw e i f (by simpa using g)
   refine ⟨a,b.1,b.2,by simpa using q,fun x s=>m x ?_⟩
   simp only [DataW.weights,k]
   exact DataW.weights_mem_each (j:=i) (t:=f.type) (d:=b.1) (by simp [g]) (by simp [p]) x s
  ·cases h
theorem Uv {m:Int} (h:(Lit.int .u8 m).wf=true):Value.int .u8 m=b8 (BitVec.ofInt 8 m):=by
 simp [Lit.wf,IntKind.min,IntKind.max,IntKind.signed,IntKind.bits] at h
 have:((BitVec.ofInt 8 m).toNat:Int)=m:=by rw [BitVec.toNat_ofInt];omega
 unfold b8;rw [this]
theorem PK {m:Int} (h:(Lit.int .i64 m).wf=true): -9223372036854775808≤m∧m≤9223372036854775807:=by
 simp [Lit.wf,IntKind.min,IntKind.max,IntKind.signed,IntKind.bits] at h
 omega
theorem In.num {α:Type} {e:TypeId} {k:IntKind} (f:Int→α) (g:α→Value) (c:∀m,(Lit.int k m).wf=true→Value.int k m=g (f m)) (d:P.underlying e=some (.int k)) {cs:List Value} (h:In enc P w e cs):∃a,cs=[g a]:=by
 obtain ⟨m,rfl,b⟩:=h.int d
 exact ⟨f m,by rw [c m b]⟩
theorem In.slT {α:Type} {t e:TypeId} {g:α→Value} {cs:List Value} (q:P.underlying t=some (.slice e)) (o:P.cellsOf e=1) (p:∀cs,In enc P w e cs→∃a,cs=[g a]) (h:In enc P w t cs):
  ∃v l,cs=[v]∧CA g w v l∧l.length*P.bytesOf e≤reachBytes:=by
 obtain ⟨v,n,xs,rfl,hs,r,j⟩:=h.slice q o
 have hall:∀i,i<n→∃a,xs[i]? =some (g a):=by
  intro i m
  obtain ⟨a,d⟩:=p _ (j i m)
  refine ⟨a, ?_⟩
  have:=cngA (fun l=>l[0]?) d
  simpa [getElem?_take,getElem?_drop] using this
 have b:xs.length=n:=by have:=hs.len;omega
 have k:∀(c:List Value),(∀i,i<c.length→∃a,c[i]? =some (g a))→∃l:List α,c=l.map g:=by
  intro c
  induction c with
  |nil=>intro _;exact ⟨[],rfl⟩
  |cons y c ih=>
   intro h
   obtain ⟨a,d⟩:=h 0 (by simp)
   obtain ⟨l,rfl⟩:=ih (fun i m=>by simpa using h (i+1) (by simpa using m))
   simp only [getElem?_cons_zero,Option.some.injEq] at d
   exact ⟨a::l,by simp [d]⟩
 obtain ⟨l,rfl⟩:=k xs (by rw [b];exact hall)
 have f:l.length=n:=by simpa using b
 subst f
 exact ⟨v,l,rfl,hs,r⟩
theorem SR {b:List TypeId} {ds:List (DataW H)} {j:Nat} {t:TypeId} {v:Value} {d:DataW H} {ps:List MemPlace} (g:(DataW.weightsEach P b ds).all (·≤reachBytes)=true) (e:b[j]? =some t) (c:ds[j]? =some d)
  (h:DataW.Trod enc P w 0 (fun _=>true) true t v d ps):In enc P w t v.cells.toList:=by
 obtain ⟨a,h⟩:=h
 exact ⟨a,d,ps,h,fun x f=>by simpa using List.all_eq_true.1 g x (DataW.weights_mem_each e c x f)⟩
open Go.WideShapes in
theorem Oh {base:Nat} {t:TypeId} {c:Array Field} {v:Value} (b:P.underlying t=some (.struct c)) (a:Value.okWide P w .any base t v) (h:In enc P w t v.cells.toList):∃cs:List Value,v= .agg cs.toArray∧In enc P w t cs:=by
 obtain ⟨cs,rfl,_⟩:=okWide_struct b a
 exact ⟨cs.toList,by simp,by simpa [Value.cells] using h⟩
theorem Pm {f:FuncId} {args:Array Value} (h:AJ P f args.toList w (fun r w' =>r= .bool true∧Below w.heap.size w w')):
  Calls P f args w fun e w' =>e= .returned (.bool true)∧Below w.heap.size w w' :=by
 have:=h.2
 rw [Array.toArray_toList] at this
 exact this.mono fun e w' ⟨v,a,b,c⟩=>⟨by rw [a,b],c⟩
end
end Go.Dd

namespace Go.Proofs.YtblbopcaflaldaaGreatDoor
open Go Go.Dd Go.RowKit Go.ChangeShapes Go.WideShapes List
set_option maxRecDepth 100000

def K3:Int→List Int→Int
 |n,[]=>n
 |n,x::l=>if n≤1048576 then K3 (n+x) l else n
theorem J8:∀{l:List Int} {n:Int},(∀x ∈ l,0≤x)→n≤K3 n l
 |[],n,_=>Int.le_refl _
 |x::l,n,h=>by
  unfold K3
  split
  ·have:=J8 (n:=n+x) fun y a=>h y (mem_cons_of_mem _ a)
   have:=h x (by simp)
   omega
  ·exact Int.le_refl _
theorem LO:∀{l:List Int} {n:Int},(∀x ∈ l,0≤x)→K3 n l≤1048576→∀x ∈ l,n+x≤K3 n l
 |[],_,_,_,x,a=>by simp at a
 |y::l,n,h,hle,x,a=>by
  have b:∀z ∈ l,0≤z:=fun z c=>h z (mem_cons_of_mem _ c)
  have d:=J8 (n:=n) h
  have e:K3 n (y::l)=K3 (n+y) l:=by
   show (if n≤1048576 then K3 (n+y) l else n)=_
   rw [if_pos (by omega)]
  rw [e] at hle ⊢
  rcases List.mem_cons.1 a with rfl|a
  ·exact J8 b
  ·have:=LO b hle x a
   have:=h y (by simp)
   omega
theorem PS {l:List Int} {i:Nat} {n:Int} (a:i<l.length):K3 n (l.drop i)=if n≤1048576 then K3 (n+l.getD i default) (l.drop (i+1)) else n:=by
 rw [drop_eq_getElem_cons a]
 simp only [K3,getD_eq_getElem?_getD,getElem?_eq_getElem a,Option.getD_some]
theorem PR:∀{l:List Int} {n m:Int},(∀x ∈ l,x≤m)→0≤m→K3 n l≤max n (1048576+m)
 |[],n,m,_,_=>by simp only [K3];omega
 |x::l,n,m,h,hm=>by
  unfold K3
  split
  ·have:=PR (n:=n+x) (m:=m) (fun y a=>h y (mem_cons_of_mem _ a)) hm
   have:=h x (by simp)
   omega
  ·omega
end Go.Proofs.YtblbopcaflaldaaGreatDoor

namespace Go.Proofs.YtblbopcaflaldaaGreatDoor
open Go Go.Dd Go.RowKit Go.ChangeShapes Go.WideShapes List Go.Proofs.Tryz
set_option maxRecDepth 100000
structure N5.few (a:N5):Prop where
 i:a.i.length≤1125899906842624
 s:a.s.length≤1125899906842624
 n: -9223372036854775808≤a.n∧a.n≤9223372036854775807
 p: -9223372036854775808≤a.p∧a.p≤9223372036854775807
theorem SB {α:Type} {l:List α} (h:l.length=5):∃a b c d e,l=[a,b,c,d,e]:=by
 match l,h with
 |[a,b,c,d,e],_=>exact ⟨a,b,c,d,e,rfl⟩
theorem S7 {H:Type} {enc:TypeId×Value→H} {w:World} {cs:List Value} (h:In enc prog w FG cs):∃a:N5,cs=a.cells∧N5.at w a∧a.few:=by
 obtain ⟨c,b⟩:=h.struct underlying79
 have x:Tryz.prog.cellsOf FG=5:=by kernel_rfl
 have v:Tryz.prog.cellsOf 70=1:=by kernel_rfl
 have t:Tryz.prog.cellsOf 3=1:=by kernel_rfl
 have B:Tryz.prog.cellsOf 77=1:=by kernel_rfl
 rw [x] at c
 obtain ⟨f,m,A,D,G,rfl⟩:=SB c
 obtain ⟨k,e⟩:=In.num (BitVec.ofInt 8) b8 (fun _ h=>Uv h) CJ (b 0 _ rfl)
 obtain ⟨C,i,d,q,o⟩:=(b 1 _ rfl).slT PO (by kernel_rfl) (fun cs h=>(In.int K2 h).imp fun _ h=>h.1)
 obtain ⟨E,s,g,u,r⟩:=(b 2 _ rfl).slT PO (by kernel_rfl) (fun cs h=>(In.int K2 h).imp fun _ h=>h.1)
 obtain ⟨n,j,z⟩:=In.int K2 (b 3 _ rfl)
 obtain ⟨p,l,y⟩:=In.int K2 (b 4 _ rfl)
 have f:Tryz.prog.bytesOf 3=8:=by kernel_rfl
 rw [f] at o r
 simp [v,t,B] at e d g j l
 subst d g e j l
 have F:reachBytes≤140737488355328:=by decide
 exact ⟨⟨k,m,A,i,s,n,p⟩,rfl,⟨q,u⟩,⟨by simp only;omega,by simp only;omega,PK z,PK y⟩⟩
theorem Mi {H:Type} {enc:TypeId×Value→H} {w:World}:∀{n:Nat} {xs:List Value},xs.length=n*5→(∀i,i<n→In enc prog w FG ((xs.drop (i*5)).take 5))→
  ∃ls:List N5,ls.length=n∧FR N5.cells ls=xs∧∀a ∈ ls,N5.at w a∧a.few
 |0,xs,hl,_=>by
  obtain rfl:xs=[]:=eq_nil_of_length_eq_zero (by omega)
  exact ⟨[],rfl,rfl,fun t b=>by simp at b⟩
 |n+1,xs,hl,h=>by
  obtain ⟨a,g,d,c⟩:=S7 (h 0 (by omega))
  obtain ⟨ls,f,e,j⟩:=Mi (n:=n) (xs:=xs.drop 5) (by simp;omega) fun i k=>by
   have:=h (i+1) (by omega)
   rwa [drop_drop,show 5+i*5=(i+1)*5 by omega]
  refine ⟨a::ls,by simp [f], ?_,fun t b=> ?_⟩
  ·rw [show FR N5.cells (a::ls)=a.cells++FR N5.cells ls from by simp [FR],e,← g]
   simp
  ·rcases List.mem_cons.1 b with rfl|b
   ·exact ⟨d,c⟩
   ·exact j t b
theorem Rd {H:Type} {enc:TypeId×Value→H} {w:World} {cs:List Value} (h:In enc prog w 22 cs):∃v,cs=[v]∧∃ls:List N5,GN w v ls∧ls.length≤1125899906842624∧∀t ∈ ls,t.few:=by
 obtain ⟨v,n,xs,e,hs,f,i⟩:=h.slice Uw (sz:=5) (by kernel_rfl)
 obtain ⟨ls,d,c,b⟩:=Mi hs.len i
 subst d c
 have j:reachBytes≤140737488355328:=by decide
 have g:Tryz.prog.bytesOf 79=72:=by kernel_rfl
 rw [g] at f
 exact ⟨v,e,ls,⟨hs,fun t a=>(b t a).1⟩,by omega,fun t a=>(b t a).2⟩
theorem Re {H:Type} {enc:TypeId×Value→H} {w:World} {cs:List Value} (h:In enc prog w 24 cs):∃v,cs=[v]∧∃ls:List N5,GN w v ls∧ls.length≤1125899906842624∧∀t ∈ ls,t.few:=by
 obtain ⟨a,b⟩:=h.struct underlying24
 have e:Tryz.prog.cellsOf 24=1:=by kernel_rfl
 have d:Tryz.prog.cellsOf 22=1:=by kernel_rfl
 rw [e] at a
 have c:In enc prog w 22 ((cs.drop 0).take (Tryz.prog.cellsOf 22)):=b 0 _ rfl
 rw [d,drop_zero,take_of_length_le (by omega)] at c
 exact Rd c
def JP (a:N5):Int:=if 1+(a.i.length:Int)≤1048576 then 1+(a.i.length:Int)+(a.s.length:Int) else 1+(a.i.length:Int)
theorem Ll (a:N5):1≤JP a:=by unfold JP;split<;>omega
theorem O3 {a:N5} (h:a.few):JP a≤4503599627370496:=by have b:=h.i;have c:=h.s;unfold JP;split<;>omega
theorem T6 {a:N5} {m:Int} (h:JP a≤m) (b:m≤1048576):(a.i.length:Int)+a.s.length+1≤m:=by unfold JP at h;split at h<;>omega
theorem Sx (a:N5) (w:World) (k:N5.at w a) (j:a.few):AJ prog 199 [a.v] w (fun r w' =>r= .int .i64 (JP a)∧Below w.heap.size w w'):=by
 have f:=Below.refl w.heap.size w
 have c:=k.i
 have b:=k.s
 have o:=j.i
 have p:=j.s
 refine Bd (n:=19) func199 O<|Ah<|C0 (cs:=a.cells) O O O ?_
 rintro l w i e d -
 have f:=f.bs d
 have c:=c.bs d
 have b:=b.bs d
 refine Ab O<|Bg<|Ab O<|Bj<|Ad O<|Aa (Ej O O) O<|Aj<|Bv O true (by decide)<|Bh<|Ad O<|A0 underlying79 O (AU _)<|Aa (Ak (AK _) O ‹_› rfl) O ?_
 refine An O O (Ki a.x a.i _ c) ?_
 rintro _ m ⟨rfl,d⟩
 have f:=f.bs d
 have c:=c.bs d
 have b:=b.bs d
 have e:=e.bs d
 refine B9 O (by omega)<|Ab O<|Bj<|Ad O<|Aa (Ej O O) O<|Aj<|Ao O ?_ ?_
 ·intro g
  have h:=AC g
  refine Bh<|Ad O<|A0 underlying79 O (AU _)<|Aa (Ak (AK _) O ‹_› rfl) O ?_
  refine An O O (Ki a.y a.s m b) ?_
  rintro _ q ⟨rfl,d⟩
  have f:=f.bs d
  have c:=c.bs d
  have b:=b.bs d
  have e:=e.bs d
  refine B9 O (by omega)<|Ab O<|Bg<|Ad O<|Ab O<|Ay<|Ax O O ?_
  exact ⟨by rw [JP,if_pos h],f⟩
 ·intro g
  have h:=AB g
  exact Cp<|Ad rfl<|Ab rfl<|Ay<|Ax rfl rfl<|⟨by rw [JP,if_neg h],f⟩
theorem QK (v:Value) (ls:List N5) (w:World) (h:GN w v ls) (F:ls.length≤1125899906842624) (B:∀t ∈ ls,t.few):AJ prog 116 [v] w (fun r w' =>r= .int .i64 (K3 (ls.length:Int) (ls.map JP))∧Below w.heap.size w w'):=by
 have f:=h.1
 have H:=f.le
 obtain ⟨T,s⟩:∃T,T=K3 (ls.length:Int) (ls.map JP):=⟨_,rfl⟩
 rw [← s]
 refine Bd (n:=25) func116 O<|Ah<|Ab O<|Bg<|Ad O<|Aa (Au BA O ‹_›) O ?_
 refine Ab O<|Bj<|Ab O<|Aj<|Ar ?_
 refine Bo (S:=(Nat×Int)) (fun p=>[(0,v),(3, .int .i64 p.2),(4, .int .i64 (p.1:Int))]) (fun p w' =>p.1≤ls.length∧0≤p.2∧p.2≤1125899906842624+4503599627370496+1048576∧K3 p.2 ((ls.map JP).drop p.1)=T∧Below w.heap.size w w') (fun p=>ls.length - p.1) ((0,(ls.length:Int))) ⟨rfl,rfl,rfl,trivial⟩ ?_ ?_
 ·exact ⟨Nat.zero_le _,by simp only;omega,by simp only;omega,s.symm,Below.refl _ _⟩
 rintro ⟨i,n⟩ z ⟨x,q,u,c,k⟩
 replace x:i≤ls.length:=x
 replace q:0≤n:=q
 replace u:n≤1125899906842624+4503599627370496+1048576:=u
 replace c:K3 n ((ls.map JP).drop i)=T:=c
 have f:=f.bs k
 refine Aq<|Ah<|Ad O<|Ad O<|Aa (Au BA O ‹_›) O ?_
 refine B1 O<|Ad O ?_
 refine Bx 11 O ?_ ?_
 ·intro g
  have b:i<ls.length:=by have:=AC g;omega
  have D:=PS (n:=n) (l:=ls.map JP) (i:=i) (by rw [length_map];exact b)
  obtain ⟨a,o⟩:∃a,a=ls[i]:=⟨_,rfl⟩
  have A:(ls.map JP).getD i default=JP a:=by rw [getD_eq_getElem?_getD,getElem?_map,getElem?_eq_getElem b,← o];rfl
  have y:a ∈ ls:=o ▸ getElem_mem b
  have e:=B a y
  have E:=Ll a
  have G:=O3 e
  have j:=h.cells b
  rw [← o] at j
  rw [D,A] at c
  refine Af (dj:=11) O O<|Ad O<|Af (dj:=11) O O<|Aa (Ej O O) O<|Bu O<|Aj<|Ao O ?_ ?_
  ·intro d
   have d:n≤1048576:=AC d
   rw [if_pos d] at c
   refine B2<|Aq<|Ar<|Bh<|Ad O<|Ad O<|Ad O<|Aa (Cu BA O O f i O b) O<|Aa (C6 (cs:=a.cells) (CY _) (CW _) O f O (by decide) j) O<|An O O (Sx a z ((h.each a y).bs k) e) ?_
   rintro _ I ⟨rfl,C⟩
   refine B9 O (by omega)<|Ab O<|Be<|Bi<|Cd<|Ad O<|B9 O (by omega)<|Ab O<|Be ?_
   exact Av (Bw ((i+1,n+JP a)) ⟨rfl,rfl,rfl,trivial⟩ (⟨b,by simp only;omega,by simp only;omega,c,bt k C⟩) (by simp only;omega))
  intro d
  have d:¬n≤1048576:=AB d
  rw [if_neg d] at c
  exact Bn<|Al<|Al<|Bc<|Ci<|Ad rfl<|Ab rfl<|Ay<|Ax rfl rfl<|⟨by rw [← c],k⟩
 intro g
 have b:i=ls.length:=by have:=AB g;omega
 have m:n=T:=by
  rw [b,drop_of_length_le (by simp)] at c;exact c
 exact Ae (dj:=11) rfl rfl rfl rfl<|Ae (dj:=11) rfl rfl rfl rfl<|B4 rfl<|Aj<|D5 rfl<|Bn<|Al<|Al<|Bc<|Ci<|Ad rfl<|Ab rfl<|Ay<|Ax rfl rfl<|⟨by rw [m],k⟩
def Vc (ls:List N5):Int:=1+K3 (ls.length:Int) (ls.map JP)
theorem S9 (v:Value) (ls:List N5) (w:World) (h:GN w v ls) (j:ls.length≤1125899906842624) (g:∀t ∈ ls,t.few):AJ prog 23 [.agg [v].toArray] w (fun r w' =>r= .int .i64 (Vc ls)∧Below w.heap.size w w'):=by
 have d:=Below.refl w.heap.size w
 have o:=PR (l:=ls.map JP) (n:=(ls.length:Int)) (m:=4503599627370496) (fun x e=>by
  obtain ⟨a,i,rfl⟩:=List.mem_map.1 e
  exact O3 (g a i)) (by decide)
 have p:=J8 (l:=ls.map JP) (n:=(ls.length:Int)) (fun x e=>by
  obtain ⟨a,i,rfl⟩:=List.mem_map.1 e
  have:=Ll a;omega)
 refine Bd (n:=12) func23 O<|Ah<|C0 (cs:=[v]) O O O ?_
 rintro k w f c b -
 have d:=d.bs b
 have h:=h.bs b
 refine Ab O<|Bg<|Ab O<|Bj<|Ad O<|Aa (Ej O O) O<|Aj<|Bv O true (by decide)<|Bh<|Ad O<|A0 underlying24 O (BY _)<|Aa (Ak (CS _) O ‹_› rfl) O ?_
 refine An O O (QK v ls _ h j g) ?_
 rintro _ q ⟨rfl,b⟩
 have d:=d.bs b
 have h:=h.bs b
 have c:=c.bs b
 refine B9 O (by omega)<|Ab O<|Bg<|Ad O<|Ab O<|Ay<|Ax O O ?_
 exact ⟨rfl,d⟩
end Go.Proofs.YtblbopcaflaldaaGreatDoor

namespace Go.Proofs.YtblbopcaflaldaaGreatDoor
open Go Go.Dd Go.RowKit List Go.Proofs.Tryz
set_option maxRecDepth 100000
theorem Ib {α:Type} {w:World} {B c:Nat} {T:TypeId} {enc:α→Value} {a v:Value} {l:List α} (h:Go.Dd.Twn w B T enc a v l) (f:c≤B):Go.Dd.Twn w c T enc a v l:=by
 obtain ⟨b,cap,e,d⟩:=h
 exact ⟨b,cap,e,DN d f⟩
theorem Ld {α:Type} {w w' :World} {B:Nat} {r:Option Nat} {T:TypeId} {enc:α→Value} {a v:Value} {l:List α} (h:Go.Dd.Twn w B T enc a v l) (f:w.grownBy w' r) (d:v.ownBlock≠r):Go.Dd.Twn w' B T enc a v l:=by
 obtain ⟨b,cap,rfl,c⟩:=h
 exact ⟨b,cap,rfl,c.kept f (.inr fun e=>d e)⟩
abbrev tI (w:World) (B:Nat) (v:Value) (l:List Int):Prop:=Go.Dd.Twn w B 3 (Value.int .i64) (Value.int .i64 77) v l
structure DE (w:World) (lo hi:Nat) (x y:Value) (a:N5):Prop where
 tx:tI w lo x a.i
 ty:tI w lo y a.s
 bx:∀b,x.ownBlock=some b→lo≤b∧b<hi
 by' :∀b,y.ownBlock=some b→lo≤b∧b<hi
 apart:∀b,x.ownBlock=some b→y.ownBlock≠some b
theorem DE.bs {w w' :World} {b c:Nat} {x y:Value} {a:N5} (h:DE w b c x y a) (g:Below w.heap.size w w'):DE w' b c x y a:=⟨h.tx.bs g,h.ty.bs g,h.bx,h.by',h.apart⟩
theorem DE.at {w:World} {b c:Nat} {x y:Value} {a:N5} (h:DE w b c x y a) (k:BitVec 8) (n p:Int):N5.at w ⟨k,x,y,a.i,a.s,n,p⟩:=⟨h.tx.sl,h.ty.sl⟩
theorem DE.by {w w' :World} {c b r:Nat} {x y:Value} {a:N5} (h:DE w c b x y a) (g:w.grownBy w' (some r)) (d:b≤r):DE w' c b x y a:=
 ⟨Ld h.tx g fun e=>by have:=h.bx _ e;omega,Ld h.ty g fun e=>by have:=h.by' _ e;omega,h.bx,h.by',h.apart⟩
theorem R1 (k:BitVec 8) (x y:Value) (n p:Int) (f:x.cells=[x].toArray) (c:y.cells=[y].toArray):Tryz.prog.built FG [(0,b8 k),(1,x),(2,y),(3, .int .i64 n),(4, .int .i64 p)]=some [b8 k,x,y, .int .i64 n, .int .i64 p].toArray:=by
 have d:Tryz.prog.info? FG=some Tryz.t79:=by kernel_rfl
 have a:Tryz.prog.info? 3=some Tryz.t3:=by kernel_rfl
 have e:Tryz.prog.info? 77=some Tryz.t77:=by kernel_rfl
 have b:Tryz.prog.info? 70=some Tryz.t70:=by kernel_rfl
 simp [Program.built,d,underlying79,a,e,b,Instr.fill,f,c]
 rfl
theorem MZ (a:N5) (W:World) (E:N5.at W a) (N:a.i.length≤4194304) (hs:a.s.length≤4194304):
  AJ prog 200 [a.v] W (fun r w' =>Below W.heap.size W w' ∧∃x y,r=(N5.mk a.k x y a.i a.s a.n a.p).v∧DE w' W.heap.size w'.heap.size x y a):=by
 have p:=Below.refl W.heap.size W
 have o:=E.i
 have m:=E.s
 refine Bd (n:=16) func200 O<|Ah<|C0 (cs:=a.cells) O O O ?_
 rintro B w G c f -
 have p:=p.bs f
 have o:=o.bs f
 have m:=m.bs f
 have T:=BL c
 have S:=AA p
 refine Dg EA O ?_
 rintro t X F v f I
 have p:=p.bs f
 have o:=o.bs f
 have m:=m.bs f
 have c:=c.bs f
 have Y:=AA p
 have Z:=BL v
 refine Aj<|Aq ?_
 refine Cw.any mixed (fun w j _=> ?_)
 have c:=c.bs j
 refine Df (fun w' =>AN w' B FG a.cells) (fun R=> ?_) (c)
 have z:=v
 refine Cr (B5 C9)<|Am 0 O (fun l g=>Ck underlying79 O (DA _)) O<|Am 1 O (fun l g=>Ak (DG _) O g O) O<|Am 2 O (fun l g=>Ck underlying79 O (AU _)) O<|Am 3 O (fun l g=>Ak (AK _) O g O) O<|Am 5 O (fun l g=>Ck underlying79 O (AU _)) O<|Am 6 O (fun l g=>Ak (AK _) O g O) O<|Am 8 O (fun l g=>Ck underlying79 O (AV _)) O<|Am 9 O (fun l g=>Ak (AI _) O g O) O<|Am 10 O (fun l g=>Ck underlying79 O (AV _)) O<|Am 11 O (fun l g=>Ak (AI _) O g O) O<|Cf ?_
 refine BV.only ‹_› (i:=4) (by kernel_rfl) O ?_
 refine An O O (J7 a.x a.i w (o.bs j) N) ?_
 rintro x l ⟨d,f⟩
 have zc:=j.size
 have j:=bt j f
 have c:=c.bs f
 have q:=fun b A=>AF d.own b A
 refine BV.back<|BV.only ‹_› (i:=7) (by kernel_rfl) O ?_
 refine An O O (J7 a.y a.s l (m.bs j) hs) ?_
 rintro y w2 ⟨h,f⟩
 have Q:=j.size
 have d:=d.bs f
 have M:=f.size
 have j:=bt j f
 have c:=c.bs f
 have H:=j.size
 have s:=fun b A=>AF h.own b A
 refine BV.back<|Cr (B5 C9)<|Am 12 O (fun l g=>Cc (cs:=[b8 a.k,x,y, .int .i64 a.n, .int .i64 a.p]) O (R1 a.k x y a.n a.p d.sl.one h.sl.one)) O<|Cf<|BV.only ‹_› (i:=13) (by kernel_rfl) O ?_
 refine Br (Cz (cs:=[b8 a.k,x,y, .int .i64 a.n, .int .i64 a.p]) (k:=5) (by kernel_rfl) O O O (by rw [all_cons,all_cons,all_cons,d.sl.one',h.sl.one'];rfl) (z.bs j) O) ?_
 rintro C ⟨D,u,U⟩
 have L:=(bt p j).grown u (AA (bt p j)) (by rintro _ ⟨⟩;omega)
 have V:=u.size
 have c:=c.by u (by rintro ⟨⟩;omega)
 have d:=Ld d u fun e=>by have:=q t e;omega
 have h:=Ld h u fun e=>by have:=s t e;omega
 have J:DE C W.heap.size C.heap.size x y a:=⟨Ib d (by omega),Ib h (by omega),fun b e=>by have:=q b e;omega,fun b e=>by have:=s b e;omega,fun b e K=>by have:=q b e;have:=s b K;omega⟩
 refine BV.back<|BV.done ‹_› (by kernel_rfl) ?_
 refine Av<|B8<|Ea<|Ff O O ‹_› underlying79 O O O ?_
 exact ⟨L,x,y,rfl,J⟩

theorem Qu {w:World} {sz n:Nat} {v:Value} {xs:List Value} (h:Sl w sz v n xs):∃a n c,v= .slice a n c:=by
 obtain ⟨_,a,cap,rfl,_⟩:=h;exact ⟨_,_,_,rfl⟩
theorem SG (x:Value) (f:∃a n c,x= .slice a n c):Tryz.prog.built 75 [(0,x)]=some [x, .slice none 0 0].toArray:=by
 obtain ⟨a,n,c,rfl⟩:=f
 have d:Tryz.prog.info? 75=some Tryz.t75:=by kernel_rfl
 have b:Tryz.prog.info? 70=some Tryz.t70:=by kernel_rfl
 have e:Tryz.prog.info? 73=some Tryz.t73:=by kernel_rfl
 simp [Program.built,d,underlying75,b,e,Instr.fill,Value.cells]
 rfl
theorem It (B:Nat) (n:Int) (w:World) (k:0≤n∧n≤4000000) (t:B≤w.heap.size):AJ prog 174 [.int .i64 n] w (fun r w' =>(∃c:List Value,r= .agg c.toArray∧Ma B 3 n w' c)∧Below w.heap.size w w'):=by
 have f:=Below.refl w.heap.size w
 refine Bd (n:=7) func174 O<|Ah<|Dg QZ O ?_
 rintro m w l d k -
 have f:=f.bs k
 refine Bg<|Ad O<|Aa (Em O (by omega)) O ?_
 have u:=BL d
 have o:=AA f
 refine Bq (C2 (vs:=[-n].map (Value.int .i64)) AD DT O O O O O) O ?_
 rintro x w ⟨a, -,h, -⟩
 have f:=f.bs h
 have d:=d.bs h
 refine Aa (Cc (vs:=[(0,x)]) (cs:=[x, .slice none 0 0]) O (SG x (Qu (AG a)))) O<|Br (Cz (cs:=[x, .slice none 0 0]) O O O O (by rw [all_cons,(AG a).one'];rfl) d O) ?_
 rintro v ⟨y,g, -⟩
 have j:=CL a (fun b e=>g.block b (AF a b e).2 (fun p=>by cases p;have:=(AF a _ e).1;omega))
 have i:=f.grown g (AA f) (by rintro _ ⟨⟩;omega)
 refine Ay<|Ff O O ‹_› underlying75 O O O ?_
 exact ⟨⟨_,rfl,x,rfl,BD j,fun b e=>by
  obtain ⟨cap,s, -,q, -⟩:=ER j e
  exact ⟨by have:=(AF a b e).1;omega,_,q⟩⟩,i⟩
theorem R0 (m:Int):Tryz.prog.built 79 [(3, .int .i64 m)]=some [b8 0#8, .slice none 0 0, .slice none 0 0, .int .i64 m, .int .i64 0].toArray:=by
 have a:Tryz.prog.info? 79=some Tryz.t79:=by kernel_rfl
 have b:Tryz.prog.info? 70=some Tryz.t70:=by kernel_rfl
 have d:Tryz.prog.info? 3=some Tryz.t3:=by kernel_rfl
 have c:Tryz.prog.info? 77=some Tryz.t77:=by kernel_rfl
 simp [Program.built,a,underlying79,b,d,c,Instr.fill,Value.cells]
 rfl
theorem JT (B:Nat) (n:Int) (w:World) (g:0≤n∧n≤4000000) (_hBw:B≤w.heap.size):AJ prog 175 [.int .i64 n] w (fun r w' =>(∃c:List Value,r= .agg c.toArray∧Mb n w' c)∧Below w.heap.size w w'):=by
 have a:=Below.refl w.heap.size w
 refine Bd (n:=6) func175 O<|Ah<|Dg EA O ?_
 rintro h w f b g -
 have a:=a.bs g
 refine Bg<|Ad O<|Aa (Em O (by omega)) O<|Aa (Cc (vs:=[(3, .int .i64 (-n))]) (cs:=[b8 0#8, .slice none 0 0, .slice none 0 0, .int .i64 (-n), .int .i64 0]) O (R0 (-n))) O<|Br (Cz (cs:=[b8 0#8, .slice none 0 0, .slice none 0 0, .int .i64 (-n), .int .i64 0]) O O O O O b O) ?_
 rintro i ⟨j,d, -⟩
 have e:=a.grown d (AA a) (by rintro _ ⟨⟩;omega)
 refine Ay<|Ff O O ‹_› underlying79 O O O ?_
 exact ⟨⟨_,rfl,rfl⟩,e⟩
theorem Kg (B:Nat) (n:Int) (w:World) (c:List Value) (d:0≤n∧n≤4000000) (g:Ma B 3 n w c):AJ prog 189 [.agg c.toArray, .int .i64 n] w (fun r w' =>r= .bool true∧Below w.heap.size w w'):=by
 obtain ⟨x,rfl,a, -⟩:=g
 have b:=Below.refl w.heap.size w
 refine Bd (n:=18) func189 O<|Ah<|C0 (cs:=[x, .slice none 0 0]) O O O ?_
 rintro h w e f d -
 have b:=b.bs d
 have a:=a.bs d
 refine Ab O<|Bg<|A0 underlying75 O (AU _)<|Aa (Ak (AK _) O ‹_› rfl) O ?_
 refine Aa (Au AD O ‹_›) O ?_
 refine Aa (Cl O O) O<|Ad O<|Cm 9 (v' := .bool true) O (cngA Value.bool (rfl))<|Af (dj:=9) O O<|A0 underlying75 O (AU _)<|Af (dj:=9) O O<|Aa (Ak (AK _) O ‹_› rfl) O ?_
 refine Af (dj:=9) O O<|Aa (Bf AD O O a 0 O (by simp)) O<|Af (dj:=9) O O<|Aa (Bl (AI _) O a (by simp)) O<|Af (dj:=9) O O<|Ad O<|Af (dj:=9) O O<|Aa (Em O (by omega)) O<|Af (dj:=9) O O<|Aa (Cl O O) O<|Bu O<|Ab O<|Ay<|Ax O O ?_
 exact ⟨cngA Value.bool (by simp),b⟩
theorem Mu (B:Nat) (n:Int) (w:World) (c:List Value) (d:0≤n∧n≤4000000) (f:Mb n w c):AJ prog 190 [.agg c.toArray, .int .i64 n] w (fun r w' =>r= .bool true∧Below w.heap.size w w'):=by
 have _:=B
 obtain rfl:=f
 have a:=Below.refl w.heap.size w
 refine Bd (n:=10) func190 O<|Ah<|C0 (cs:=[b8 0#8, .slice none 0 0, .slice none 0 0, .int .i64 (-n), .int .i64 0]) O O O ?_
 rintro g w b e d -
 have a:=a.bs d
 refine Ab O<|Bg<|A0 underlying79 O (AV _)<|Aa (Ak (AI _) O ‹_› rfl) O ?_
 refine Ad O<|Aa (Em O (by omega)) O<|Aa (Cl O O) O<|Ab O<|Ay<|Ax O O ?_
 exact ⟨cngA Value.bool (by simp),a⟩
theorem Lz (A:Nat) (y:List Value) (u:Value) (hs:List Hd) (lo base B:Nat) (w:World) (hA:AN w A BE y) (hu:y[6]? =some u) (ho:w.ownsRow lo 194 3 u hs.length (AO hs)) (q:DU w base 75 2 hs)
  (hb1:¬AW hs A) (Z:∀b,u.ownBlock=some b→¬AW hs b) (hB:B≤w.heap.size) (hSB:∀b,AW hs b→b<B):
  AJ prog 76 [.pointer (some ⟨A,0,none⟩)] w (fun r w' =>r= .tuple #[]∧BJ (AW hs) w w' ∧FA w' base 75 2 (Ma B 3) hs):=by
 have hle:=(AG ho).le
 have st:=(CR B 3)
 refine Bd (n:=35) func76 O<|Ah<|Ab O<|Aj<|Ar ?_
 refine Bo (S:=Nat) (fun i=>[(0, .pointer (some ⟨A,0,none⟩)),(2, .int .i64 (i:Int))]) (fun i w' =>i≤hs.length∧BJ (AW hs) w w' ∧(∀j (m:j<hs.length),j<i→∃cs,HP (Ma B 3) 2 hs[j].n w' hs[j].k cs∧AT w' base 75 2 hs[j].v hs[j].k cs.flatten)∧(∀j (m:j<hs.length),i≤j→AT w' base 75 2 hs[j].v hs[j].k hs[j].xs)) (fun i=>hs.length - i) (0) ⟨rfl,rfl,trivial⟩ ?_ ?_
 ·exact ⟨by omega,BJ.refl _ _,fun j m h=>by omega,fun j m _=>q.own _ (getElem_mem m)⟩
 rintro i F ⟨hi,f,hd,ht⟩
 have b1:=hA.chg f hb1
 have X:=AG (AL ho f Z)
 refine Aq<|Ah<|Ad O<|Ad O<|Aa (Bb O) O<|A0 underlying55 O (J9 _)<|Aa (Ak (Kw _) O b1 hu) O<|Aa (Au (sz:=3) JE O X) O<|B1 O<|Aj<|Ao O ?_ ?_
 ·intro h
  have a:i<hs.length:=by simp at h;omega
  have v:=getElem_mem a
  have hfew:=q.few _ v
  have Q:=q.num _ v
  have I:hs[i].g.oneCell' =true:=by rw [q.new _ v];rfl
  have C:=(q.own _ v).len
  have hvb:∀b,hs[i].v.ownBlock=some b→b<w.heap.size:=fun b e=>(q.blk ⟨_,v,e⟩).2
  have N:∀b,hs[i].v.ownBlock=some b→b<B:=fun b e=>hSB b ⟨_,v,e⟩
  refine B2<|Aq<|Ar<|Ah<|Ad O<|Aa (Bb O) O<|A0 underlying55 O (J9 _)<|Aa (Ak (Kw _) O b1 hu) O<|Ad O<|Aa (Cu JE O O X i O a) O<|Aa (C6 (cs:=hs[i].cells) (Oj _) (Nf _) O X O (by decide) (BH a)) O<|Cv (cs:=hs[i].cells) N9 O O O O (fun _=>rfl) (by simp [Hd.cells,(q.own _ v).sl.one',I,DJ]) ?_
  rintro G w2 eA_h o H zhn2
  have Y:=f.below H
  have z1:=f.size
  have r0:=(ht i a (AX _)).bs H
  refine Bg<|Ab O<|Aj<|Ar ?_
  refine Bo (S:=(Nat×List (List Value))) (fun s=>[(0, .pointer (some ⟨A,0,none⟩)),(2, .int .i64 (i:Int)),(3, .pointer (some ⟨G,0,none⟩)),(4, .int .i64 (s.1:Int))]) (fun s w' =>s.1≤hs[i].k∧AN w' G 194 hs[i].cells∧BJ (AW hs) w w' ∧BJ (fun b=>hs[i].v.ownBlock=some b) w2 w' ∧HP (Ma B 3) 2 hs[i].n w' s.1 s.2∧AT w' base 75 2 hs[i].v hs[i].k (s.2.flatten++hs[i].xs.drop (s.1*2))) (fun s=>hs[i].k - s.1) ((0,[])) ⟨rfl,rfl,rfl,rfl,trivial⟩ ?_ ?_
  ·exact ⟨by simp,o,Y,BJ.refl _ _,HP.nil _ _ _ _,by simpa using r0⟩
  clear o r0
  rintro ⟨k,cs⟩ w3 ⟨M,o,D,z,T,L⟩
  dsimp only at M o D z T L ⊢
  refine Aq<|Ah<|Ad O<|A0 underlying194 O (Hp _)<|Aa (Ak (I9 _) O ‹_› rfl) O ?_
  refine Aa (Au (sz:=2) HM O L.sl) O<|B1 O<|Aj<|Ao O ?_ ?_
  ·intro h
   have l:k<hs[i].k:=by simp at h;omega
   refine B2<|Aq<|Ar ?_
   refine Cw.any mixed (fun E p _=> ?_)
   have r4:=L.bs p
   have m4:=T.bs st p
   have b4:=o.bs p
   have K:=D.below p
   have V:=z.below p
   have z4:=K.size
   refine Fw (St:=List Value) (g:=1) [0,1,2,3,4,5,6] 7 (fun c=>[(0, .pointer (some ⟨A,0,none⟩)),(2, .int .i64 (i:Int)),(3, .pointer (some ⟨G,0,none⟩)),(4, .int .i64 (k:Int)),(33, .agg c.toArray),(34,BW hs[i].v (k*2))]) (fun c w' =>Below E.heap.size E w' ∧(Ma B 3) hs[i].n w' c) (by kernel_rfl) O ?_ ?_
   ·have hr4:=Below.refl E.heap.size E
    refine Df (fun w' =>Below E.heap.size E w') (fun hC=> ?_) (hr4)
    refine Cr (B5 (Ce (B5 (B5 (Ce (Ce (B5 (B5 (Ce C9)))))))))<|Am 0 O (fun F f=>Ck underlying194 O (Hp _)) O<|Am 1 O (fun F f=>Ak (I9 _) O (b4.bs f) O) O<|Am 2 O (fun F f=>Cb O) O<|Am 3 O (fun F f=>Ck underlying194 O (AV _)) O<|Am 4 O (fun F f=>Ak (AI _) O (b4.bs f) O) O<|Cf<|BV.only ‹_› (i:=5) (by kernel_rfl) O ?_
    refine An O O (It B hs[i].n E Q (by omega)) ?_
    rintro _ w5 ⟨⟨c,rfl,J⟩,d⟩
    refine BV.back<|Cr (B5 (Ce (B5 (B5 (Ce (Ce (B5 (B5 (Ce C9)))))))))<|Am 6 O (fun F f=>Cu HM O O (r4.sl.bs f) k O l) O<|Cf<|BV.done ‹_› (by kernel_rfl) ?_
    exact Av (Fu (c) ⟨rfl,rfl,rfl,rfl,rfl,rfl,trivial⟩ (⟨d,J⟩))
   rintro c w5 ⟨d,J⟩
   have r5:=r4.bs d
   have U:=m4.bs st d
   have b5:=b4.bs d
   have R:=(Lj J).1
   have ld:=MC C U.els M
   refine Aw.only (i:=7) (by kernel_rfl) O<|Br (Xu.stKA (k:=2) (ds:=c) O R O O (Lj J).2 r5 (by omega) (by rw [ld,R];omega)) ?_
   rintro w6 ⟨r6,t, -⟩
   rw [LP C U.els R l] at r6
   have hS6:BJ (fun b=>hs[i].v.ownBlock=some b) w5 w6:=(BJ.refl _ _).grown t (fun b e=> .inl e)
   have m6:=(U.snoc R J).chg st hS6 N
   have b6:=b5.by t (fun e=>by have:=hvb _ e.symm;omega)
   refine Aw.back<|Aw.done (by kernel_rfl)<|Bi<|Cd<|Ad O<|B9 O (by omega)<|Ab O<|Be ?_
   exact Av (Bw ((k+1,cs++[c])) ⟨rfl,rfl,rfl,rfl,trivial⟩ (⟨l,b6,(K.below d).grown t (fun b e=> .inl ⟨_,v,e⟩),(V.below d).grown t (fun b e=> .inl e),m6,r6⟩) (by simp only;omega))
  intro h
  have l:k=hs[i].k:=by simp at h;omega
  rw [drop_of_length_le (by rw [C,l];exact AX _),append_nil] at L
  rw [l] at T
  have hall:BJ (fun b=>hs[i].v.ownBlock=some b) F w3:=(BJ.of_below H).trans z
  refine Bn<|Al<|Al<|Bc<|Bi<|Cd<|Ad O<|B9 O (by omega)<|Ab O<|Be ?_
  exact Av (Bw (i+1) ⟨rfl,rfl,trivial⟩ (⟨a,D,fun j m hji=>(if e:j=i then by subst e;exact ⟨cs,T,L⟩ else by obtain ⟨ds,q1,q2⟩:=hd j m (by omega);exact ⟨ds,q1.chg st hall N,q2.chg hall fun b W e2=>BI q.apart a m (Ne.symm e) b e2 W⟩),fun j m hji=>(ht j m (by omega)).chg hall fun b W e2=>BI q.apart a m (by omega) b e2 W⟩) (by omega))
 intro h
 have a:i=hs.length:=by simp at h;omega
 refine Bn<|Al<|Al<|Bc<|Cs O ?_
 refine ⟨rfl,f,fun x hx=> ?_⟩
 obtain ⟨j,m,rfl⟩:=List.mem_iff_getElem.1 hx
 exact hd j m (by omega)
theorem Lv (A:Nat) (K:List Value) (u:Value) (hs:List Hd) (lo base B:Nat) (w:World) (hA:AN w A BE K) (hu:K[6]? =some u) (ho:w.ownsRow lo 194 3 u hs.length (AO hs)) (Q:KOk hs) (hf:FA w base 75 2 (Ma B 3) hs)
  (hb1:¬AW hs A) (x:∀b,u.ownBlock=some b→¬AW hs b) (hb3:u.ownBlock≠some A) (hbase:base≤w.heap.size) (hB:B≤w.heap.size) (hSB:∀b,AW hs b→b<B) (huB:∀b,u.ownBlock=some b→b<B):
  AJ prog 91 [.pointer (some ⟨A,0,none⟩)] w (fun r w' =>r= .tuple #[]∧BJ (fun b=>AW hs b∨u.ownBlock=some b) w w' ∧∃f,DH w hs f∧w'.ownsRow lo 194 3 u hs.length (AO f)∧∀t ∈ f,EM w' 2 (Ma B 3) t):=by
 have hle:=(AG ho).le
 have st:=(CR B 3)
 refine Bd (n:=42) func91 O<|Ah<|Ab O<|Aj<|Ar ?_
 refine Bo (S:=(Nat×List Hd)) (fun s=>[(0, .pointer (some ⟨A,0,none⟩)),(2, .int .i64 (s.1:Int))]) (fun s w' =>s.1≤hs.length∧DH w hs s.2∧(∀t ∈ s.2,t.g.oneCell' =true)∧BJ (fun b=>AW hs b∨u.ownBlock=some b) w w' ∧w'.ownsRow lo 194 3 u hs.length (AO s.2)∧(∀j (v:j<s.2.length),j<s.1→EM w' 2 (Ma B 3) s.2[j])∧(∀j (v:j<hs.length),s.1≤j→∃cs,HP (Ma B 3) 2 hs[j].n w' hs[j].k cs∧AT w' base 75 2 hs[j].v hs[j].k cs.flatten)) (fun s=>hs.length - s.1) ((0,hs)) ⟨rfl,rfl,trivial⟩ ?_ ?_
 ·exact ⟨by simp,Eh w Q.new,fun t ht=>(by rw [Q.new t ht];rfl),BJ.refl _ _,ho,fun j v h=>by simp at h,fun j v _=>hf _ (getElem_mem v)⟩
 rintro ⟨i,f⟩ w1 ⟨hi,X,h1,Y,o1,hd,ht⟩
 dsimp only at hi X h1 Y o1 hd ht ⊢
 have b1:=hA.chg Y (fun e=>e.elim hb1 hb3)
 have s1:=AG o1
 have hlen:=X.len
 refine Aq<|Ah<|Ad O<|Ad O<|Aa (Bb O) O<|A0 underlying55 O (J9 _)<|Aa (Ak (Kw _) O b1 hu) O<|Aa (Au (sz:=3) JE O s1) O<|B1 O<|Aj<|Ao O ?_ ?_
 ·intro h
  have d:i<hs.length:=by simp at h;omega
  have z:i<f.length:=by omega
  obtain ⟨ev,ek,en,eg⟩:=X.all i d z
  have I:=getElem_mem d
  have hmt:=getElem_mem z
  have hfew:=Q.few _ I
  have hnum:=Q.num _ I
  have hone:=h1 _ hmt
  have hvb:∀b,hs[i].v.ownBlock=some b→b<w.heap.size:=fun b e=>(hf.blk ⟨_,I,e⟩).2
  have hvB:∀b,hs[i].v.ownBlock=some b→b<B:=fun b e=>hSB b ⟨_,I,e⟩
  obtain ⟨Z,m0,W⟩:=ht i d (AX _)
  have hvo:=W.sl.one'
  refine B2<|Aq<|Ar<|Ah<|Ad O<|Aa (Bb O) O<|A0 underlying55 O (J9 _)<|Aa (Ak (Kw _) O b1 hu) O<|Ad O<|Aa (Cu JE O O s1 i O d) O<|Aa (C6 (cs:=f[i].cells) (Oj _) (Nf _) O s1 O (by decide) (BH z)) O<|Cv (cs:=f[i].cells) N9 O O O O (fun _=>rfl) (by simp [Hd.cells,ev,hvo,hone,DJ]) ?_
  rintro V w2 eA_h C G zhn2
  have hc2:=Y.below G
  have z1:=Y.size
  have z2:=hc2.size
  have W:=W.bs G
  have m0:=m0.bs st G
  refine Bg<|A0 underlying194 O (Hp _)<|Aa (Ak (I9 _) O ‹_› rfl) O ?_
  refine Ab O<|Bj<|Ab O<|Aj<|Ar<|Ee 4 (v' :=hs[i].v) O (ev) ?_
  refine Bo (S:=(Nat×Value×List (List Value))) (fun s=>[(0, .pointer (some ⟨A,0,none⟩)),(2, .int .i64 (i:Int)),(3, .pointer (some ⟨V,0,none⟩)),(4,s.2.1),(5, .int .i64 (s.1:Int))]) (fun s w' =>s.1≤40∧AN w' V 194 f[i].cells∧BJ (fun b=>hs[i].v.ownBlock=some b) w2 w' ∧HP (Ma B 3) 2 hs[i].n w' (hs[i].k+s.1) s.2.2∧AT w' base 75 2 s.2.1 (hs[i].k+s.1) s.2.2.flatten∧(∀b,s.2.1.ownBlock=some b→hs[i].v.ownBlock=some b∨w2.heap.size≤b)∧s.2.2.take hs[i].k=Z∧Sl w' 2 hs[i].v hs[i].k Z.flatten) (fun s=>40 - s.1) ((0,hs[i].v,Z)) ⟨rfl,rfl,rfl,rfl,rfl,trivial⟩ ?_ ?_
  ·exact ⟨by simp,C,BJ.refl _ _,m0,W,fun b e=> .inl e,take_of_length_le (by rw [m0.els.1];exact AX _),W.sl⟩
  clear C
  rintro ⟨k,g,cs⟩ w3 ⟨hk3,C,N,m3,r3,q,U,l3⟩
  dsimp only at hk3 C m3 r3 q U l3 ⊢
  have z3:=N.size
  refine Aq<|Ah<|Ad O<|B1 O<|Aj<|Ao O ?_ ?_
  ·intro h
   have M:k<40:=by simp at h;omega
   refine B2<|Aq<|Ar<|Bh<|Ad O<|A0 underlying194 O (AV _)<|Aa (Ak (AI _) O ‹_› rfl) O ?_
   refine Cm 30 (v' := .int .i64 hs[i].n) O (cngA (Value.int .i64) en)<|An O O (It B hs[i].n w3 hnum (by omega)) ?_
   rintro _ J ⟨⟨c,rfl,hφ⟩,hn4⟩
   have lc:=Lj hφ
   refine Bq (Er (cs:=c) HM QZ O lc.1 (by decide) (by decide)) O ?_
   rintro nv w5 ⟨o5, -,hn5, -⟩
   have o:=bt hn4 hn5
   have z5:=o.size
   have r5:=r3.bs o
   have m5:=(m3.bs st o).snoc lc.1 (st.bs hφ hn5)
   have hgt:∀b,g.ownBlock=some b→b<B∨∃T cs,AN w5 b T cs∧T≠3:=fun b e=>by
    rcases q b e with a|a
    ·exact .inl (hvB b a)
    ·obtain ⟨cur,hcur⟩:=r5.ty e
     exact .inr ⟨_,cur,hcur,by decide⟩
   refine Bq (Ef (base:=base) HM QZ O (by decide) O O r5 (AG o5) lc.2 (by omega) (by omega) (by omega) (AX _)) O ?_
   rintro g' w6 ⟨r6,F,D⟩
   have l5:=l3.bs o
   have b5:=C.bs o
   have e6:cs.flatten++c=(cs++[c]).flatten:=by simp
   rw [e6] at r6
   have m6:=m5.by st F hgt
   have hgA:some V≠g.ownBlock:=fun e=>by
    rcases q _ e.symm with a|a
    ·have:=hvb _ a;omega
    ·omega
   have L:(cs++[c]).take hs[i].k=Z:=by rw [take_append_of_le_length (by rw [m3.els.1];omega)];exact U
   have l6:Sl w6 2 hs[i].v hs[i].k Z.flatten:=Ji W (.inl r6) F D l5 (by
    rw [E5 (k:=hs[i].k) (m:=k+1) m5.els,L])
   have hgb' :∀b,g'.ownBlock=some b→hs[i].v.ownBlock=some b∨w2.heap.size≤b:=fun b e=>by
    rcases D with a|⟨a, -⟩
    ·rw [a] at e;exact q b e
    ·exact .inr (by have:=a b e;omega)
   refine Ab O<|Be<|Bi<|Cd<|Ad O<|B9 O (by omega)<|Ab O<|Be ?_
   exact Av (Bw ((k+1,g',cs++[c])) ⟨rfl,rfl,rfl,rfl,rfl,trivial⟩ (⟨M,b5.by F hgA,(N.below o).grown F q,m6, .inl r6,hgb',L,l6⟩) (by simp only;omega))
  intro h
  have M:k=40:=by simp at h;omega
  subst M
  have hall:BJ (fun b=>hs[i].v.ownBlock=some b) w1 w3:=(BJ.of_below G).trans N
  have hcS:BJ (fun b=>AW hs b∨u.ownBlock=some b) w w3:=Y.trans (hall.mono fun b e=> .inl ⟨_,I,e⟩)
  have b3:=hA.chg hcS (fun e=>e.elim hb1 hb3)
  have o3:=AL o1 hall (fun b y l=>x b y ⟨_,I,l⟩)
  refine Bn<|Al<|Al<|Bc<|Cd<|Ad O<|Aa (Bb O) O<|A0 underlying55 O (J9 _)<|Aa (Ak (Kw _) O b3 hu) O<|Ad O<|Ad O<|Aa (Cu JE O O (AG o3) i O d) O<|Aa (Dj underlying194 O (Hp _) O (Ht o3 (by omega))) O<|Br (E1 (j:=i*3+1) (Hp _) O O r3.sl.one' o3 (by rw [EU];omega)) ?_
  rintro J ⟨o4,E, -⟩
  have e4:=ET z g
  have o4:J.ownsRow lo 194 3 u hs.length (AO (f.set i {f[i] with g:=g})):=by rw [← e4];exact o4
  have hG4:=X.set d z (g:=g) (fun b e=>by
   rcases q b e with a|a
   ·exact .inl a
   ·exact .inr (by omega))
  have p:BJ (fun b=>hs[i].v.ownBlock=some b∨u.ownBlock=some b) w1 J:=(hall.mono fun b e=> .inl e).grown E (fun b e=> .inl (.inr e))
  have H:∀b,(hs[i].v.ownBlock=some b∨u.ownBlock=some b)→b<B:=fun b e=>e.elim (hvB b) (huB b)
  have hS4:BJ (fun b=>AW hs b∨u.ownBlock=some b) w J:=hcS.grown E (fun b e=> .inl (.inr e))
  have huT:∀b,u.ownBlock=some b→b<B∨∃T cs,AN w3 b T cs∧T≠3:=fun b e=> .inl (huB b e)
  have m4:=m3.by st E huT
  have t4:EM J 2 (Ma B 3) {f[i] with g:=g}:=by
   refine ⟨⟨Z, ?_, ?_⟩,⟨cs, ?_, ?_⟩⟩
   ·simp only;rw [ek,en,← U];exact m4.take
   ·simp only;rw [ev,ek]
    refine l3.by E ?_
    cases hv:hs[i].v.ownBlock with
    |none=>exact .inl rfl
    |some b=>exact .inr fun e=>x b e.symm ⟨_,I,hv⟩
   ·simp only;rw [ek,en];exact m4
   ·simp only;rw [ek]
    refine r3.sl.by E ?_
    cases hv:g.ownBlock with
    |none=>exact .inl rfl
    |some b=>
     refine .inr fun e=> ?_
     rcases q b hv with a|a
     ·exact x b e.symm ⟨_,I,a⟩
     ·have:=(AF ho b e.symm).2;omega
  have h14:∀t ∈ f.set i {f[i] with g:=g},t.g.oneCell' =true:=fun t R=>by
   rcases mem_or_eq_of_mem_set R with a|a
   ·exact h1 t a
   ·rw [a];exact r3.sl.one'
  have hd4:∀j (v:j<(f.set i {f[i] with g:=g}).length),j<i+1→EM J 2 (Ma B 3) (f.set i {f[i] with g:=g})[j]:=fun j v hji=>by
    rw [getElem_set]
    split
    ·exact t4
    ·rename_i hne
     have hj' :j<f.length:=by simpa using v
     obtain ⟨fv,_,_,fg⟩:=X.all j (by omega) hj'
     refine (hd j hj' (by omega)).chg st p H (fun b y _ l=> ?_) (fun b y _ l=> ?_)
     ·rw [fv] at y
      rcases l with l|l
      ·exact BI Q.apart d (show j<hs.length by omega) hne b l y
      ·exact x b l ⟨_,getElem_mem _,y⟩
     ·rcases l with l|l
      ·rcases fg b y with a|a
       ·exact BI Q.apart d (show j<hs.length by omega) hne b l a
       ·have:=hvb b l;omega
      ·rcases fg b y with a|a
       ·exact x b l ⟨_,getElem_mem _,a⟩
       ·have:=(AF ho b l).2;omega
  have ht4:∀j (v:j<hs.length),i+1≤j→∃cs,HP (Ma B 3) 2 hs[j].n J hs[j].k cs∧AT J base 75 2 hs[j].v hs[j].k cs.flatten:=fun j v hji=>by
   obtain ⟨ds,q1,q2⟩:=ht j v (by omega)
   refine ⟨ds,q1.chg st p H,q2.chg p fun b y l=> ?_⟩
   rcases l with l|l
   ·exact BI Q.apart d v (by omega) b l y
   ·exact x b l ⟨_,getElem_mem _,y⟩
  refine Be<|Bi<|Cd<|Ad O<|B9 O (by omega)<|Ab O<|Be ?_
  exact Av (Bw ((i+1,f.set i {f[i] with g:=g})) ⟨rfl,rfl,trivial⟩ (⟨d,hG4,h14,hS4,o4,hd4,ht4⟩) (by simp only;omega))
 intro h
 have d:i=hs.length:=by simp at h;omega
 refine Bn<|Al<|Al<|Bc<|Cs O ?_
 refine ⟨rfl,Y,f,X,o1,fun t R=> ?_⟩
 obtain ⟨j,v,rfl⟩:=List.mem_iff_getElem.1 R
 exact hd j v (by omega)
theorem Lp (A:Nat) (m:List Value) (u:Value) (d:List Hd) (lo B:Nat) (w:World) (Y:AN w A BE m) (Q:m[6]? =some u) (N:w.ownsRow lo 194 3 u d.length (AO d)) (X:∀t ∈ d,EM w 2 (Ma B 3) t) (hn:∀t ∈ d,(0≤t.n∧t.n≤4000000)∧t.k≤16777216):
  AJ prog 106 [.pointer (some ⟨A,0,none⟩)] w (fun r w' =>r= .bool true∧Below w.heap.size w w'):=by
 have hle:=(AG N).le
 have st:=(CR B 3)
 refine Bd (n:=64) func106 O<|Ah<|Ab O<|Bj<|Ab O<|Aj<|Ar ?_
 refine Bo (S:=Nat) (fun i=>[(0, .pointer (some ⟨A,0,none⟩)),(2, .bool false),(3, .int .i64 (i:Int))]) (fun i w' =>i≤d.length∧Below w.heap.size w w') (fun i=>d.length - i) (0) ⟨rfl,rfl,rfl,trivial⟩ ?_ ?_
 ·exact ⟨by omega,Below.refl _ _⟩
 rintro i b ⟨hi,e⟩
 have K:=Y.bs e
 have I:=(AG N).bs e
 refine Aq<|Ah<|Ad O<|Ad O<|Aa (Bb O) O<|A0 underlying55 O (J9 _)<|Aa (Ak (Kw _) O K Q) O<|Aa (Au (sz:=3) JE O I) O<|B1 O<|Aj<|Ao O ?_ ?_
 ·intro h
  have l:i<d.length:=by simp at h;omega
  have R:=getElem_mem l
  obtain ⟨o,T⟩:=hn _ R
  have Z:=(X _ R).bs st e
  obtain ⟨⟨F,v,z⟩,⟨H,s,y⟩⟩:=Z
  refine B2<|Aq<|Ar<|Ah<|Ad O<|Aa (Bb O) O<|A0 underlying55 O (J9 _)<|Aa (Ak (Kw _) O K Q) O<|Ad O<|Aa (Cu JE O O I i O l) O<|Aa (C6 (cs:=d[i].cells) (Oj _) (Nf _) O I O (by decide) (BH l)) O<|Cv (cs:=d[i].cells) N9 O O O O (fun _=>rfl) (by simp [Hd.cells,z.one',y.one',DJ]) ?_
  rintro E U L C f M
  have D:=bt e f
  have z:=z.bs f
  have y:=y.bs f
  have v:=v.bs st f
  have s:=s.bs st f
  refine Bj<|A0 underlying194 O (Hp _)<|Aa (Ak (I9 _) O ‹_› rfl) O ?_
  refine Aa (Au (sz:=2) HM O y) O<|A0 underlying194 O (Hp _)<|Aa (Ak (I9 _) O ‹_› rfl) O ?_
  refine Aa (Au (sz:=2) HM O z) O<|B9 O (by omega)<|Aa (Cn O O) O<|Aj<|Bv O false (by simp)<|Cp<|Ab O<|Aj<|Ar ?_
  refine Bo (S:=Nat) (fun k=>[(0, .pointer (some ⟨A,0,none⟩)),(2, .bool false),(3, .int .i64 (i:Int)),(4, .pointer (some ⟨E,0,none⟩)),(5, .int .i64 (k:Int))]) (fun k w' =>k≤d[i].k+40∧Below U.heap.size U w') (fun k=>d[i].k+40 - k) (0) ⟨rfl,rfl,rfl,rfl,rfl,trivial⟩ ?_ ?_
  ·exact ⟨by omega,Below.refl _ _⟩
  rintro k w3 ⟨hk3,c⟩
  have G:=z.bs c
  have J:=y.bs c
  have b3:=C.bs c
  have W:=v.bs st c
  have m4:=s.bs st c
  refine Aq<|Ah<|Ad O<|A0 underlying194 O (Hp _)<|Aa (Ak (I9 _) O ‹_› rfl) O ?_
  refine Aa (Au (sz:=2) HM O J) O<|B1 O<|Aj<|Ao O ?_ ?_
  ·intro h
   have j:k<d[i].k+40:=by simp at h;omega
   have p:k<H.length:=by rw [s.els.1];exact j
   refine B2<|Aq<|Ar<|Aq<|C8 mixed (by kernel_rfl)<|Ai (fun b a=>Ck underlying194 O (Hp _)) O<|Ai (fun b a=>Ak (I9 _) O (AN.bs ‹_› a) O) O ?_
   refine Bt O<|Ai (fun b a=>Cu HM O O (J.bs a) k O j) O<|Ai (fun b a=>C6 (cs:=H[k]) (Ta _) (SO _) O (J.bs a) (s.els.2 _ (getElem_mem p)) (by decide) (s.els.cells p)) O<|Ai (fun b a=>Ck underlying194 O (AV _)) O<|Ai (fun b a=>Ak (AI _) O (AN.bs ‹_› a) O) O ?_
   refine C3 O O (fun b a=>(Kg B d[i].n b H[k] o (st.bs (m4.each _ (getElem_mem p)) a)).q a)<|Ai (fun b a=>Co O) O<|Bt O<|Ey 46 (v' := .bool false) O (cngA Value.bool (rfl))<|Az (dj:=46) O O<|Bt O<|Az (dj:=46) O O<|Ai (fun b a=>Ck underlying194 O (Hp _)) O<|Az (dj:=46) O O<|Ai (fun b a=>Ak (I9 _) O (AN.bs ‹_› a) O) O ?_
   refine Az (dj:=46) O O<|Ai (fun b a=>Au (sz:=2) HM O (G.bs a)) O<|Az (dj:=46) O O<|Ai (fun b a=>Ep O O) O<|Az (dj:=46) O O<|Bt O ?_
   refine Di 52 O ?_ ?_
   ·intro g
    have x:k<d[i].k:=by simpa using g
    have q:k<F.length:=by rw [v.els.1];exact x
    refine Az (dj:=52) O O<|Ai (fun b a=>Ck underlying194 O (Hp _)) O<|Az (dj:=52) O O<|Ai (fun b a=>Ak (I9 _) O (AN.bs ‹_› a) O) O ?_
    refine Az (dj:=52) O O<|Bt O<|Az (dj:=52) O O<|Ai (fun b a=>Cu HM O O (G.bs a) k O x) O<|Az (dj:=52) O O<|Ai (fun b a=>C6 (cs:=F[k]) (Ta _) (SO _) O (G.bs a) (v.els.2 _ (getElem_mem q)) (by decide) (v.els.cells q)) O<|Az (dj:=52) O O<|Ai (fun b a=>Ck underlying194 O (AV _)) O<|Az (dj:=52) O O<|Ai (fun b a=>Ak (AI _) O (AN.bs ‹_› a) O) O ?_
    refine Az (dj:=52) O O<|C3 O O (fun b a=>(Kg B d[i].n b F[k] o (st.bs (W.each _ (getElem_mem q)) a)).q a)<|Az (dj:=52) O O<|Ai (fun b a=>Co O) O<|Az (dj:=46) O O<|Ai (fun b a=>Cy O O) O<|Ai (fun b a=>Cx O O) O ?_
    refine C1 (fun V a=> ?_)
    refine Av<|B8<|Bv O false (rfl)<|Ca<|Bi<|Cd<|Ad O<|B9 O (by omega)<|Ab O<|Be ?_
    exact Av (Bw (k+1) ⟨rfl,rfl,rfl,rfl,rfl,trivial⟩ (⟨j,bt c a⟩) (by omega))
   ·intro g
    refine As (dj:=52) O O O O<|As (dj:=52) O O O O<|As (dj:=52) O O O O<|As (dj:=52) O O O O<|As (dj:=52) O O O O<|As (dj:=52) O O O O<|As (dj:=52) O O O O<|As (dj:=52) O O O O<|As (dj:=52) O O O O<|Az (dj:=46) O O<|Ai (fun b a=>Cx O O) O<|Ai (fun b a=>Cx O O) O ?_
    refine C1 (fun V a=> ?_)
    refine Av<|B8<|D5 O<|Ca<|Bi<|Cd<|Ad O<|B9 O (by omega)<|Ab O<|Be ?_
    exact Av (Bw (k+1) ⟨rfl,rfl,rfl,rfl,rfl,trivial⟩ (⟨j,bt c a⟩) (by omega))
  intro h
  refine Bn<|Al<|Al<|Bc<|Bi<|Cd<|Ad O<|B9 O (by omega)<|Ab O<|Be ?_
  exact Av (Bw (i+1) ⟨rfl,rfl,rfl,trivial⟩ (⟨l,bt D c⟩) (by omega))
 intro h
 exact Bn<|Al<|Al<|Bc<|Ci<|Ab rfl<|Ay<|Ax rfl rfl<|⟨rfl,e⟩
theorem NU (A:Nat) (y:List Value) (u:Value) (hs:List Hd) (lo base B:Nat) (w:World) (hA:AN w A BE y) (hu:y[7]? =some u) (ho:w.ownsRow lo 197 3 u hs.length (AO hs)) (q:DU w base 79 5 hs)
  (hb1:¬AW hs A) (Z:∀b,u.ownBlock=some b→¬AW hs b) (hB:B≤w.heap.size) (hSB:∀b,AW hs b→b<B):
  AJ prog 77 [.pointer (some ⟨A,0,none⟩)] w (fun r w' =>r= .tuple #[]∧BJ (AW hs) w w' ∧FA w' base 79 5 (Mb) hs):=by
 have hle:=(AG ho).le
 have st:=(CV B 3)
 refine Bd (n:=35) func77 O<|Ah<|Ab O<|Aj<|Ar ?_
 refine Bo (S:=Nat) (fun i=>[(0, .pointer (some ⟨A,0,none⟩)),(2, .int .i64 (i:Int))]) (fun i w' =>i≤hs.length∧BJ (AW hs) w w' ∧(∀j (m:j<hs.length),j<i→∃cs,HP (Mb) 5 hs[j].n w' hs[j].k cs∧AT w' base 79 5 hs[j].v hs[j].k cs.flatten)∧(∀j (m:j<hs.length),i≤j→AT w' base 79 5 hs[j].v hs[j].k hs[j].xs)) (fun i=>hs.length - i) (0) ⟨rfl,rfl,trivial⟩ ?_ ?_
 ·exact ⟨by omega,BJ.refl _ _,fun j m h=>by omega,fun j m _=>q.own _ (getElem_mem m)⟩
 rintro i F ⟨hi,f,hd,ht⟩
 have b1:=hA.chg f hb1
 have X:=AG (AL ho f Z)
 refine Aq<|Ah<|Ad O<|Ad O<|Aa (Bb O) O<|A0 underlying55 O (HJ _)<|Aa (Ak (Jn _) O b1 hu) O<|Aa (Au (sz:=3) Ie O X) O<|B1 O<|Aj<|Ao O ?_ ?_
 ·intro h
  have a:i<hs.length:=by simp at h;omega
  have v:=getElem_mem a
  have hfew:=q.few _ v
  have Q:=q.num _ v
  have I:hs[i].g.oneCell' =true:=by rw [q.new _ v];rfl
  have C:=(q.own _ v).len
  have hvb:∀b,hs[i].v.ownBlock=some b→b<w.heap.size:=fun b e=>(q.blk ⟨_,v,e⟩).2
  have N:∀b,hs[i].v.ownBlock=some b→b<B:=fun b e=>hSB b ⟨_,v,e⟩
  refine B2<|Aq<|Ar<|Ah<|Ad O<|Aa (Bb O) O<|A0 underlying55 O (HJ _)<|Aa (Ak (Jn _) O b1 hu) O<|Ad O<|Aa (Cu Ie O O X i O a) O<|Aa (C6 (cs:=hs[i].cells) (Oi _) (Nb _) O X O (by decide) (BH a)) O<|Cv (cs:=hs[i].cells) Ke O O O O (fun _=>rfl) (by simp [Hd.cells,(q.own _ v).sl.one',I,DJ]) ?_
  rintro G w2 eA_h o H zhn2
  have Y:=f.below H
  have z1:=f.size
  have r0:=(ht i a (AX _)).bs H
  refine Bg<|Ab O<|Aj<|Ar ?_
  refine Bo (S:=(Nat×List (List Value))) (fun s=>[(0, .pointer (some ⟨A,0,none⟩)),(2, .int .i64 (i:Int)),(3, .pointer (some ⟨G,0,none⟩)),(4, .int .i64 (s.1:Int))]) (fun s w' =>s.1≤hs[i].k∧AN w' G 197 hs[i].cells∧BJ (AW hs) w w' ∧BJ (fun b=>hs[i].v.ownBlock=some b) w2 w' ∧HP (Mb) 5 hs[i].n w' s.1 s.2∧AT w' base 79 5 hs[i].v hs[i].k (s.2.flatten++hs[i].xs.drop (s.1*5))) (fun s=>hs[i].k - s.1) ((0,[])) ⟨rfl,rfl,rfl,rfl,trivial⟩ ?_ ?_
  ·exact ⟨by simp,o,Y,BJ.refl _ _,HP.nil _ _ _ _,by simpa using r0⟩
  clear o r0
  rintro ⟨k,cs⟩ w3 ⟨M,o,D,z,T,L⟩
  dsimp only at M o D z T L ⊢
  refine Aq<|Ah<|Ad O<|A0 underlying197 O (BY _)<|Aa (Ak (CS _) O ‹_› rfl) O ?_
  refine Aa (Au (sz:=5) BA O L.sl) O<|B1 O<|Aj<|Ao O ?_ ?_
  ·intro h
   have l:k<hs[i].k:=by simp at h;omega
   refine B2<|Aq<|Ar ?_
   refine Cw.any mixed (fun E p _=> ?_)
   have r4:=L.bs p
   have m4:=T.bs st p
   have b4:=o.bs p
   have K:=D.below p
   have V:=z.below p
   have z4:=K.size
   refine Fw (St:=List Value) (g:=1) [0,1,2,3,4,5,6] 7 (fun c=>[(0, .pointer (some ⟨A,0,none⟩)),(2, .int .i64 (i:Int)),(3, .pointer (some ⟨G,0,none⟩)),(4, .int .i64 (k:Int)),(33, .agg c.toArray),(34,BW hs[i].v (k*5))]) (fun c w' =>Below E.heap.size E w' ∧(Mb) hs[i].n w' c) (by kernel_rfl) O ?_ ?_
   ·have hr4:=Below.refl E.heap.size E
    refine Df (fun w' =>Below E.heap.size E w') (fun hC=> ?_) (hr4)
    refine Cr (B5 (Ce (B5 (B5 (Ce (Ce (B5 (B5 (Ce C9)))))))))<|Am 0 O (fun F f=>Ck underlying197 O (BY _)) O<|Am 1 O (fun F f=>Ak (CS _) O (b4.bs f) O) O<|Am 2 O (fun F f=>Cb O) O<|Am 3 O (fun F f=>Ck underlying197 O (AV _)) O<|Am 4 O (fun F f=>Ak (AI _) O (b4.bs f) O) O<|Cf<|BV.only ‹_› (i:=5) (by kernel_rfl) O ?_
    refine An O O (JT B hs[i].n E Q (by omega)) ?_
    rintro _ w5 ⟨⟨c,rfl,J⟩,d⟩
    refine BV.back<|Cr (B5 (Ce (B5 (B5 (Ce (Ce (B5 (B5 (Ce C9)))))))))<|Am 6 O (fun F f=>Cu BA O O (r4.sl.bs f) k O l) O<|Cf<|BV.done ‹_› (by kernel_rfl) ?_
    exact Av (Fu (c) ⟨rfl,rfl,rfl,rfl,rfl,rfl,trivial⟩ (⟨d,J⟩))
   rintro c w5 ⟨d,J⟩
   have r5:=r4.bs d
   have U:=m4.bs st d
   have b5:=b4.bs d
   have R:=(Lk J).1
   have ld:=MC C U.els M
   refine Aw.only (i:=7) (by kernel_rfl) O<|Br (Xu.stKA (k:=5) (ds:=c) O R O O (Lk J).2 r5 (by omega) (by rw [ld,R];omega)) ?_
   rintro w6 ⟨r6,t, -⟩
   rw [LP C U.els R l] at r6
   have hS6:BJ (fun b=>hs[i].v.ownBlock=some b) w5 w6:=(BJ.refl _ _).grown t (fun b e=> .inl e)
   have m6:=(U.snoc R J).chg st hS6 N
   have b6:=b5.by t (fun e=>by have:=hvb _ e.symm;omega)
   refine Aw.back<|Aw.done (by kernel_rfl)<|Bi<|Cd<|Ad O<|B9 O (by omega)<|Ab O<|Be ?_
   exact Av (Bw ((k+1,cs++[c])) ⟨rfl,rfl,rfl,rfl,trivial⟩ (⟨l,b6,(K.below d).grown t (fun b e=> .inl ⟨_,v,e⟩),(V.below d).grown t (fun b e=> .inl e),m6,r6⟩) (by simp only;omega))
  intro h
  have l:k=hs[i].k:=by simp at h;omega
  rw [drop_of_length_le (by rw [C,l];exact AX _),append_nil] at L
  rw [l] at T
  have hall:BJ (fun b=>hs[i].v.ownBlock=some b) F w3:=(BJ.of_below H).trans z
  refine Bn<|Al<|Al<|Bc<|Bi<|Cd<|Ad O<|B9 O (by omega)<|Ab O<|Be ?_
  exact Av (Bw (i+1) ⟨rfl,rfl,trivial⟩ (⟨a,D,fun j m hji=>(if e:j=i then by subst e;exact ⟨cs,T,L⟩ else by obtain ⟨ds,q1,q2⟩:=hd j m (by omega);exact ⟨ds,q1.chg st hall N,q2.chg hall fun b W e2=>BI q.apart a m (Ne.symm e) b e2 W⟩),fun j m hji=>(ht j m (by omega)).chg hall fun b W e2=>BI q.apart a m (by omega) b e2 W⟩) (by omega))
 intro h
 have a:i=hs.length:=by simp at h;omega
 refine Bn<|Al<|Al<|Bc<|Cs O ?_
 refine ⟨rfl,f,fun x hx=> ?_⟩
 obtain ⟨j,m,rfl⟩:=List.mem_iff_getElem.1 hx
 exact hd j m (by omega)
theorem NJ (A:Nat) (K:List Value) (u:Value) (hs:List Hd) (lo base B:Nat) (w:World) (hA:AN w A BE K) (hu:K[7]? =some u) (ho:w.ownsRow lo 197 3 u hs.length (AO hs)) (Q:KOk hs) (hf:FA w base 79 5 (Mb) hs)
  (hb1:¬AW hs A) (x:∀b,u.ownBlock=some b→¬AW hs b) (hb3:u.ownBlock≠some A) (hbase:base≤w.heap.size) (hB:B≤w.heap.size) (hSB:∀b,AW hs b→b<B) (huB:∀b,u.ownBlock=some b→b<B):
  AJ prog 92 [.pointer (some ⟨A,0,none⟩)] w (fun r w' =>r= .tuple #[]∧BJ (fun b=>AW hs b∨u.ownBlock=some b) w w' ∧∃f,DH w hs f∧w'.ownsRow lo 197 3 u hs.length (AO f)∧∀t ∈ f,EM w' 5 (Mb) t):=by
 have hle:=(AG ho).le
 have st:=(CV B 3)
 refine Bd (n:=42) func92 O<|Ah<|Ab O<|Aj<|Ar ?_
 refine Bo (S:=(Nat×List Hd)) (fun s=>[(0, .pointer (some ⟨A,0,none⟩)),(2, .int .i64 (s.1:Int))]) (fun s w' =>s.1≤hs.length∧DH w hs s.2∧(∀t ∈ s.2,t.g.oneCell' =true)∧BJ (fun b=>AW hs b∨u.ownBlock=some b) w w' ∧w'.ownsRow lo 197 3 u hs.length (AO s.2)∧(∀j (v:j<s.2.length),j<s.1→EM w' 5 (Mb) s.2[j])∧(∀j (v:j<hs.length),s.1≤j→∃cs,HP (Mb) 5 hs[j].n w' hs[j].k cs∧AT w' base 79 5 hs[j].v hs[j].k cs.flatten)) (fun s=>hs.length - s.1) ((0,hs)) ⟨rfl,rfl,trivial⟩ ?_ ?_
 ·exact ⟨by simp,Eh w Q.new,fun t ht=>(by rw [Q.new t ht];rfl),BJ.refl _ _,ho,fun j v h=>by simp at h,fun j v _=>hf _ (getElem_mem v)⟩
 rintro ⟨i,f⟩ w1 ⟨hi,X,h1,Y,o1,hd,ht⟩
 dsimp only at hi X h1 Y o1 hd ht ⊢
 have b1:=hA.chg Y (fun e=>e.elim hb1 hb3)
 have s1:=AG o1
 have hlen:=X.len
 refine Aq<|Ah<|Ad O<|Ad O<|Aa (Bb O) O<|A0 underlying55 O (HJ _)<|Aa (Ak (Jn _) O b1 hu) O<|Aa (Au (sz:=3) Ie O s1) O<|B1 O<|Aj<|Ao O ?_ ?_
 ·intro h
  have d:i<hs.length:=by simp at h;omega
  have z:i<f.length:=by omega
  obtain ⟨ev,ek,en,eg⟩:=X.all i d z
  have I:=getElem_mem d
  have hmt:=getElem_mem z
  have hfew:=Q.few _ I
  have hnum:=Q.num _ I
  have hone:=h1 _ hmt
  have hvb:∀b,hs[i].v.ownBlock=some b→b<w.heap.size:=fun b e=>(hf.blk ⟨_,I,e⟩).2
  have hvB:∀b,hs[i].v.ownBlock=some b→b<B:=fun b e=>hSB b ⟨_,I,e⟩
  obtain ⟨Z,m0,W⟩:=ht i d (AX _)
  have hvo:=W.sl.one'
  refine B2<|Aq<|Ar<|Ah<|Ad O<|Aa (Bb O) O<|A0 underlying55 O (HJ _)<|Aa (Ak (Jn _) O b1 hu) O<|Ad O<|Aa (Cu Ie O O s1 i O d) O<|Aa (C6 (cs:=f[i].cells) (Oi _) (Nb _) O s1 O (by decide) (BH z)) O<|Cv (cs:=f[i].cells) Ke O O O O (fun _=>rfl) (by simp [Hd.cells,ev,hvo,hone,DJ]) ?_
  rintro V w2 eA_h C G zhn2
  have hc2:=Y.below G
  have z1:=Y.size
  have z2:=hc2.size
  have W:=W.bs G
  have m0:=m0.bs st G
  refine Bg<|A0 underlying197 O (BY _)<|Aa (Ak (CS _) O ‹_› rfl) O ?_
  refine Ab O<|Bj<|Ab O<|Aj<|Ar<|Ee 4 (v' :=hs[i].v) O (ev) ?_
  refine Bo (S:=(Nat×Value×List (List Value))) (fun s=>[(0, .pointer (some ⟨A,0,none⟩)),(2, .int .i64 (i:Int)),(3, .pointer (some ⟨V,0,none⟩)),(4,s.2.1),(5, .int .i64 (s.1:Int))]) (fun s w' =>s.1≤40∧AN w' V 197 f[i].cells∧BJ (fun b=>hs[i].v.ownBlock=some b) w2 w' ∧HP (Mb) 5 hs[i].n w' (hs[i].k+s.1) s.2.2∧AT w' base 79 5 s.2.1 (hs[i].k+s.1) s.2.2.flatten∧(∀b,s.2.1.ownBlock=some b→hs[i].v.ownBlock=some b∨w2.heap.size≤b)∧s.2.2.take hs[i].k=Z∧Sl w' 5 hs[i].v hs[i].k Z.flatten) (fun s=>40 - s.1) ((0,hs[i].v,Z)) ⟨rfl,rfl,rfl,rfl,rfl,trivial⟩ ?_ ?_
  ·exact ⟨by simp,C,BJ.refl _ _,m0,W,fun b e=> .inl e,take_of_length_le (by rw [m0.els.1];exact AX _),W.sl⟩
  clear C
  rintro ⟨k,g,cs⟩ w3 ⟨hk3,C,N,m3,r3,q,U,l3⟩
  dsimp only at hk3 C m3 r3 q U l3 ⊢
  have z3:=N.size
  refine Aq<|Ah<|Ad O<|B1 O<|Aj<|Ao O ?_ ?_
  ·intro h
   have M:k<40:=by simp at h;omega
   refine B2<|Aq<|Ar<|Bh<|Ad O<|A0 underlying197 O (AV _)<|Aa (Ak (AI _) O ‹_› rfl) O ?_
   refine Cm 30 (v' := .int .i64 hs[i].n) O (cngA (Value.int .i64) en)<|An O O (JT B hs[i].n w3 hnum (by omega)) ?_
   rintro _ J ⟨⟨c,rfl,hφ⟩,hn4⟩
   have lc:=Lk hφ
   refine Bq (Er (cs:=c) BA EA O lc.1 (by decide) (by decide)) O ?_
   rintro nv w5 ⟨o5, -,hn5, -⟩
   have o:=bt hn4 hn5
   have z5:=o.size
   have r5:=r3.bs o
   have m5:=(m3.bs st o).snoc lc.1 (st.bs hφ hn5)
   have hgt:∀b,g.ownBlock=some b→b<B∨∃T cs,AN w5 b T cs∧T≠3:=fun b e=>by
    rcases q b e with a|a
    ·exact .inl (hvB b a)
    ·obtain ⟨cur,hcur⟩:=r5.ty e
     exact .inr ⟨_,cur,hcur,by decide⟩
   refine Bq (Ef (base:=base) BA EA O (by decide) O O r5 (AG o5) lc.2 (by omega) (by omega) (by omega) (AX _)) O ?_
   rintro g' w6 ⟨r6,F,D⟩
   have l5:=l3.bs o
   have b5:=C.bs o
   have e6:cs.flatten++c=(cs++[c]).flatten:=by simp
   rw [e6] at r6
   have m6:=m5.by st F hgt
   have hgA:some V≠g.ownBlock:=fun e=>by
    rcases q _ e.symm with a|a
    ·have:=hvb _ a;omega
    ·omega
   have L:(cs++[c]).take hs[i].k=Z:=by rw [take_append_of_le_length (by rw [m3.els.1];omega)];exact U
   have l6:Sl w6 5 hs[i].v hs[i].k Z.flatten:=Ji W (.inl r6) F D l5 (by
    rw [E5 (k:=hs[i].k) (m:=k+1) m5.els,L])
   have hgb' :∀b,g'.ownBlock=some b→hs[i].v.ownBlock=some b∨w2.heap.size≤b:=fun b e=>by
    rcases D with a|⟨a, -⟩
    ·rw [a] at e;exact q b e
    ·exact .inr (by have:=a b e;omega)
   refine Ab O<|Be<|Bi<|Cd<|Ad O<|B9 O (by omega)<|Ab O<|Be ?_
   exact Av (Bw ((k+1,g',cs++[c])) ⟨rfl,rfl,rfl,rfl,rfl,trivial⟩ (⟨M,b5.by F hgA,(N.below o).grown F q,m6, .inl r6,hgb',L,l6⟩) (by simp only;omega))
  intro h
  have M:k=40:=by simp at h;omega
  subst M
  have hall:BJ (fun b=>hs[i].v.ownBlock=some b) w1 w3:=(BJ.of_below G).trans N
  have hcS:BJ (fun b=>AW hs b∨u.ownBlock=some b) w w3:=Y.trans (hall.mono fun b e=> .inl ⟨_,I,e⟩)
  have b3:=hA.chg hcS (fun e=>e.elim hb1 hb3)
  have o3:=AL o1 hall (fun b y l=>x b y ⟨_,I,l⟩)
  refine Bn<|Al<|Al<|Bc<|Cd<|Ad O<|Aa (Bb O) O<|A0 underlying55 O (HJ _)<|Aa (Ak (Jn _) O b3 hu) O<|Ad O<|Ad O<|Aa (Cu Ie O O (AG o3) i O d) O<|Aa (Dj underlying197 O (BY _) O (Ht o3 (by omega))) O<|Br (E1 (j:=i*3+1) (BY _) O O r3.sl.one' o3 (by rw [EU];omega)) ?_
  rintro J ⟨o4,E, -⟩
  have e4:=ET z g
  have o4:J.ownsRow lo 197 3 u hs.length (AO (f.set i {f[i] with g:=g})):=by rw [← e4];exact o4
  have hG4:=X.set d z (g:=g) (fun b e=>by
   rcases q b e with a|a
   ·exact .inl a
   ·exact .inr (by omega))
  have p:BJ (fun b=>hs[i].v.ownBlock=some b∨u.ownBlock=some b) w1 J:=(hall.mono fun b e=> .inl e).grown E (fun b e=> .inl (.inr e))
  have H:∀b,(hs[i].v.ownBlock=some b∨u.ownBlock=some b)→b<B:=fun b e=>e.elim (hvB b) (huB b)
  have hS4:BJ (fun b=>AW hs b∨u.ownBlock=some b) w J:=hcS.grown E (fun b e=> .inl (.inr e))
  have huT:∀b,u.ownBlock=some b→b<B∨∃T cs,AN w3 b T cs∧T≠3:=fun b e=> .inl (huB b e)
  have m4:=m3.by st E huT
  have t4:EM J 5 (Mb) {f[i] with g:=g}:=by
   refine ⟨⟨Z, ?_, ?_⟩,⟨cs, ?_, ?_⟩⟩
   ·simp only;rw [ek,en,← U];exact m4.take
   ·simp only;rw [ev,ek]
    refine l3.by E ?_
    cases hv:hs[i].v.ownBlock with
    |none=>exact .inl rfl
    |some b=>exact .inr fun e=>x b e.symm ⟨_,I,hv⟩
   ·simp only;rw [ek,en];exact m4
   ·simp only;rw [ek]
    refine r3.sl.by E ?_
    cases hv:g.ownBlock with
    |none=>exact .inl rfl
    |some b=>
     refine .inr fun e=> ?_
     rcases q b hv with a|a
     ·exact x b e.symm ⟨_,I,a⟩
     ·have:=(AF ho b e.symm).2;omega
  have h14:∀t ∈ f.set i {f[i] with g:=g},t.g.oneCell' =true:=fun t R=>by
   rcases mem_or_eq_of_mem_set R with a|a
   ·exact h1 t a
   ·rw [a];exact r3.sl.one'
  have hd4:∀j (v:j<(f.set i {f[i] with g:=g}).length),j<i+1→EM J 5 (Mb) (f.set i {f[i] with g:=g})[j]:=fun j v hji=>by
    rw [getElem_set]
    split
    ·exact t4
    ·rename_i hne
     have hj' :j<f.length:=by simpa using v
     obtain ⟨fv,_,_,fg⟩:=X.all j (by omega) hj'
     refine (hd j hj' (by omega)).chg st p H (fun b y _ l=> ?_) (fun b y _ l=> ?_)
     ·rw [fv] at y
      rcases l with l|l
      ·exact BI Q.apart d (show j<hs.length by omega) hne b l y
      ·exact x b l ⟨_,getElem_mem _,y⟩
     ·rcases l with l|l
      ·rcases fg b y with a|a
       ·exact BI Q.apart d (show j<hs.length by omega) hne b l a
       ·have:=hvb b l;omega
      ·rcases fg b y with a|a
       ·exact x b l ⟨_,getElem_mem _,a⟩
       ·have:=(AF ho b l).2;omega
  have ht4:∀j (v:j<hs.length),i+1≤j→∃cs,HP (Mb) 5 hs[j].n J hs[j].k cs∧AT J base 79 5 hs[j].v hs[j].k cs.flatten:=fun j v hji=>by
   obtain ⟨ds,q1,q2⟩:=ht j v (by omega)
   refine ⟨ds,q1.chg st p H,q2.chg p fun b y l=> ?_⟩
   rcases l with l|l
   ·exact BI Q.apart d v (by omega) b l y
   ·exact x b l ⟨_,getElem_mem _,y⟩
  refine Be<|Bi<|Cd<|Ad O<|B9 O (by omega)<|Ab O<|Be ?_
  exact Av (Bw ((i+1,f.set i {f[i] with g:=g})) ⟨rfl,rfl,trivial⟩ (⟨d,hG4,h14,hS4,o4,hd4,ht4⟩) (by simp only;omega))
 intro h
 have d:i=hs.length:=by simp at h;omega
 refine Bn<|Al<|Al<|Bc<|Cs O ?_
 refine ⟨rfl,Y,f,X,o1,fun t R=> ?_⟩
 obtain ⟨j,v,rfl⟩:=List.mem_iff_getElem.1 R
 exact hd j v (by omega)
theorem Nv (A:Nat) (m:List Value) (u:Value) (d:List Hd) (lo B:Nat) (w:World) (Y:AN w A BE m) (Q:m[7]? =some u) (N:w.ownsRow lo 197 3 u d.length (AO d)) (X:∀t ∈ d,EM w 5 (Mb) t) (hn:∀t ∈ d,(0≤t.n∧t.n≤4000000)∧t.k≤16777216):
  AJ prog 107 [.pointer (some ⟨A,0,none⟩)] w (fun r w' =>r= .bool true∧Below w.heap.size w w'):=by
 have hle:=(AG N).le
 have st:=(CV B 3)
 refine Bd (n:=64) func107 O<|Ah<|Ab O<|Bj<|Ab O<|Aj<|Ar ?_
 refine Bo (S:=Nat) (fun i=>[(0, .pointer (some ⟨A,0,none⟩)),(2, .bool false),(3, .int .i64 (i:Int))]) (fun i w' =>i≤d.length∧Below w.heap.size w w') (fun i=>d.length - i) (0) ⟨rfl,rfl,rfl,trivial⟩ ?_ ?_
 ·exact ⟨by omega,Below.refl _ _⟩
 rintro i b ⟨hi,e⟩
 have K:=Y.bs e
 have I:=(AG N).bs e
 refine Aq<|Ah<|Ad O<|Ad O<|Aa (Bb O) O<|A0 underlying55 O (HJ _)<|Aa (Ak (Jn _) O K Q) O<|Aa (Au (sz:=3) Ie O I) O<|B1 O<|Aj<|Ao O ?_ ?_
 ·intro h
  have l:i<d.length:=by simp at h;omega
  have R:=getElem_mem l
  obtain ⟨o,T⟩:=hn _ R
  have Z:=(X _ R).bs st e
  obtain ⟨⟨F,v,z⟩,⟨H,s,y⟩⟩:=Z
  refine B2<|Aq<|Ar<|Ah<|Ad O<|Aa (Bb O) O<|A0 underlying55 O (HJ _)<|Aa (Ak (Jn _) O K Q) O<|Ad O<|Aa (Cu Ie O O I i O l) O<|Aa (C6 (cs:=d[i].cells) (Oi _) (Nb _) O I O (by decide) (BH l)) O<|Cv (cs:=d[i].cells) Ke O O O O (fun _=>rfl) (by simp [Hd.cells,z.one',y.one',DJ]) ?_
  rintro E U L C f M
  have D:=bt e f
  have z:=z.bs f
  have y:=y.bs f
  have v:=v.bs st f
  have s:=s.bs st f
  refine Bj<|A0 underlying197 O (BY _)<|Aa (Ak (CS _) O ‹_› rfl) O ?_
  refine Aa (Au (sz:=5) BA O y) O<|A0 underlying197 O (BY _)<|Aa (Ak (CS _) O ‹_› rfl) O ?_
  refine Aa (Au (sz:=5) BA O z) O<|B9 O (by omega)<|Aa (Cn O O) O<|Aj<|Bv O false (by simp)<|Cp<|Ab O<|Aj<|Ar ?_
  refine Bo (S:=Nat) (fun k=>[(0, .pointer (some ⟨A,0,none⟩)),(2, .bool false),(3, .int .i64 (i:Int)),(4, .pointer (some ⟨E,0,none⟩)),(5, .int .i64 (k:Int))]) (fun k w' =>k≤d[i].k+40∧Below U.heap.size U w') (fun k=>d[i].k+40 - k) (0) ⟨rfl,rfl,rfl,rfl,rfl,trivial⟩ ?_ ?_
  ·exact ⟨by omega,Below.refl _ _⟩
  rintro k w3 ⟨hk3,c⟩
  have G:=z.bs c
  have J:=y.bs c
  have b3:=C.bs c
  have W:=v.bs st c
  have m4:=s.bs st c
  refine Aq<|Ah<|Ad O<|A0 underlying197 O (BY _)<|Aa (Ak (CS _) O ‹_› rfl) O ?_
  refine Aa (Au (sz:=5) BA O J) O<|B1 O<|Aj<|Ao O ?_ ?_
  ·intro h
   have j:k<d[i].k+40:=by simp at h;omega
   have p:k<H.length:=by rw [s.els.1];exact j
   refine B2<|Aq<|Ar<|Aq<|C8 mixed (by kernel_rfl)<|Ai (fun b a=>Ck underlying197 O (BY _)) O<|Ai (fun b a=>Ak (CS _) O (AN.bs ‹_› a) O) O ?_
   refine Bt O<|Ai (fun b a=>Cu BA O O (J.bs a) k O j) O<|Ai (fun b a=>C6 (cs:=H[k]) (CY _) (CW _) O (J.bs a) (s.els.2 _ (getElem_mem p)) (by decide) (s.els.cells p)) O<|Ai (fun b a=>Ck underlying197 O (AV _)) O<|Ai (fun b a=>Ak (AI _) O (AN.bs ‹_› a) O) O ?_
   refine C3 O O (fun b a=>(Mu B d[i].n b H[k] o (st.bs (m4.each _ (getElem_mem p)) a)).q a)<|Ai (fun b a=>Co O) O<|Bt O<|Ey 46 (v' := .bool false) O (cngA Value.bool (rfl))<|Az (dj:=46) O O<|Bt O<|Az (dj:=46) O O<|Ai (fun b a=>Ck underlying197 O (BY _)) O<|Az (dj:=46) O O<|Ai (fun b a=>Ak (CS _) O (AN.bs ‹_› a) O) O ?_
   refine Az (dj:=46) O O<|Ai (fun b a=>Au (sz:=5) BA O (G.bs a)) O<|Az (dj:=46) O O<|Ai (fun b a=>Ep O O) O<|Az (dj:=46) O O<|Bt O ?_
   refine Di 52 O ?_ ?_
   ·intro g
    have x:k<d[i].k:=by simpa using g
    have q:k<F.length:=by rw [v.els.1];exact x
    refine Az (dj:=52) O O<|Ai (fun b a=>Ck underlying197 O (BY _)) O<|Az (dj:=52) O O<|Ai (fun b a=>Ak (CS _) O (AN.bs ‹_› a) O) O ?_
    refine Az (dj:=52) O O<|Bt O<|Az (dj:=52) O O<|Ai (fun b a=>Cu BA O O (G.bs a) k O x) O<|Az (dj:=52) O O<|Ai (fun b a=>C6 (cs:=F[k]) (CY _) (CW _) O (G.bs a) (v.els.2 _ (getElem_mem q)) (by decide) (v.els.cells q)) O<|Az (dj:=52) O O<|Ai (fun b a=>Ck underlying197 O (AV _)) O<|Az (dj:=52) O O<|Ai (fun b a=>Ak (AI _) O (AN.bs ‹_› a) O) O ?_
    refine Az (dj:=52) O O<|C3 O O (fun b a=>(Mu B d[i].n b F[k] o (st.bs (W.each _ (getElem_mem q)) a)).q a)<|Az (dj:=52) O O<|Ai (fun b a=>Co O) O<|Az (dj:=46) O O<|Ai (fun b a=>Cy O O) O<|Ai (fun b a=>Cx O O) O ?_
    refine C1 (fun V a=> ?_)
    refine Av<|B8<|Bv O false (rfl)<|Ca<|Bi<|Cd<|Ad O<|B9 O (by omega)<|Ab O<|Be ?_
    exact Av (Bw (k+1) ⟨rfl,rfl,rfl,rfl,rfl,trivial⟩ (⟨j,bt c a⟩) (by omega))
   ·intro g
    refine As (dj:=52) O O O O<|As (dj:=52) O O O O<|As (dj:=52) O O O O<|As (dj:=52) O O O O<|As (dj:=52) O O O O<|As (dj:=52) O O O O<|As (dj:=52) O O O O<|As (dj:=52) O O O O<|As (dj:=52) O O O O<|Az (dj:=46) O O<|Ai (fun b a=>Cx O O) O<|Ai (fun b a=>Cx O O) O ?_
    refine C1 (fun V a=> ?_)
    refine Av<|B8<|D5 O<|Ca<|Bi<|Cd<|Ad O<|B9 O (by omega)<|Ab O<|Be ?_
    exact Av (Bw (k+1) ⟨rfl,rfl,rfl,rfl,rfl,trivial⟩ (⟨j,bt c a⟩) (by omega))
  intro h
  refine Bn<|Al<|Al<|Bc<|Bi<|Cd<|Ad O<|B9 O (by omega)<|Ab O<|Be ?_
  exact Av (Bw (i+1) ⟨rfl,rfl,rfl,trivial⟩ (⟨l,bt D c⟩) (by omega))
 intro h
 exact Bn<|Al<|Al<|Bc<|Ci<|Ab rfl<|Ay<|Ax rfl rfl<|⟨rfl,e⟩

theorem KR {v:Value} (h:v.oneCell' =true) (n:Int):[v, .slice none 0 0, .int .i64 n].all (fun x=>x.oneCell')=true:=by
 rw [all_cons,h];rfl
theorem MJ (v:Value) (n:Int) (b:v.cells=[v].toArray):Tryz.prog.built 182 [(0,v),(2, .int .i64 n)]=some [v, .slice none 0 0, .int .i64 n].toArray:=by
 have a:Tryz.prog.info? 182=some Tryz.t182:=by kernel_rfl
 have c:Tryz.prog.info? 70=some Tryz.t70:=by kernel_rfl
 have d:Tryz.prog.info? 3=some Tryz.t3:=by kernel_rfl
 simp [Program.built,a,underlying182,c,d,Instr.fill,b]
 rfl
theorem Pp (A:Nat) (a:List Value) (n:Int) (u:Value) (hs:List Hd) (p:Nat) (w:World) (v:Value) (k:Nat) (xs:List Value) (H:AN w A BE a) (I:a[0]? =some (.int .i64 n)) (L:a[2]? =some u) (J:w.ownsRow p 182 3 u hs.length (AO hs))
  (hlo:p≤w.heap.size) (o:u.ownBlock≠some A) (hn:0≤n∧n≤4000000) (hh:hs.length≤4000000) (M:Sl w 1 v k xs):
  AJ prog 265 [.pointer (some ⟨A,0,none⟩),v] w (fun r w' =>r= .tuple #[]∧∃l,AN w' A BE ((a.set 0 (.int .i64 (n+1))).set 2 l)∧w'.ownsRow p 182 3 l (hs.length+1) (AO (hs++[(⟨v,k,xs,n+1, .slice none 0 0⟩:Hd)]))∧BJ (fun b=>b=A∨u.ownBlock=some b) w w' ∧∀b,l.ownBlock=some b→u.ownBlock=some b∨w.heap.size≤b):=by
 have q:0<a.length:=(List.getElem?_eq_some_iff.1 I).1
 have E:2<a.length:=(List.getElem?_eq_some_iff.1 L).1
 refine Bd (n:=26) func265 O<|Ah<|Ad O<|Aa (Bb O) O<|A0 underlying55 O (AV _)<|Aa (Ak (AI _) O H I) O<|B9 O (by omega)<|Aa (Bb O) O<|A0 underlying55 O (AV _)<|Br (C4 (u:= .int .i64 (n+1)) (AV _) O O O H q) ?_
 rintro c ⟨Q,x,X⟩
 have Z:=CL J (fun b e=>x.block b (AF J b e).2 (fun G=>o (by rw [e,G])))
 have Y:BJ (fun b=>b=A∨u.ownBlock=some b) w c:=(BJ.refl _ _).grown x (fun b e=> .inl (.inl (Option.some.inj e).symm))
 have R:(a.set 0 (.int .i64 (n+1)))[0]? =some (.int .i64 (n+1)):=by simp [q]
 have qC:(a.set 0 (.int .i64 (n+1)))[2]? =some u:=by rw [getElem?_set_ne (by decide)];exact L
 have W:=BL H
 refine Aj ?_
 refine Cw.any mixed (fun w2 B _=> ?_)
 have F:=AH Z B
 have C:=Q.bs B
 refine Fw (St:=Value) (g:=1) [0,1,2,3,4,5,6,7,8,9,10,11,12,13,14] 15 (fun s=>[(23,s),(25, .pointer (some ⟨A,2,none⟩))]) (fun s w' =>BJ (fun b=>b=A∨u.ownBlock=some b) w w' ∧w'.ownsRow p 182 3 s (hs.length+1) (AO (hs++[(⟨v,k,xs,n+1, .slice none 0 0⟩:Hd)]))∧AN w' A BE (a.set 0 (.int .i64 (n+1)))∧∀b,s.ownBlock=some b→u.ownBlock=some b∨w.heap.size≤b) (by kernel_rfl) O ?_ ?_
 ·refine Df (fun w' =>AN w' A BE (a.set 0 (.int .i64 (n+1)))) (fun hC=> ?_) (C)
  refine Cr (B5 C9)<|Am 0 O (fun c d=>Cb O) O<|Am 1 O (fun c d=>Cb O) O<|Am 2 O (fun c d=>Bb O) O<|Am 3 O (fun c d=>Ck underlying55 O (HK _)) O<|Am 4 O (fun c d=>Ak (Jo _) O d qC) O<|Am 5 O (fun c d=>Cb O) O<|Am 6 O (fun c d=>Cb O) O<|Am 7 O (fun c d=>Bb O) O<|Am 8 O (fun c d=>Ck underlying55 O (AV _)) O<|Am 9 O (fun c d=>Ak (AI _) O d R) O<|Am 10 O (fun c d=>Cc (vs:=[(0,v),(2, .int .i64 (n+1))]) (cs:=[v, .slice none 0 0, .int .i64 (n+1)]) O (MJ _ _ M.one)) O<|Cf<|BV.only ‹_› (i:=11) (by kernel_rfl) O ?_
  refine Bq (Gc (vs:=[(0, .agg #[v, .slice none 0 0, .int .i64 (n+1)])]) (cs:=[v, .slice none 0 0, .int .i64 (n+1)]) Ig Kf O (by decide) (by decide) (by decide) (by kernel_rfl) O) O ?_
  rintro nv U ⟨o3, -,j, -⟩
  have F:=AH F j
  have C:=C.bs j
  have z3:=(bt B j).size
  have y:p≤U.heap.size:=by omega
  refine BV.back<|BV.only ‹_› (i:=12) (by kernel_rfl) O ?_
  refine Bq (E6 (base:=p) Ig Kf O (by decide) O O F (AG o3) (KR M.one' _) (by omega) (by omega) y) O ?_
  rintro l N ⟨o4,t,m⟩
  have c4:BJ (fun b=>b=A∨u.ownBlock=some b) w N:=(Y.below (bt B j)).grown t (fun b e=> .inl (.inr e))
  have b4:=C.by t (fun e=>o e.symm)
  have f:∀b,l.ownBlock=some b→u.ownBlock=some b∨w.heap.size≤b:=fun b e=>by
   rcases m with h|⟨h,_⟩
   ·rw [h] at e;exact .inl e
   ·exact .inr (by have:=h b e;omega)
  refine BV.back<|Cr (B5 C9)<|Am 13 O (fun c d=>Bb O) O<|Am 14 O (fun c d=>Ck underlying55 O (HK _)) O<|Cf<|BV.done ‹_› (by kernel_rfl) ?_
  exact Av (Fu (l) ⟨rfl,rfl,trivial⟩ (⟨c4,by rw [HV];exact o4,b4,f⟩))
 rintro l w5 ⟨K,D,S,f⟩
 have z5:=K.size
 refine Aw.only (i:=15) (by kernel_rfl) O<|Br (C4 (u:=l) (HK _) O O (AG D).one' S (by rw [length_set];exact E)) ?_
 rintro w6 ⟨V,z, -⟩
 have T:=CL D (fun b e=>z.block b (AF D b e).2 (fun G=>by
  cases G
  rcases f _ e with h|h
  ·exact o h
  ·omega))
 refine Aw.back<|Aw.done (by kernel_rfl)<|Cs O ?_
 exact ⟨rfl,l,V,T,K.grown z (fun b e=> .inl (.inl (Option.some.inj e).symm)),f⟩
theorem L7 (v:Value) (n:Int) (b:v.cells=[v].toArray):Tryz.prog.built 197 [(0,v),(2, .int .i64 n)]=some [v, .slice none 0 0, .int .i64 n].toArray:=by
 have a:Tryz.prog.info? 197=some Tryz.t197:=by kernel_rfl
 have c:Tryz.prog.info? 22=some Tryz.t22:=by kernel_rfl
 have d:Tryz.prog.info? 3=some Tryz.t3:=by kernel_rfl
 simp [Program.built,a,underlying197,c,d,Instr.fill,b]
 rfl
theorem N4 (A:Nat) (a:List Value) (n:Int) (u:Value) (hs:List Hd) (p:Nat) (w:World) (v:Value) (k:Nat) (xs:List Value) (H:AN w A BE a) (I:a[0]? =some (.int .i64 n)) (L:a[7]? =some u) (J:w.ownsRow p 197 3 u hs.length (AO hs))
  (hlo:p≤w.heap.size) (o:u.ownBlock≠some A) (hn:0≤n∧n≤4000000) (hh:hs.length≤4000000) (M:Sl w 5 v k xs):
  AJ prog 215 [.pointer (some ⟨A,0,none⟩),v] w (fun r w' =>r= .tuple #[]∧∃l,AN w' A BE ((a.set 0 (.int .i64 (n+1))).set 7 l)∧w'.ownsRow p 197 3 l (hs.length+1) (AO (hs++[(⟨v,k,xs,n+1, .slice none 0 0⟩:Hd)]))∧BJ (fun b=>b=A∨u.ownBlock=some b) w w' ∧∀b,l.ownBlock=some b→u.ownBlock=some b∨w.heap.size≤b):=by
 have q:0<a.length:=(List.getElem?_eq_some_iff.1 I).1
 have E:7<a.length:=(List.getElem?_eq_some_iff.1 L).1
 refine Bd (n:=26) func215 O<|Ah<|Ad O<|Aa (Bb O) O<|A0 underlying55 O (AV _)<|Aa (Ak (AI _) O H I) O<|B9 O (by omega)<|Aa (Bb O) O<|A0 underlying55 O (AV _)<|Br (C4 (u:= .int .i64 (n+1)) (AV _) O O O H q) ?_
 rintro c ⟨Q,x,X⟩
 have Z:=CL J (fun b e=>x.block b (AF J b e).2 (fun G=>o (by rw [e,G])))
 have Y:BJ (fun b=>b=A∨u.ownBlock=some b) w c:=(BJ.refl _ _).grown x (fun b e=> .inl (.inl (Option.some.inj e).symm))
 have R:(a.set 0 (.int .i64 (n+1)))[0]? =some (.int .i64 (n+1)):=by simp [q]
 have qC:(a.set 0 (.int .i64 (n+1)))[7]? =some u:=by rw [getElem?_set_ne (by decide)];exact L
 have W:=BL H
 refine Aj ?_
 refine Cw.any mixed (fun w2 B _=> ?_)
 have F:=AH Z B
 have C:=Q.bs B
 refine Fw (St:=Value) (g:=1) [0,1,2,3,4,5,6,7,8,9,10,11,12,13,14] 15 (fun s=>[(23,s),(25, .pointer (some ⟨A,7,none⟩))]) (fun s w' =>BJ (fun b=>b=A∨u.ownBlock=some b) w w' ∧w'.ownsRow p 197 3 s (hs.length+1) (AO (hs++[(⟨v,k,xs,n+1, .slice none 0 0⟩:Hd)]))∧AN w' A BE (a.set 0 (.int .i64 (n+1)))∧∀b,s.ownBlock=some b→u.ownBlock=some b∨w.heap.size≤b) (by kernel_rfl) O ?_ ?_
 ·refine Df (fun w' =>AN w' A BE (a.set 0 (.int .i64 (n+1)))) (fun hC=> ?_) (C)
  refine Cr (B5 C9)<|Am 0 O (fun c d=>Cb O) O<|Am 1 O (fun c d=>Cb O) O<|Am 2 O (fun c d=>Bb O) O<|Am 3 O (fun c d=>Ck underlying55 O (HJ _)) O<|Am 4 O (fun c d=>Ak (Jn _) O d qC) O<|Am 5 O (fun c d=>Cb O) O<|Am 6 O (fun c d=>Cb O) O<|Am 7 O (fun c d=>Bb O) O<|Am 8 O (fun c d=>Ck underlying55 O (AV _)) O<|Am 9 O (fun c d=>Ak (AI _) O d R) O<|Am 10 O (fun c d=>Cc (vs:=[(0,v),(2, .int .i64 (n+1))]) (cs:=[v, .slice none 0 0, .int .i64 (n+1)]) O (L7 _ _ M.one)) O<|Cf<|BV.only ‹_› (i:=11) (by kernel_rfl) O ?_
  refine Bq (Gc (vs:=[(0, .agg #[v, .slice none 0 0, .int .i64 (n+1)])]) (cs:=[v, .slice none 0 0, .int .i64 (n+1)]) Ie Ke O (by decide) (by decide) (by decide) (by kernel_rfl) O) O ?_
  rintro nv U ⟨o3, -,j, -⟩
  have F:=AH F j
  have C:=C.bs j
  have z3:=(bt B j).size
  have y:p≤U.heap.size:=by omega
  refine BV.back<|BV.only ‹_› (i:=12) (by kernel_rfl) O ?_
  refine Bq (E6 (base:=p) Ie Ke O (by decide) O O F (AG o3) (KR M.one' _) (by omega) (by omega) y) O ?_
  rintro l N ⟨o4,t,m⟩
  have c4:BJ (fun b=>b=A∨u.ownBlock=some b) w N:=(Y.below (bt B j)).grown t (fun b e=> .inl (.inr e))
  have b4:=C.by t (fun e=>o e.symm)
  have f:∀b,l.ownBlock=some b→u.ownBlock=some b∨w.heap.size≤b:=fun b e=>by
   rcases m with h|⟨h,_⟩
   ·rw [h] at e;exact .inl e
   ·exact .inr (by have:=h b e;omega)
  refine BV.back<|Cr (B5 C9)<|Am 13 O (fun c d=>Bb O) O<|Am 14 O (fun c d=>Ck underlying55 O (HJ _)) O<|Cf<|BV.done ‹_› (by kernel_rfl) ?_
  exact Av (Fu (l) ⟨rfl,rfl,trivial⟩ (⟨c4,by rw [HV];exact o4,b4,f⟩))
 rintro l w5 ⟨K,D,S,f⟩
 have z5:=K.size
 refine Aw.only (i:=15) (by kernel_rfl) O<|Br (C4 (u:=l) (HJ _) O O (AG D).one' S (by rw [length_set];exact E)) ?_
 rintro w6 ⟨V,z, -⟩
 have T:=CL D (fun b e=>z.block b (AF D b e).2 (fun G=>by
  cases G
  rcases f _ e with h|h
  ·exact o h
  ·omega))
 refine Aw.back<|Aw.done (by kernel_rfl)<|Cs O ?_
 exact ⟨rfl,l,V,T,K.grown z (fun b e=> .inl (.inl (Option.some.inj e).symm)),f⟩

abbrev CP (v:Value) (k:Nat) (xs:List Value) (n:Int):Hd:=⟨v,k,xs,n, .slice none 0 0⟩
theorem EZ {u d v:Value} {w:World} {j k:Nat} {e:TypeId} {xs:List Value} (h:ID u v) (g:w.ownsRow j e 3 v k xs) (i:∀b,d.ownBlock=some b→u.ownBlock=some b∨w.heap.size≤b):ID d v:=fun b f c=>by
 rcases i b f with a|a
 ·exact h b a c
 ·have:=(AF g b c).2;omega
structure Bm (w:World) (lo A:Nat) (n:Int) (hb hi hn ht hd:List Hd) (ub ui un ut ud:Value):Prop where
 box:AN w A BE [.int .i64 n,ub,ui,un, .slice none 0 0, .slice none 0 0,ut,ud, .slice none 0 0, .slice none 0 0, .slice none 0 0, .slice none 0 0, .slice none 0 0, .slice none 0 0, .slice none 0 0, .slice none 0 0]
 ob:w.ownsRow lo 179 3 ub hb.length (AO hb)
 oi:w.ownsRow lo 182 3 ui hi.length (AO hi)
 on:w.ownsRow lo 185 3 un hn.length (AO hn)
 ot:w.ownsRow lo 194 3 ut ht.length (AO ht)
 od:w.ownsRow lo 197 3 ud hd.length (AO hd)
 loA:lo≤A
 q_b:ub.ownBlock≠some A
 q_i:ui.ownBlock≠some A
 q_n:un.ownBlock≠some A
 q_t:ut.ownBlock≠some A
 q_d:ud.ownBlock≠some A
 p_bi:ID ub ui
 p_bn:ID ub un
 p_bt:ID ub ut
 p_bd:ID ub ud
 p_in:ID ui un
 p_it:ID ui ut
 p_id:ID ui ud
 p_nt:ID un ut
 p_nd:ID un ud
 p_td:ID ut ud
 many:((hb.length+hi.length+hn.length+ht.length+hd.length:Nat):Int)=n
theorem Bm.size {w:World} {a A:Nat} {n:Int} {i j k f b:List Hd} {c g un e d:Value} (h:Bm w a A n i j k f b c g un e d):a<w.heap.size:=Nat.lt_of_le_of_lt h.loA (BL h.box)
theorem Bm.bs {w w' :World} {j A:Nat} {n:Int} {i k l e a:List Hd} {b f un d c:Value} (h:Bm w j A n i k l e a b f un d c) (g:Below w.heap.size w w'):Bm w' j A n i k l e a b f un d c:=
 ⟨h.box.bs g,AH h.ob g,AH h.oi g,AH h.on g,AH h.ot g,AH h.od g,h.loA,h.q_b,h.q_i,h.q_n,h.q_t,h.q_d,h.p_bi,h.p_bn,h.p_bt,h.p_bd,h.p_in,h.p_it,h.p_id,h.p_nt,h.p_nd,h.p_td,h.many⟩
theorem Bm.low {w w' :World} {a A:Nat} {n:Int} {m p q k c:List Hd} {d l un g f u:Value} (h:Bm w a A n m p q k c d l un g f) (j:∀b,u.ownBlock=some b→a≤b) (o:BJ (fun b=>b=A∨u.ownBlock=some b) w w'):Below a w w' :=o.to_below (fun b i=>by
 rcases i with rfl|e
 ·exact h.loA
 ·exact j b e) (Nat.le_of_lt h.size)
theorem Of (w:World) (m A:Nat) (n:Int) (s i x q o:List Hd) (y l un u p v:Value) (k:Nat) (xs:List Value) (h:Bm w m A n s i x q o y l un u p) (B:Sl w 1 v k xs) (C:n≤3999999):
  AJ prog 265 [.pointer (some ⟨A,0,none⟩),v] w (fun r w' =>r= .tuple #[]∧BJ (fun b=>b=A∨l.ownBlock=some b) w w' ∧∃g,Bm w' m A (n+1) s (i++[CP v k xs (n+1)]) x q o y g un u p):=by
 have D:=h.many
 refine (Pp A _ n l i m w v k xs h.box O O h.oi (Nat.le_of_lt h.size) h.q_i (by omega) (by omega) B).mono ?_
 rintro _ w' ⟨rfl,g,j,z,d,f⟩
 exact ⟨rfl,d,g,j,AL h.ob d (fun b a c=>c.elim (fun e=>h.q_b (by rw [a,e])) (fun e=>h.p_bi b a e)),(by rw [length_append];exact z),AL h.on d (fun b a c=>c.elim (fun e=>h.q_n (by rw [a,e])) (fun e=>h.p_in b e a)),AL h.ot d (fun b a c=>c.elim (fun e=>h.q_t (by rw [a,e])) (fun e=>h.p_it b e a)),AL h.od d (fun b a c=>c.elim (fun e=>h.q_d (by rw [a,e])) (fun e=>h.p_id b e a)),h.loA,h.q_b,(fun e=>by rcases f _ e with t|t;exact h.q_i t;have:=BL h.box;omega),h.q_n,h.q_t,h.q_d,(EZ h.p_bi.symm h.ob f).symm,h.p_bn,h.p_bt,h.p_bd,EZ h.p_in h.on f,EZ h.p_it h.ot f,EZ h.p_id h.od f,h.p_nt,h.p_nd,h.p_td,by simp only [length_append,length_singleton];omega⟩
theorem Ku (w:World) (l A:Nat) (n:Int) (j m p g a:List Hd) (c i un f e v:Value) (k:Nat) (xs:List Value) (h:Bm w l A n j m p g a c i un f e) (s:Sl w 1 v k xs) (q:n≤3999999):
  AJ prog 237 [.pointer (some ⟨A,0,none⟩),v] w (fun r w' =>r= .tuple #[]∧BJ (fun b=>b=A∨i.ownBlock=some b) w w' ∧∃o,Bm w' l A (n+1) j (m++[CP v k xs (n+1)]) p g a c o un f e):=by
 refine Bd (n:=7) func237 O<|Bh<|Ad O<|Ad O<|An O O (Of w l A n j m p g a c i un f e v k xs h s q) ?_
 rintro _ w' ⟨rfl,t,o,d⟩
 exact Be<|Cs rfl<|⟨rfl,t,o,d⟩
theorem MM (w:World) (m A:Nat) (n:Int) (p t u o g:List Hd) (x y un s i v:Value) (k:Nat) (xs:List Value) (h:Bm w m A n p t u o g x y un s i) (B:Sl w 5 v k xs) (C:n≤3999999):
  AJ prog 215 [.pointer (some ⟨A,0,none⟩),v] w (fun r w' =>r= .tuple #[]∧BJ (fun b=>b=A∨i.ownBlock=some b) w w' ∧∃j,Bm w' m A (n+1) p t u o (g++[CP v k xs (n+1)]) x y un s j):=by
 have D:=h.many
 refine (N4 A _ n i g m w v k xs h.box O O h.od (Nat.le_of_lt h.size) h.q_d (by omega) (by omega) B).mono ?_
 rintro _ w' ⟨rfl,j,l,z,d,f⟩
 exact ⟨rfl,d,j,l,AL h.ob d (fun b a c=>c.elim (fun e=>h.q_b (by rw [a,e])) (fun e=>h.p_bd b a e)),AL h.oi d (fun b a c=>c.elim (fun e=>h.q_i (by rw [a,e])) (fun e=>h.p_id b a e)),AL h.on d (fun b a c=>c.elim (fun e=>h.q_n (by rw [a,e])) (fun e=>h.p_nd b a e)),AL h.ot d (fun b a c=>c.elim (fun e=>h.q_t (by rw [a,e])) (fun e=>h.p_td b a e)),(by rw [length_append];exact z),h.loA,h.q_b,h.q_i,h.q_n,h.q_t,(fun e=>by rcases f _ e with q|q;exact h.q_d q;have:=BL h.box;omega),h.p_bi,h.p_bn,h.p_bt,(EZ h.p_bd.symm h.ob f).symm,h.p_in,h.p_it,(EZ h.p_id.symm h.oi f).symm,h.p_nt,(EZ h.p_nd.symm h.on f).symm,(EZ h.p_td.symm h.ot f).symm,by simp only [length_append,length_singleton];omega⟩

theorem SJ (w:World) (l A base:Nat) (n:Int) (W hi hn g hd:List Hd) (ub ui un ut ud:Value) (h:Bm w l A n W hi hn g hd ub ui un ut ud) (kb:DU w base 5 1 W) (ki:DU w base 3 1 hi) (kn:DU w base 21 1 hn) (kt:DU w base 75 2 g) (kd:DU w base 79 5 hd)
  (lb:∀b,AW W b→b<l) (C:∀b,AW hi b→b<l) (E:∀b,AW hn b→b<l) (lt:∀b,AW g b→b<l) (D:∀b,AW hd b→b<l) (xbi:∀b,AW W b→¬AW hi b) (xbn:∀b,AW W b→¬AW hn b) (xbt:∀b,AW W b→¬AW g b) (xbd:∀b,AW W b→¬AW hd b) (xin:∀b,AW hi b→¬AW hn b) (xit:∀b,AW hi b→¬AW g b) (xid:∀b,AW hi b→¬AW hd b) (xnt:∀b,AW hn b→¬AW g b) (xnd:∀b,AW hn b→¬AW hd b) (xtd:∀b,AW g b→¬AW hd b) (hbl:base≤l):
  AJ prog 22 [.pointer (some ⟨A,0,none⟩)] w (fun r w' =>r= .bool true∧Below base w w'):=by
 have F:∀{b},b<l→b≠A:=fun j i=>by have:=h.loA;omega
 have hlo:base≤w.heap.size:=Nat.le_trans hbl (Nat.le_of_lt h.size)
 have hls:=h.size
 obtain ⟨B,hB⟩:∃B,B=w.heap.size:=⟨_,rfl⟩
 have K:∀b,ub.ownBlock=some b→l≤b∧b<w.heap.size:=AF h.ob
 have J:∀b,ui.ownBlock=some b→l≤b∧b<w.heap.size:=AF h.oi
 have M:∀b,un.ownBlock=some b→l≤b∧b<w.heap.size:=AF h.on
 have I:∀b,ut.ownBlock=some b→l≤b∧b<w.heap.size:=AF h.ot
 have H:∀b,ud.ownBlock=some b→l≤b∧b<w.heap.size:=AF h.od
 have vb:∀b,AW W b→b<B:=fun b e=>by have:=lb b e;omega
 have vi:∀b,AW hi b→b<B:=fun b e=>by have:=C b e;omega
 have vn:∀b,AW hn b→b<B:=fun b e=>by have:=E b e;omega
 have vt:∀b,AW g b→b<B:=fun b e=>by have:=lt b e;omega
 have vd:∀b,AW hd b→b<B:=fun b e=>by have:=D b e;omega
 refine Bd (n:=121) func22 O<|Ah<|Ab O<|Bg<|Ad O<|An O O (NZ A _ ub W l base w (h.box) O (h.ob) kb (fun e=>F (lb _ e) O) (fun b d f=>by have:=K b d;have:=lb b f;omega)) ?_
 rintro _ w1 ⟨rfl,R,gb1⟩
 have z1:=R.size
 have A1:=AN.chg (h.box) R (fun e=>F (lb _ e) rfl)
 have ob1:=AL (h.ob) R (fun b d f=>by have:=K b d;have:=lb b f;omega)
 have oi1:=AL (h.oi) R (fun b d f=>by have:=J b d;have:=lb b f;omega)
 have on1:=AL (h.on) R (fun b d f=>by have:=M b d;have:=lb b f;omega)
 have ot1:=AL (h.ot) R (fun b d f=>by have:=I b d;have:=lb b f;omega)
 have od1:=AL (h.od) R (fun b d f=>by have:=H b d;have:=lb b f;omega)
 have ki1:=DU.chg (ki) R (fun c j i=>xbi c i j)
 have kn1:=DU.chg (kn) R (fun c j i=>xbn c i j)
 have kt1:=DU.chg (kt) R (fun c j i=>xbt c i j)
 have kd1:=DU.chg (kd) R (fun c j i=>xbd c i j)
 refine Bg<|Ad O<|An O O (P5 A _ ui hi l base w1 (A1) O (oi1) ki1 (fun e=>F (C _ e) O) (fun b d f=>by have:=J b d;have:=C b f;omega)) ?_
 rintro _ w2 ⟨rfl,Q,gi2⟩
 have z2:=Q.size
 have A2:=AN.chg (A1) Q (fun e=>F (C _ e) rfl)
 have ob2:=AL (ob1) Q (fun b d f=>by have:=K b d;have:=C b f;omega)
 have oi2:=AL (oi1) Q (fun b d f=>by have:=J b d;have:=C b f;omega)
 have on2:=AL (on1) Q (fun b d f=>by have:=M b d;have:=C b f;omega)
 have ot2:=AL (ot1) Q (fun b d f=>by have:=I b d;have:=C b f;omega)
 have od2:=AL (od1) Q (fun b d f=>by have:=H b d;have:=C b f;omega)
 have gb2:=FW.chg gb1 Q xbi
 have kn2:=DU.chg (kn1) Q (fun c j i=>xin c i j)
 have kt2:=DU.chg (kt1) Q (fun c j i=>xit c i j)
 have kd2:=DU.chg (kd1) Q (fun c j i=>xid c i j)
 refine Bg<|Ad O<|An O O (L2 A _ un hn l base w2 (A2) O (on2) kn2 (fun e=>F (E _ e) O) (fun b d f=>by have:=M b d;have:=E b f;omega)) ?_
 rintro _ w3 ⟨rfl,T,gn3⟩
 have z3:=T.size
 have A3:=AN.chg (A2) T (fun e=>F (E _ e) rfl)
 have ob3:=AL (ob2) T (fun b d f=>by have:=K b d;have:=E b f;omega)
 have oi3:=AL (oi2) T (fun b d f=>by have:=J b d;have:=E b f;omega)
 have on3:=AL (on2) T (fun b d f=>by have:=M b d;have:=E b f;omega)
 have ot3:=AL (ot2) T (fun b d f=>by have:=I b d;have:=E b f;omega)
 have od3:=AL (od2) T (fun b d f=>by have:=H b d;have:=E b f;omega)
 have gb3:=FW.chg gb2 T xbn
 have gi3:=FW.chg gi2 T xin
 have kt3:=DU.chg (kt2) T (fun c j i=>xnt c i j)
 have kd3:=DU.chg (kd2) T (fun c j i=>xnd c i j)
 refine Bg<|Ad O<|An O O (Ro A _ w3 A3 O) ?_
 rintro _ _ ⟨rfl,rfl⟩
 refine Bg<|Ad O<|An O O (NS A _ w3 A3 O) ?_
 rintro _ _ ⟨rfl,rfl⟩
 refine Bg<|Ad O<|An O O (Lz A _ ut g l base B w3 (A3) O (ot3) kt3 (fun e=>F (lt _ e) O) (fun b d f=>by have:=I b d;have:=lt b f;omega) (by omega) vt) ?_
 rintro _ w4 ⟨rfl,U,gt4⟩
 have z4:=U.size
 have A4:=AN.chg (A3) U (fun e=>F (lt _ e) rfl)
 have ob4:=AL (ob3) U (fun b d f=>by have:=K b d;have:=lt b f;omega)
 have oi4:=AL (oi3) U (fun b d f=>by have:=J b d;have:=lt b f;omega)
 have on4:=AL (on3) U (fun b d f=>by have:=M b d;have:=lt b f;omega)
 have ot4:=AL (ot3) U (fun b d f=>by have:=I b d;have:=lt b f;omega)
 have od4:=AL (od3) U (fun b d f=>by have:=H b d;have:=lt b f;omega)
 have gb4:=FW.chg gb3 U xbt
 have gi4:=FW.chg gi3 U xit
 have gn4:=FW.chg gn3 U xnt
 have kd4:=DU.chg (kd3) U (fun c j i=>xtd c i j)
 refine Bg<|Ad O<|An O O (NU A _ ud hd l base B w4 (A4) O (od4) kd4 (fun e=>F (D _ e) O) (fun b d f=>by have:=H b d;have:=D b f;omega) (by omega) vd) ?_
 rintro _ w5 ⟨rfl,V,gd5⟩
 have z5:=V.size
 have A5:=AN.chg (A4) V (fun e=>F (D _ e) rfl)
 have ob5:=AL (ob4) V (fun b d f=>by have:=K b d;have:=D b f;omega)
 have oi5:=AL (oi4) V (fun b d f=>by have:=J b d;have:=D b f;omega)
 have on5:=AL (on4) V (fun b d f=>by have:=M b d;have:=D b f;omega)
 have ot5:=AL (ot4) V (fun b d f=>by have:=I b d;have:=D b f;omega)
 have od5:=AL (od4) V (fun b d f=>by have:=H b d;have:=D b f;omega)
 have gb5:=FW.chg gb4 V xbd
 have gi5:=FW.chg gi4 V xid
 have gn5:=FW.chg gn4 V xnd
 have gt5:=FA.chg gt4 (CR B 3) V vd xtd
 refine Bg<|Ad O<|An O O (NT A _ w5 A5 O) ?_
 rintro _ _ ⟨rfl,rfl⟩
 refine Bg<|Ad O<|An O O (NY A _ w5 A5 O) ?_
 rintro _ _ ⟨rfl,rfl⟩
 refine Bg<|Ad O<|An O O (L1 A _ w5 A5 O) ?_
 rintro _ _ ⟨rfl,rfl⟩
 refine Bg<|Ad O<|An O O (MA A _ w5 A5 O) ?_
 rintro _ _ ⟨rfl,rfl⟩
 refine Bg<|Ad O<|An O O (P6 A _ w5 A5 O) ?_
 rintro _ _ ⟨rfl,rfl⟩
 refine Bg<|Ad O<|An O O (NX A _ w5 A5 O) ?_
 rintro _ _ ⟨rfl,rfl⟩
 refine Bg<|Ad O<|An O O (NW A _ w5 A5 O) ?_
 rintro _ _ ⟨rfl,rfl⟩
 refine Bg<|Ad O<|An O O (NV A _ w5 A5 O) ?_
 rintro _ _ ⟨rfl,rfl⟩
 refine Bg<|Ad O<|An O O (NP A _ ub W l base w5 A5 O (ob5) kb.toKOk gb5 (fun e=>F (lb _ e) O) (fun b d f=>by have:=K b d;have:=lb b f;omega) h.q_b (by omega)) ?_
 rintro _ w6 ⟨rfl,c6,tb,yb,ob6,db6⟩
 have z6:=c6.size
 have j6:∀b,(AW W b∨ub.ownBlock=some b)→b<B:=fun b e=>e.elim (vb b) (fun e=>by have:=K b e;omega)
 have A6:=A5.chg c6 (fun e=>e.elim (fun e=>F (lb _ e) rfl) (fun e=>h.q_b e))
 have oi6:=AL (oi5) c6 (fun b d f=>f.elim (fun e=>by have:=J b d;have:=lb b e;omega) (fun e=>h.p_bi.symm b d e))
 have gi6:=FW.chg gi5 c6 (fun b d f=>f.elim (fun e=>(fun c j i=>xbi c i j) b d e) (fun e=>by have:=K b e;have:=C b d;omega))
 have on6:=AL (on5) c6 (fun b d f=>f.elim (fun e=>by have:=M b d;have:=lb b e;omega) (fun e=>h.p_bn.symm b d e))
 have gn6:=FW.chg gn5 c6 (fun b d f=>f.elim (fun e=>(fun c j i=>xbn c i j) b d e) (fun e=>by have:=K b e;have:=E b d;omega))
 have ot6:=AL (ot5) c6 (fun b d f=>f.elim (fun e=>by have:=I b d;have:=lb b e;omega) (fun e=>h.p_bt.symm b d e))
 have gt6:=FA.chg gt5 (CR B 3) c6 j6 (fun b d f=>f.elim (fun e=>(fun c j i=>xbt c i j) b d e) (fun e=>by have:=K b e;have:=lt b d;omega))
 have od6:=AL (od5) c6 (fun b d f=>f.elim (fun e=>by have:=H b d;have:=lb b e;omega) (fun e=>h.p_bd.symm b d e))
 have gd6:=FA.chg gd5 (CV B 3) c6 j6 (fun b d f=>f.elim (fun e=>(fun c j i=>xbd c i j) b d e) (fun e=>by have:=K b e;have:=D b d;omega))
 refine Bg<|Ad O<|An O O (P0 A _ ui hi l base w6 A6 O (oi6) ki.toKOk gi6 (fun e=>F (C _ e) O) (fun b d f=>by have:=J b d;have:=C b f;omega) h.q_i (by omega)) ?_
 rintro _ w7 ⟨rfl,c7,ti,yi,oi7,di7⟩
 have z7:=c7.size
 have j7:∀b,(AW hi b∨ui.ownBlock=some b)→b<B:=fun b e=>e.elim (vi b) (fun e=>by have:=J b e;omega)
 have A7:=A6.chg c7 (fun e=>e.elim (fun e=>F (C _ e) rfl) (fun e=>h.q_i e))
 have ob7:=AL (ob6) c7 (fun b d f=>f.elim (fun e=>by have:=K b d;have:=C b e;omega) (fun e=>h.p_bi b d e))
 have db7:=yb.tall db6 c7 (fun b d f=>f.elim (fun e=>xbi b d e) (fun e=>by have:=J b e;have:=lb b d;omega)) (fun b d f=>by have:=j7 b f;omega)
 have on7:=AL (on6) c7 (fun b d f=>f.elim (fun e=>by have:=M b d;have:=C b e;omega) (fun e=>h.p_in.symm b d e))
 have gn7:=FW.chg gn6 c7 (fun b d f=>f.elim (fun e=>(fun c j i=>xin c i j) b d e) (fun e=>by have:=J b e;have:=E b d;omega))
 have ot7:=AL (ot6) c7 (fun b d f=>f.elim (fun e=>by have:=I b d;have:=C b e;omega) (fun e=>h.p_it.symm b d e))
 have gt7:=FA.chg gt6 (CR B 3) c7 j7 (fun b d f=>f.elim (fun e=>(fun c j i=>xit c i j) b d e) (fun e=>by have:=J b e;have:=lt b d;omega))
 have od7:=AL (od6) c7 (fun b d f=>f.elim (fun e=>by have:=H b d;have:=C b e;omega) (fun e=>h.p_id.symm b d e))
 have gd7:=FA.chg gd6 (CV B 3) c7 j7 (fun b d f=>f.elim (fun e=>(fun c j i=>xid c i j) b d e) (fun e=>by have:=J b e;have:=D b d;omega))
 refine Bg<|Ad O<|An O O (Ly A _ un hn l base w7 A7 O (on7) kn.toKOk gn7 (fun e=>F (E _ e) O) (fun b d f=>by have:=M b d;have:=E b f;omega) h.q_n (by omega)) ?_
 rintro _ w8 ⟨rfl,Y,tn,yn,on8,dn8⟩
 have z8:=Y.size
 have j8:∀b,(AW hn b∨un.ownBlock=some b)→b<B:=fun b e=>e.elim (vn b) (fun e=>by have:=M b e;omega)
 have A8:=A7.chg Y (fun e=>e.elim (fun e=>F (E _ e) rfl) (fun e=>h.q_n e))
 have ob8:=AL (ob7) Y (fun b d f=>f.elim (fun e=>by have:=K b d;have:=E b e;omega) (fun e=>h.p_bn b d e))
 have db8:=yb.tall db7 Y (fun b d f=>f.elim (fun e=>xbn b d e) (fun e=>by have:=M b e;have:=lb b d;omega)) (fun b d f=>by have:=j8 b f;omega)
 have oi8:=AL (oi7) Y (fun b d f=>f.elim (fun e=>by have:=J b d;have:=E b e;omega) (fun e=>h.p_in b d e))
 have di8:=yi.tall di7 Y (fun b d f=>f.elim (fun e=>xin b d e) (fun e=>by have:=M b e;have:=C b d;omega)) (fun b d f=>by have:=j8 b f;omega)
 have ot8:=AL (ot7) Y (fun b d f=>f.elim (fun e=>by have:=I b d;have:=E b e;omega) (fun e=>h.p_nt.symm b d e))
 have gt8:=FA.chg gt7 (CR B 3) Y j8 (fun b d f=>f.elim (fun e=>(fun c j i=>xnt c i j) b d e) (fun e=>by have:=M b e;have:=lt b d;omega))
 have od8:=AL (od7) Y (fun b d f=>f.elim (fun e=>by have:=H b d;have:=E b e;omega) (fun e=>h.p_nd.symm b d e))
 have gd8:=FA.chg gd7 (CV B 3) Y j8 (fun b d f=>f.elim (fun e=>(fun c j i=>xnd c i j) b d e) (fun e=>by have:=M b e;have:=D b d;omega))
 refine Bg<|Ad O<|An O O (Rh A _ w8 A8 O) ?_
 rintro _ _ ⟨rfl,rfl⟩
 refine Bg<|Ad O<|An O O (NH A _ w8 A8 O) ?_
 rintro _ _ ⟨rfl,rfl⟩
 refine Bg<|Ad O<|An O O (Lv A _ ut g l base B w8 A8 O (ot8) kt.toKOk gt8 (fun e=>F (lt _ e) O) (fun b d f=>by have:=I b d;have:=lt b f;omega) h.q_t (by omega) (by omega) vt (fun b e=>by have:=I b e;omega)) ?_
 rintro _ w9 ⟨rfl,X,tt,yt,ot9,dt9⟩
 have z9:=X.size
 have j9:∀b,(AW g b∨ut.ownBlock=some b)→b<B:=fun b e=>e.elim (vt b) (fun e=>by have:=I b e;omega)
 have A9:=A8.chg X (fun e=>e.elim (fun e=>F (lt _ e) rfl) (fun e=>h.q_t e))
 have ob9:=AL (ob8) X (fun b d f=>f.elim (fun e=>by have:=K b d;have:=lt b e;omega) (fun e=>h.p_bt b d e))
 have db9:=yb.tall db8 X (fun b d f=>f.elim (fun e=>xbt b d e) (fun e=>by have:=I b e;have:=lb b d;omega)) (fun b d f=>by have:=j9 b f;omega)
 have oi9:=AL (oi8) X (fun b d f=>f.elim (fun e=>by have:=J b d;have:=lt b e;omega) (fun e=>h.p_it b d e))
 have di9:=yi.tall di8 X (fun b d f=>f.elim (fun e=>xit b d e) (fun e=>by have:=I b e;have:=C b d;omega)) (fun b d f=>by have:=j9 b f;omega)
 have on9:=AL (on8) X (fun b d f=>f.elim (fun e=>by have:=M b d;have:=lt b e;omega) (fun e=>h.p_nt b d e))
 have dn9:=yn.tall dn8 X (fun b d f=>f.elim (fun e=>xnt b d e) (fun e=>by have:=I b e;have:=E b d;omega)) (fun b d f=>by have:=j9 b f;omega)
 have od9:=AL (od8) X (fun b d f=>f.elim (fun e=>by have:=H b d;have:=lt b e;omega) (fun e=>h.p_td.symm b d e))
 have gd9:=FA.chg gd8 (CV B 3) X j9 (fun b d f=>f.elim (fun e=>(fun c j i=>xtd c i j) b d e) (fun e=>by have:=I b e;have:=D b d;omega))
 refine Bg<|Ad O<|An O O (NJ A _ ud hd l base B w9 A9 O (od9) kd.toKOk gd9 (fun e=>F (D _ e) O) (fun b d f=>by have:=H b d;have:=D b f;omega) h.q_d (by omega) (by omega) vd (fun b e=>by have:=H b e;omega)) ?_
 rintro _ z ⟨rfl,u,td,yd,od10,dd10⟩
 have z10:=u.size
 have Z:∀b,(AW hd b∨ud.ownBlock=some b)→b<B:=fun b e=>e.elim (vd b) (fun e=>by have:=H b e;omega)
 have y:=A9.chg u (fun e=>e.elim (fun e=>F (D _ e) rfl) (fun e=>h.q_d e))
 have ob10:=AL (ob9) u (fun b d f=>f.elim (fun e=>by have:=K b d;have:=D b e;omega) (fun e=>h.p_bd b d e))
 have db10:=yb.tall db9 u (fun b d f=>f.elim (fun e=>xbd b d e) (fun e=>by have:=H b e;have:=lb b d;omega)) (fun b d f=>by have:=Z b f;omega)
 have oi10:=AL (oi9) u (fun b d f=>f.elim (fun e=>by have:=J b d;have:=D b e;omega) (fun e=>h.p_id b d e))
 have di10:=yi.tall di9 u (fun b d f=>f.elim (fun e=>xid b d e) (fun e=>by have:=H b e;have:=C b d;omega)) (fun b d f=>by have:=Z b f;omega)
 have on10:=AL (on9) u (fun b d f=>f.elim (fun e=>by have:=M b d;have:=D b e;omega) (fun e=>h.p_nd b d e))
 have dn10:=yn.tall dn9 u (fun b d f=>f.elim (fun e=>xnd b d e) (fun e=>by have:=H b e;have:=E b d;omega)) (fun b d f=>by have:=Z b f;omega)
 have ot10:=AL (ot9) u (fun b d f=>f.elim (fun e=>by have:=I b d;have:=D b e;omega) (fun e=>h.p_td b d e))
 have dt10:=yt.tallN (CR B 3) dt9 u Z (fun b d f=>f.elim (fun e=>xtd b d e) (fun e=>by have:=H b e;have:=lt b d;omega)) (fun b d f=>by have:=Z b f;omega)
 refine Bg<|Ad O<|An O O (NI A _ z y O) ?_
 rintro _ _ ⟨rfl,rfl⟩
 refine Bg<|Ad O<|An O O (NO A _ z y O) ?_
 rintro _ _ ⟨rfl,rfl⟩
 refine Bg<|Ad O<|An O O (Lx A _ z y O) ?_
 rintro _ _ ⟨rfl,rfl⟩
 refine Bg<|Ad O<|An O O (M4 A _ z y O) ?_
 rintro _ _ ⟨rfl,rfl⟩
 refine Bg<|Ad O<|An O O (P1 A _ z y O) ?_
 rintro _ _ ⟨rfl,rfl⟩
 refine Bg<|Ad O<|An O O (NN A _ z y O) ?_
 rintro _ _ ⟨rfl,rfl⟩
 refine Bg<|Ad O<|An O O (NM A _ z y O) ?_
 rintro _ _ ⟨rfl,rfl⟩
 refine Bg<|Ad O<|An O O (NL A _ z y O) ?_
 rintro _ _ ⟨rfl,rfl⟩
 have bel:Below base w z:=by
  have d:∀{S:Nat→Prop} {a b:World},BJ S a b→(∀k,S k→base≤k)→base≤a.heap.size→Below base a b:=fun c j i=>c.to_below j i
  have q1:=d R (fun k e=>by obtain ⟨x,G,e⟩:=e;exact ((kb.own x G).lt k e).1) (by omega)
  have q2:=d Q (fun k e=>by obtain ⟨x,G,e⟩:=e;exact ((ki.own x G).lt k e).1) (by omega)
  have q3:=d T (fun k e=>by obtain ⟨x,G,e⟩:=e;exact ((kn.own x G).lt k e).1) (by omega)
  have q4:=d U (fun k e=>by obtain ⟨x,G,e⟩:=e;exact ((kt.own x G).lt k e).1) (by omega)
  have q5:=d V (fun k e=>by obtain ⟨x,G,e⟩:=e;exact ((kd.own x G).lt k e).1) (by omega)
  have q6:=d c6 (fun k e=>e.elim (fun e=>by obtain ⟨x,G,e⟩:=e;exact ((kb.own x G).lt k e).1) (fun e=>by have:=K k e;omega)) (by omega)
  have q7:=d c7 (fun k e=>e.elim (fun e=>by obtain ⟨x,G,e⟩:=e;exact ((ki.own x G).lt k e).1) (fun e=>by have:=J k e;omega)) (by omega)
  have q8:=d Y (fun k e=>e.elim (fun e=>by obtain ⟨x,G,e⟩:=e;exact ((kn.own x G).lt k e).1) (fun e=>by have:=M k e;omega)) (by omega)
  have q9:=d X (fun k e=>e.elim (fun e=>by obtain ⟨x,G,e⟩:=e;exact ((kt.own x G).lt k e).1) (fun e=>by have:=I k e;omega)) (by omega)
  have q10:=d u (fun k e=>e.elim (fun e=>by obtain ⟨x,G,e⟩:=e;exact ((kd.own x G).lt k e).1) (fun e=>by have:=H k e;omega)) (by omega)
  exact (((((((((q1.trans q2).trans q3).trans q4).trans q5).trans q6).trans q7).trans q8).trans q9).trans q10)
 refine Bg<|Ad O<|An O O (N1 A _ ub tb l z y O (by rw [yb.len];exact ob10) db10 (yb.nums kb.toKOk)) ?_
 rintro _ w11 ⟨rfl,m⟩
 have A11:=y.bs m
 have ob11:=AH (ob10) m
 have oi11:=AH (oi10) m
 have on11:=AH (on10) m
 have ot11:=AH (ot10) m
 have od11:=AH (od10) m
 have db11:∀t ∈ tb,DP w11 CE t:=fun t g=>(db10 t g).bs m
 have di11:∀t ∈ ti,DP w11 DB t:=fun t g=>(di10 t g).bs m
 have dn11:∀t ∈ tn,DP w11 BG t:=fun t g=>(dn10 t g).bs m
 have dt11:=fun t (g:t ∈ tt)=>(dt10 t g).bs (CR B 3) m
 have dd11:=fun t (g:t ∈ td)=>(dd10 t g).bs (CV B 3) m
 refine Ad O<|Cm 65 (v' := .bool true) O (cngA Value.bool (rfl))<|Af (dj:=65) O O<|Ad O<|Af (dj:=65) O O<|An O O (Ph A _ ui ti l w11 A11 O (by rw [yi.len];exact oi11) di11 (yi.nums ki.toKOk)) ?_
 rintro _ w12 ⟨rfl,s⟩
 have A12:=A11.bs s
 have ob12:=AH (ob11) s
 have oi12:=AH (oi11) s
 have on12:=AH (on11) s
 have ot12:=AH (ot11) s
 have od12:=AH (od11) s
 have db12:∀t ∈ tb,DP w12 CE t:=fun t g=>(db11 t g).bs s
 have di12:∀t ∈ ti,DP w12 DB t:=fun t g=>(di11 t g).bs s
 have dn12:∀t ∈ tn,DP w12 BG t:=fun t g=>(dn11 t g).bs s
 have dt12:=fun t (g:t ∈ tt)=>(dt11 t g).bs (CR B 3) s
 have dd12:=fun t (g:t ∈ td)=>(dd11 t g).bs (CV B 3) s
 refine Bu O<|Ad O<|Cm 69 (v' := .bool true) O (cngA Value.bool (rfl))<|Af (dj:=69) O O<|Ad O<|Af (dj:=69) O O<|An O O (Lr A _ un tn l w12 A12 O (by rw [yn.len];exact on12) dn12 (yn.nums kn.toKOk)) ?_
 rintro _ N ⟨rfl,q⟩
 have A13:=A12.bs q
 have ob13:=AH (ob12) q
 have oi13:=AH (oi12) q
 have on13:=AH (on12) q
 have ot13:=AH (ot12) q
 have od13:=AH (od12) q
 have db13:∀t ∈ tb,DP N CE t:=fun t g=>(db12 t g).bs q
 have di13:∀t ∈ ti,DP N DB t:=fun t g=>(di12 t g).bs q
 have dn13:∀t ∈ tn,DP N BG t:=fun t g=>(dn12 t g).bs q
 have dt13:=fun t (g:t ∈ tt)=>(dt12 t g).bs (CR B 3) q
 have dd13:=fun t (g:t ∈ td)=>(dd12 t g).bs (CV B 3) q
 refine Bu O<|Ad O<|Cm 73 (v' := .bool true) O (cngA Value.bool (rfl))<|Af (dj:=73) O O<|Ad O<|Af (dj:=73) O O<|An O O (QO A _ N A13 O) ?_
 rintro _ _ ⟨rfl,rfl⟩
 refine Bu O<|Ad O<|Cm 77 (v' := .bool true) O (cngA Value.bool (rfl))<|Af (dj:=77) O O<|Ad O<|Af (dj:=77) O O<|An O O (Nt A _ N A13 O) ?_
 rintro _ _ ⟨rfl,rfl⟩
 refine Bu O<|Ad O<|Cm 81 (v' := .bool true) O (cngA Value.bool (rfl))<|Af (dj:=81) O O<|Ad O<|Af (dj:=81) O O<|An O O (Lp A _ ut tt l B N A13 O (by rw [yt.len];exact ot13) dt13 (yt.nums kt.toKOk)) ?_
 rintro _ w14 ⟨rfl,p⟩
 have A14:=A13.bs p
 have ob14:=AH (ob13) p
 have oi14:=AH (oi13) p
 have on14:=AH (on13) p
 have ot14:=AH (ot13) p
 have od14:=AH (od13) p
 have db14:∀t ∈ tb,DP w14 CE t:=fun t g=>(db13 t g).bs p
 have di14:∀t ∈ ti,DP w14 DB t:=fun t g=>(di13 t g).bs p
 have dn14:∀t ∈ tn,DP w14 BG t:=fun t g=>(dn13 t g).bs p
 have dt14:=fun t (g:t ∈ tt)=>(dt13 t g).bs (CR B 3) p
 have dd14:=fun t (g:t ∈ td)=>(dd13 t g).bs (CV B 3) p
 refine Bu O<|Ad O<|Cm 85 (v' := .bool true) O (cngA Value.bool (rfl))<|Af (dj:=85) O O<|Ad O<|Af (dj:=85) O O<|An O O (Nv A _ ud td l B w14 A14 O (by rw [yd.len];exact od14) dd14 (yd.nums kd.toKOk)) ?_
 rintro _ v ⟨rfl,o⟩
 have L:=A14.bs o
 have ob15:=AH (ob14) o
 have oi15:=AH (oi14) o
 have on15:=AH (on14) o
 have ot15:=AH (ot14) o
 have od15:=AH (od14) o
 have db15:∀t ∈ tb,DP v CE t:=fun t g=>(db14 t g).bs o
 have di15:∀t ∈ ti,DP v DB t:=fun t g=>(di14 t g).bs o
 have dn15:∀t ∈ tn,DP v BG t:=fun t g=>(dn14 t g).bs o
 have dt15:=fun t (g:t ∈ tt)=>(dt14 t g).bs (CR B 3) o
 have dd15:=fun t (g:t ∈ td)=>(dd14 t g).bs (CV B 3) o
 refine Bu O<|Ad O<|Cm 89 (v' := .bool true) O (cngA Value.bool (rfl))<|Af (dj:=89) O O<|Ad O<|Af (dj:=89) O O<|An O O (Nu A _ v L O) ?_
 rintro _ _ ⟨rfl,rfl⟩
 refine Bu O<|Ad O<|Cm 93 (v' := .bool true) O (cngA Value.bool (rfl))<|Af (dj:=93) O O<|Ad O<|Af (dj:=93) O O<|An O O (Nz A _ v L O) ?_
 rintro _ _ ⟨rfl,rfl⟩
 refine Bu O<|Ad O<|Cm 97 (v' := .bool true) O (cngA Value.bool (rfl))<|Af (dj:=97) O O<|Ad O<|Af (dj:=97) O O<|An O O (Lq A _ v L O) ?_
 rintro _ _ ⟨rfl,rfl⟩
 refine Bu O<|Ad O<|Cm 101 (v' := .bool true) O (cngA Value.bool (rfl))<|Af (dj:=101) O O<|Ad O<|Af (dj:=101) O O<|An O O (Mm A _ v L O) ?_
 rintro _ _ ⟨rfl,rfl⟩
 refine Bu O<|Ad O<|Cm 105 (v' := .bool true) O (cngA Value.bool (rfl))<|Af (dj:=105) O O<|Ad O<|Af (dj:=105) O O<|An O O (Pi A _ v L O) ?_
 rintro _ _ ⟨rfl,rfl⟩
 refine Bu O<|Ad O<|Cm 109 (v' := .bool true) O (cngA Value.bool (rfl))<|Af (dj:=109) O O<|Ad O<|Af (dj:=109) O O<|An O O (Ny A _ v L O) ?_
 rintro _ _ ⟨rfl,rfl⟩
 refine Bu O<|Ad O<|Cm 113 (v' := .bool true) O (cngA Value.bool (rfl))<|Af (dj:=113) O O<|Ad O<|Af (dj:=113) O O<|An O O (Nx A _ v L O) ?_
 rintro _ _ ⟨rfl,rfl⟩
 refine Bu O<|Ad O<|Cm 117 (v' := .bool true) O (cngA Value.bool (rfl))<|Af (dj:=117) O O<|Ad O<|Af (dj:=117) O O<|An O O (Nw A _ v L O) ?_
 rintro _ _ ⟨rfl,rfl⟩
 refine Bu O<|Ab O<|Ay<|Ax O O ?_
 have bel2:=bt m (bt s (bt q (bt p (o))))
 exact ⟨rfl,bel.trans (bel2.mono (by omega))⟩

theorem Oe (w:World) (i A:Nat) (n:Int) (q F t p l:List Hd) (u J un s o a x y c d:Value) (k m:Nat) (xs v:List Value) (h:Bm w i A n q F t p l u J un s o) (S:Sl w 1 x k xs) (Q:Sl w 1 y m v) (C:∀b,y.ownBlock=some b→b<i) (V:n≤3999990):
  AJ prog 214 [.pointer (some ⟨A,0,none⟩), .agg #[a,x,y,c,d]] w (fun r w' =>r= .tuple #[]∧Below i w w' ∧∃g,Bm w' i A (n+2) q (F++[CP x k xs (n+1),CP y m v (n+2)]) t p l u g un s o):=by
 refine Bd (n:=12) func214 O<|Ah<|Bq (Xw.box (cs:=[a,x,y,c,d]) O O) O ?_
 rintro _ K ⟨rfl,b,f,L⟩
 have D:=h.bs f
 have hs:=h.size
 have T:=BL h.box
 have E:=AF h.oi
 refine Bg<|Ad O<|A0 underlying79 O (AU _)<|Aa (Ak (AK _) O ‹_› rfl) O ?_
 refine An O O (Ku K i A n q F t p l u J un s o x k xs D (S.bs f) (by omega)) ?_
 rintro _ I ⟨rfl,G,g,z⟩
 have l2:=D.low (fun b e=>(AF D.oi b e).1) G
 have B:Sl I 1 y m v:=(Q.bs f).keep fun b _ e=>l2.block b (C b e)
 have W:=b.chg G (fun e=>by
  rcases e with e|e
  ·omega
  ·have:=(E _ e).2;omega)
 refine Aj<|Bh<|Ad O<|A0 underlying79 O (AU _)<|Aa (Ak (AK _) O ‹_› rfl) O ?_
 refine An O O (Ku I i A (n+1) q _ t p l u g un s o y m v z B (by omega)) ?_
 rintro _ U ⟨rfl,R,j,H⟩
 have N:=z.low (fun b e=>(AF z.oi b e).1) R
 have M:n+1+1=n+2:=by omega
 rw [M,append_assoc] at H
 exact Be<|Cs rfl<|⟨rfl,((f.mono (Nat.le_of_lt hs)).trans l2).trans N,j,H⟩
end Go.Proofs.YtblbopcaflaldaaGreatDoor

namespace Go.Proofs.YtblbopcaflaldaaGreatDoor
open Go Go.Dd Go.RowKit List
set_option maxRecDepth 100000
def Vl (n:Int):List T4→List Hd
 |[]=>[]
 |t::ts=>CP t.x t.s.length (t.s.map (Value.int .i64)) (n+1)::Vl (n+2) ts
def Vk (n:Int):List T4→List Hd
 |[]=>[]
 |t::ts=>CP t.y t.l.length (t.l.map i32) (n+2)::Vk (n+2) ts
def T4.low (lo:Nat) (t:T4):Prop:=(∀b,t.x.ownBlock=some b→b<lo)∧∀b,t.y.ownBlock=some b→b<lo
theorem IG {w w' :World} {a sz n:Nat} {v:Value} {xs:List Value} (h:Sl w sz v n xs) (c:∀b,v.ownBlock=some b→b<a) (g:Below a w w'):Sl w' sz v n xs:=h.keep fun b _ e=>g.block b (c b e)
def Tc (w:World) (v:Value) (ts:List T4):Prop:=Sl w 2 v ts.length (cellsOf ts)∧∀t ∈ ts,t.at w
theorem PX {w w' :World} {c:Nat} {v:Value} {a:List T4} (h:Tc w v a) (e:∀b,v.ownBlock=some b→b<c) (d:∀t ∈ a,t.low c) (g:Below c w w'):Tc w' v a:=
 ⟨IG h.1 e g,fun t m=>⟨IG (h.2 t m).1 (d t m).1 g,IG (h.2 t m).2 (d t m).2 g⟩⟩
end Go.Proofs.YtblbopcaflaldaaGreatDoor

namespace Go.Proofs.YtblbopcaflaldaaGreatDoor
open Go Go.Dd Go.RowKit
open List hiding all
set_option maxRecDepth 100000
theorem Sv {w:World} {base sz n b:Nat} {e:TypeId} {v:Value} {xs:List Value} (h:w.ownsRow base e sz v n xs) (a:v.ownBlock=some b):∃cs,AN w b e cs:=AT.ty (.inl h) a
theorem Pb {w w' :World} {base a:Nat} {e T:TypeId} {sz c n m:Nat} {v q:Value} {xs i:List Value} (h:w.ownsRow base e sz v n xs) (f:AT w a T c q m i) (b:e≠T) (g:w.grownBy w' q.ownBlock):w'.ownsRow base e sz v n xs:=by
 cases hq:q.ownBlock with
 |none=>rw [hq] at g;exact AH h (G8 g (AX _) fun _ e=>by cases e)
 |some A=>
  rw [hq] at g
  obtain ⟨cs,j⟩:=f.ty hq
  refine h.kept g (.inr fun k=> ?_)
  obtain ⟨ds,d⟩:=Sv h k
  exact b (FI d j)
def MO (w:World) (base:Nat) (T:TypeId) (sz:Nat) (r:Value) (n:Nat) (cells mk:List Value):Prop:=
 ∃b cap,r= .slice (some ⟨b,0,none⟩) n cap∧w.ownsRow base T sz (.slice (some ⟨b,0,none⟩) (n+1) cap) (n+1) (cells++mk)
theorem MO.bs {w w' :World} {base:Nat} {T:TypeId} {sz:Nat} {r:Value} {n:Nat} {a mk:List Value} (h:MO w base T sz r n a mk) (g:Below w.heap.size w w'):MO w' base T sz r n a mk:=by
 obtain ⟨b,cap,e,c⟩:=h
 exact ⟨b,cap,e,AH c g⟩
theorem SW {b n m cap sz:Nat}:cut (.slice (some ⟨b,0,none⟩) m cap) sz 0 n= .slice (some ⟨b,0,none⟩) n cap:=by
 show Value.slice (if cap=0 then _ else Option.map _ _) (n - 0) (cap - 0)=_
 have a:(if cap=0 then some (⟨b,0,none⟩:Addr) else (some (⟨b,0,none⟩:Addr)).map (·.add (0*sz)))=some ⟨b,0,none⟩:=by
  split
  ·rfl
  ·simp [add_lit]
 rw [a];rfl
theorem RT {w:World} {base:Nat} {T:TypeId} {sz:Nat} {v:Value} {n:Nat} {a mk:List Value} (h:w.ownsRow base T sz v (n+1) (a++mk)):MO w base T sz (cut v sz 0 n) n a mk:=by
 have d:=h
 rcases h.2 with ⟨_,e⟩|⟨b,cap,c,rfl,_⟩
 ·omega
 ·exact ⟨b,cap,SW,d⟩
theorem MO.own {w:World} {base:Nat} {T:TypeId} {sz:Nat} {r:Value} {n:Nat} {a mk:List Value} (h:MO w base T sz r n a mk) (d:a.length=n*sz):w.ownsRow base T sz r n a:=by
 obtain ⟨b,cap,rfl,c⟩:=h
 have:=QD c (Nat.le_succ n)
 rw [take_append_of_le_length (by omega),take_of_length_le (by omega),SW] at this
 exact this
theorem Twn.awayS {α:Type} {w w' :World} {B c:Nat} {e T:TypeId} {enc:α→Value} {a v q:Value} {l:List α} {f m:Nat} {k:List Value} (h:Twn w B e enc a v l) (i:AT w c T f q m k) (d:e≠T) (g:w.grownBy w' q.ownBlock):Twn w' B e enc a v l:=by
 obtain ⟨b,cap,rfl,j⟩:=h
 exact ⟨b,cap,rfl,Pb j i d g⟩
theorem Kz.wide {w:World} {e f a b:Nat} {x y:Value} {c:T4} (h:Kz w e f x y c) (d:a≤e) (g:f≤b):Kz w a b x y c:=
 ⟨h.held.wide d g,Twn.mono h.tx d,Twn.mono h.ty d⟩
theorem BO.top {w:World} {b:Nat}:∀{cs:List T4} {base a:Nat},BO w base a cs→a≤b→BO w base b cs
 |[],_,_,h,ht=>Nat.le_trans h ht
 |_::_,_,_,⟨l1,h1,q1,q2,q3,q4⟩,ht=>⟨l1,h1,q1,q2,q3,BO.top q4 ht⟩
theorem I6:∀us:List T4,(cellsOf us).length=us.length*2
 |[]=>rfl
 |_::us=>by simp only [cellsOf,length_cons,I6 us];omega
def vl (t:T4):List Int×List (BitVec 32):=(t.s,t.l)
structure FU (w:World) (lo hi:Nat) (r:Value) (us:List T4):Prop where
 all:BO w lo hi us
 tw:∀c ∈ us,Kz w lo hi c.x c.y c
 m:∃m,MO w lo 75 2 r us.length (cellsOf us) [m, .slice none 0 0]∧CA (Value.int .i64) w m [77]
 rb:∀b,r.ownBlock=some b→lo≤b∧b<hi
theorem FU.bs {w w' :World} {a b:Nat} {r:Value} {us:List T4} (h:FU w a b r us) (g:Below w.heap.size w w'):FU w' a b r us:=
 ⟨h.all.bs g,fun c f=>(h.tw c f).bs g,by obtain ⟨m,e,d⟩:=h.m;exact ⟨m,e.bs g,d.bs g⟩,h.rb⟩
theorem FU.own {w:World} {a c:Nat} {r:Value} {us:List T4} (h:FU w a c r us):w.ownsRow a 75 2 r us.length (cellsOf us):=by
 obtain ⟨m,b,_⟩:=h.m
 exact b.own (I6 us)
end Go.Proofs.YtblbopcaflaldaaGreatDoor

namespace Go.Proofs.YtblbopcaflaldaaGreatDoor
open Go Go.Dd Go.RowKit List Go.Proofs.Tryz
set_option maxRecDepth 100000
structure FV (w:World) (lo hi:Nat) (E:TypeId) (sz:Nat) (hs:List Hd):Prop where
 kept:DU w lo E sz hs
 top:∀b,AW hs b→b<hi
theorem Fk (w:World) (a c:Nat) (E:TypeId) (sz:Nat):FV w a c E sz []:=⟨DU.nil _ _ _ _,fun b ⟨_,h,_⟩=>by cases h⟩
theorem FV.low {w:World} {a c:Nat} {E:TypeId} {sz:Nat} {hs:List Hd} (h:FV w a c E sz hs) {b:Nat} (e:AW hs b):a≤b:=(h.kept.blk e).1
theorem FV.below {w w' :World} {c a B:Nat} {E:TypeId} {sz:Nat} {hs:List Hd} (h:FV w c a E sz hs) (g:Below B w w') (f:a≤B):FV w' c a E sz hs:=
 ⟨⟨h.kept.toKOk,fun x d=>(h.kept.own x d).heap fun b e=>g.block b (by have:=h.top b ⟨x,d,e⟩;omega)⟩,h.top⟩
theorem FV.bs {w w' :World} {b a:Nat} {E:TypeId} {sz:Nat} {hs:List Hd} (h:FV w b a E sz hs) (g:Below w.heap.size w w'):FV w' b a E sz hs:=⟨h.kept.bs g,h.top⟩
theorem FV.wide {w:World} {d f a c:Nat} {E:TypeId} {sz:Nat} {hs:List Hd} (h:FV w d f E sz hs) (g:a≤d) (j:f≤c):FV w a c E sz hs:=
 ⟨⟨h.kept.toKOk,fun x i=>(h.kept.own x i).mono g⟩,fun b e=>by have:=h.top b e;omega⟩
theorem FV.app {w:World} {a b c d:Nat} {E:TypeId} {sz:Nat} {hs i:List Hd} (h:FV w a b E sz hs) (k:FV w c d E sz i) (n:a≤c) (r:b≤c) (s:b≤d):FV w a d E sz (hs++i):=by
 have g:∀{P:Hd→Prop},(∀x ∈ hs,P x)→(∀x ∈ i,P x)→∀x ∈ hs++i,P x:=fun p q x f=>(List.mem_append.1 f).elim (p x) (q x)
 refine ⟨⟨⟨g h.kept.num k.kept.num,g h.kept.few k.kept.few,List.pairwise_append.2 ⟨h.kept.apart,k.kept.apart,fun x f y m e l o=> ?_⟩,g h.kept.new k.kept.new⟩,g h.kept.own fun x f=>(k.kept.own x f).mono n⟩,fun e ⟨x,f,j⟩=> ?_⟩
 ·have:=h.top e ⟨x,f,l⟩
  have:=k.low ⟨y,m,o⟩
  omega
 ·rcases List.mem_append.1 f with f|f
  ·have:=h.top e ⟨x,f,j⟩;omega
  ·exact k.top e ⟨x,f,j⟩
theorem FV.one {w:World} {d f:Nat} {E:TypeId} {sz k:Nat} {v:Value} {xs:List Value} {n:Int} (h:AT w d E sz v k xs) (i:∀b,v.ownBlock=some b→b<f) (j:0≤n) (c:n≤4000000) (g:k≤16777216):FV w d f E sz [CP v k xs n]:=
 ⟨⟨⟨fun x a=>by rw [List.mem_singleton.1 a];exact ⟨j,c⟩,fun x a=>by rw [List.mem_singleton.1 a];exact g,pairwise_singleton _ _,fun x a=>by rw [List.mem_singleton.1 a]⟩,fun x a=>by rw [List.mem_singleton.1 a];exact h⟩,fun b ⟨x,a,e⟩=>by rw [List.mem_singleton.1 a] at e;exact i b e⟩
theorem DQ {w:World} {a b c d:Nat} {E T:TypeId} {sz l:Nat} {hs f:List Hd} (h:FV w a b E sz hs) (k:FV w c d T l f) (e:E≠T):∀x,AW hs x→¬AW f x:=fun x ⟨y,j,g⟩ ⟨z,o,n⟩=>by
 obtain ⟨cs,m⟩:=(h.kept.own y j).ty g
 obtain ⟨ds,i⟩:=(k.kept.own z o).ty n
 exact e (FI m i)
theorem R4 (w:World) (a A base:Nat) (n:Int) (k l m j g:List Hd) (o s un q p:Value) (h:Bm w a A n k l m j g o s un q p) (e:FV w base a 5 1 k) (d:FV w base a 3 1 l) (b:FV w base a 21 1 m) (c:FV w base a 75 2 j) (f:FV w base a 79 5 g) (i:base≤a):
  AJ prog 22 [.pointer (some ⟨A,0,none⟩)] w (fun r w' =>r= .bool true∧Below base w w'):=
 SJ w a A base n k l m j g o s un q p h e.kept d.kept b.kept c.kept f.kept e.top d.top b.top c.top f.top (DQ e d (by decide)) (DQ e b (by decide)) (DQ e c (by decide)) (DQ e f (by decide)) (DQ d b (by decide)) (DQ d c (by decide)) (DQ d f (by decide)) (DQ b c (by decide)) (DQ b f (by decide)) (DQ c f (by decide)) i
theorem Ud {w:World} {A:Nat} (h:AN w A BE (.int .i64 0::replicate 15 (.slice none 0 0))):Bm w A A 0 [] [] [] [] [] (.slice none 0 0) (.slice none 0 0) (.slice none 0 0) (.slice none 0 0) (.slice none 0 0):=
 ⟨h,⟨rfl, .inl ⟨rfl,rfl⟩⟩,⟨rfl, .inl ⟨rfl,rfl⟩⟩,⟨rfl, .inl ⟨rfl,rfl⟩⟩,⟨rfl, .inl ⟨rfl,rfl⟩⟩,⟨rfl, .inl ⟨rfl,rfl⟩⟩,AX _,(by rintro ⟨⟩),(by rintro ⟨⟩),(by rintro ⟨⟩),(by rintro ⟨⟩),(by rintro ⟨⟩),(fun b e=>by cases e),(fun b e=>by cases e),(fun b e=>by cases e),(fun b e=>by cases e),(fun b e=>by cases e),(fun b e=>by cases e),(fun b e=>by cases e),(fun b e=>by cases e),(fun b e=>by cases e),(fun b e=>by cases e),rfl⟩

theorem N3 (a:N5) (x y:Value) (g m:Nat) (W:World) (d:N5.at W a) (h:DE W g m x y a):AJ prog 213 [(N5.mk a.k x y a.i a.s a.n a.p).v,a.v] W (fun r w' =>r= .bool true∧Below W.heap.size W w'):=by
 have e:=Below.refl W.heap.size W
 refine Bd (n:=38) func213 O<|Ah<|C0 (cs:=(N5.mk a.k x y a.i a.s a.n a.p).cells) O O O ?_
 rintro k w j c b -
 have e:=e.bs b
 have d:=d.bs b
 have h:=h.bs b
 refine C0 (cs:=a.cells) O O O ?_
 rintro l w i f b -
 have e:=e.bs b
 have d:=d.bs b
 have h:=h.bs b
 have c:=c.bs b
 refine Ab O<|Bg<|A0 underlying79 O (DA _)<|Aa (Ak (DG _) O ‹_› rfl) O ?_
 refine A0 underlying79 O (DA _)<|Aa (Ak (DG _) O ‹_› rfl) O ?_
 refine Aa (B0 O O) O<|Ad O<|Cm 10 (v' := .bool true) O (cngA Value.bool ((by simp)))<|Af (dj:=10) O O<|A0 underlying79 O (AU _)<|Af (dj:=10) O O<|Aa (Ak (AK _) O ‹_› rfl) O ?_
 refine Af (dj:=10) O O<|A0 underlying79 O (AU _)<|Af (dj:=10) O O<|Aa (Ak (AK _) O ‹_› rfl) O ?_
 refine Af (dj:=10) O O<|An O O (JZ x a.x a.i g _ h.tx d.i) ?_
 rintro _ w ⟨rfl,b⟩
 have e:=e.bs b
 have d:=d.bs b
 have h:=h.bs b
 have c:=c.bs b
 have f:=f.bs b
 refine Bu O<|Ad O<|Cm 17 (v' := .bool true) O (cngA Value.bool (rfl))<|Af (dj:=17) O O<|A0 underlying79 O (AU _)<|Af (dj:=17) O O<|Aa (Ak (AK _) O ‹_› rfl) O ?_
 refine Af (dj:=17) O O<|A0 underlying79 O (AU _)<|Af (dj:=17) O O<|Aa (Ak (AK _) O ‹_› rfl) O ?_
 refine Af (dj:=17) O O<|An O O (JZ y a.y a.s g _ h.ty d.s) ?_
 rintro _ w ⟨rfl,b⟩
 have e:=e.bs b
 have d:=d.bs b
 have h:=h.bs b
 have c:=c.bs b
 have f:=f.bs b
 refine Bu O<|Ad O<|Cm 24 (v' := .bool true) O (cngA Value.bool (rfl))<|Af (dj:=24) O O<|A0 underlying79 O (AV _)<|Af (dj:=24) O O<|Aa (Ak (AI _) O ‹_› rfl) O ?_
 refine Af (dj:=24) O O<|A0 underlying79 O (AV _)<|Af (dj:=24) O O<|Aa (Ak (AI _) O ‹_› rfl) O ?_
 refine Af (dj:=24) O O<|Aa (Cl O O) O<|Bu O<|Ad O<|Cm 31 (v' := .bool true) O (cngA Value.bool ((by simp)))<|Af (dj:=31) O O<|A0 underlying79 O (AV _)<|Af (dj:=31) O O<|Aa (Ak (AI _) O ‹_› rfl) O ?_
 refine Af (dj:=31) O O<|A0 underlying79 O (AV _)<|Af (dj:=31) O O<|Aa (Ak (AI _) O ‹_› rfl) O ?_
 exact Af (dj:=31) rfl rfl<|Aa (Cl rfl rfl) rfl<|Bu rfl<|Ab rfl<|Ay<|Ax rfl rfl<|⟨cngA Value.bool (by simp),e⟩
theorem DE.kin {w:World} {j i:Nat} {x y:Value} {a:N5} (h:DE w j i x y a) {n:Int} (o:0≤n) (m:n+2≤4000000) (g:a.i.length≤16777216) (hs:a.s.length≤16777216):FV w j i 3 1 [CP x a.i.length (a.i.map (Value.int .i64)) (n+1),CP y a.s.length (a.s.map (Value.int .i64)) (n+2)]:=by
 have d:=FV.one (n:=n+1) (.inl h.tx.own) (fun b e=>(h.bx b e).2) (by omega) (by omega) g
 have f:=FV.one (n:=n+2) (.inl h.ty.own) (fun b e=>(h.by' b e).2) (by omega) (by omega) hs
 refine ⟨⟨⟨?_, ?_,List.Pairwise.cons ?_ (pairwise_singleton _ _), ?_⟩, ?_⟩, ?_⟩
 ·intro z c
  rcases List.mem_cons.1 c with rfl|c
  ·exact d.kept.num _ (List.mem_singleton.2 rfl)
  ·exact f.kept.num _ c
 ·intro z c
  rcases List.mem_cons.1 c with rfl|c
  ·exact d.kept.few _ (List.mem_singleton.2 rfl)
  ·exact f.kept.few _ c
 ·intro z c
  rw [List.mem_singleton.1 c]
  exact fun b k l=>h.apart b k l
 ·intro z c
  rcases List.mem_cons.1 c with rfl|c
  ·rfl
  ·rw [List.mem_singleton.1 c]
 ·intro z c
  rcases List.mem_cons.1 c with rfl|c
  ·exact d.kept.own _ (List.mem_singleton.2 rfl)
  ·exact f.kept.own _ c
 ·rintro b ⟨z,c,e⟩
  rcases List.mem_cons.1 c with rfl|c
  ·exact (h.bx b e).2
  ·rw [List.mem_singleton.1 c] at e
   exact (h.by' b e).2
theorem DE.below {w w' :World} {d i B:Nat} {x y:Value} {a:N5} (h:DE w d i x y a) (g:Below B w w') (l:i≤B):DE w' d i x y a:=by
 have k:tI w' d x a.i:=by
  obtain ⟨b,cap,rfl,f⟩:=h.tx
  exact ⟨b,cap,rfl,CL f fun c e=>g.block c (by have:=h.bx c (by simpa [Value.ownBlock] using e);omega)⟩
 have j:tI w' d y a.s:=by
  obtain ⟨b,cap,rfl,f⟩:=h.ty
  exact ⟨b,cap,rfl,CL f fun c e=>g.block c (by have:=h.by' c (by simpa [Value.ownBlock] using e);omega)⟩
 exact ⟨k,j,h.bx,h.by',h.apart⟩
end Go.Proofs.YtblbopcaflaldaaGreatDoor
