/- Texts of this proof, one behind the other: RefMget, MdlKin, BookArg, MdlOf. -/
import Derived.Test.YtblbopcaflaldaaGreatDoorPk5
import Derived.Test.YtblbopcaflaldaaGreatDoorPk4
import Derived.Test.YtblbopcaflaldaaGreatDoorPk3
import Derived.Test.YtblbopcaflaldaaGreatDoorCards
import Derived.Test.YtblbopcaflaldaaGreatDoorTie
import Derived.SevenTiedAt
import Derived.LaidLaws
import Derived.LaidHandle
import Derived.JoinedOf

namespace Go.Proofs.YtblbopcaflaldaaGreatDoor
open Go Go.Dd Go.RowKit Go.Proofs.Tryz
open List hiding all
set_option maxRecDepth 100000
abbrev LP:TypeId:=114
structure N2 (W w:World) (A:Nat) (v:Value) (l:Bs) (bad:Bool):Prop where
 sl:BO b8 W v l
 bel:Below W.heap.size W w
 lo:W.heap.size≤A
 cell:AP w A LP [v, .bool bad]
theorem N2.bs {W w b:World} {A:Nat} {v:Value} {l:Bs} {a:Bool} (h:N2 W w A v l a) (g:Below w.heap.size w b):N2 W b A v l a:=⟨h.sl,bt h.bel g,h.lo,h.cell.bs g⟩
theorem N2.grow {W w c:World} {A:Nat} {v:Value} {l:Bs} {a:Bool} {r:Option Nat} (h:N2 W w A v l a) (g:w.grownBy c r) (d:∀b,r=some b→W.heap.size≤b∧b≠A):N2 W c A v l a:=
 ⟨h.sl,h.bel.grown g (AA h.bel) fun b e=>(d b e).1,h.lo,h.cell.by g fun e=>(d A e.symm).2 rfl⟩
theorem IN (W w:World) (A:Nat) (v:Value) (l:Bs) (a:Bool) (B:N2 W w A v l a) (y:a=true→l=[]):
  AK prog 62 [.pointer (some ⟨A,0,none⟩)] w (fun r q=>w.grownBy q (some A)∧q.heap.size=w.heap.size∧∃(b:BitVec 8) (t:Bs) (c:Bool) (v' :Value),r= .int .i64 (b.toNat:Int)∧N2 W q A v' t c∧(c=true→t=[])∧
   (c=false→a=false∧ES l=some (b,t))∧(c=true→a=true∨ES l=none)):=by
 obtain ⟨d,p,o,j⟩:=B
 have m:=d.bs p
 have C:=d.le
 refine Az (n:=29) func62 O<|Ad<|Ab O<|Bi<|Ac O<|Aa (Ax O) O<|Ba underlying114 O (DG _)<|Aa (Al (DM _) O ‹_› rfl) O ?_
 refine Aa (Ap AL O ‹_›) O ?_
 refine Aa (C6 O O) O<|Ak<|Aq O ?_ ?_
 ·intro g
  have g:l=[]:=eq_nil_of_length_eq_zero (by have:=AC g;omega)
  refine Ad<|Ac O<|Aa (Ax O) O<|Ba underlying114 O (NG _)<|Bv (C5 (u:= .bool true) (NG _) O O O j (show 1<2 by decide)) ?_
  rintro x ⟨e,k,s⟩
  refine Be<|Ab O<|B2<|As O O ?_
  exact ⟨k,s,0#8,[],true,v,rfl,⟨g ▸ d,p.grown k (AA p) (by rintro _ ⟨⟩;omega),o,e⟩,fun _=>rfl,fun h=>by (cases h),fun _=> .inr (by rw [g];rfl)⟩
 intro g
 have g:1≤l.length:=by have:=AD g;omega
 have f:a=false:=by
  cases a with
  |false=>rfl
  |true=>rw [y rfl] at g;simp at g
 have z:=IH g
 refine Cs<|Ac O<|Aa (Ax O) O<|Ba underlying114 O (DG _)<|Aa (Al (DM _) O ‹_› rfl) O ?_
 refine Aa (Dn AL O O m.shp 0 O (by omega)) O<|Aa (Bo (Hf _) O ‹_› (by omega)) O ?_
 refine Ab O<|Be<|Ac O<|Ac O<|Aa (Ax O) O<|Ba underlying114 O (DG _)<|Aa (Al (DM _) O ‹_› rfl) O ?_
 refine Aa (Ey (i:=1) AL O O m g) O<|Aa (Ax O) O<|Ba underlying114 O (DG _)<|Bv (C5 (u:=cut v 1 1 l.length) (DG _) O O (BO.drop d g).one' j (show 0<2 by decide)) ?_
 rintro x ⟨e,k,s⟩
 refine Be<|Ac O<|Aa (Fb Lx Jt O) O<|Ab O<|Ay<|As O O ?_
 refine ⟨k,s,l.getD 0 default,l.drop 1,a,cut v 1 1 l.length, ?_,⟨BO.drop d g,p.grown k (AA p) (by rintro _ ⟨⟩;omega),o,e⟩,fun h=>by (rw [f] at h;cases h),fun _=>⟨f,z⟩,fun h=>by (rw [f] at h;cases h)⟩
 rfl
theorem P8 {a e:Bs} {k:Nat} {t:List Int} {c:BitVec 8} (j:k≤a.length) (g:t=FD (a.take k)) (b:ES (a.drop k)=some (c,e)):k+1≤a.length∧t++[(c.toNat:Int)]=FD (a.take (k+1))∧e=a.drop (k+1):=by
 have d:k<a.length:=by
  rcases Nat.lt_or_ge k a.length with h|h
  ·exact h
  ·rw [drop_of_length_le h] at b;cases b
 rw [drop_eq_getElem_cons d] at b
 have f:a[k]=c:=by injection b with h;exact (Prod.mk.inj h).1
 have i:a.drop (k+1)=e:=by injection b with h;exact (Prod.mk.inj h).2
 refine ⟨d, ?_,i.symm⟩
 rw [Ks d,g,getD_eq_getElem?_getD,getElem?_eq_getElem d,← f]
 rfl
theorem Pp (W w:World) (A:Nat) (v:Value) (l:Bs) (o:Bool) (hR:N2 W w A v l o) (hb:o=true→l=[]):
  AK prog 63 [.pointer (some ⟨A,0,none⟩)] w (fun r G=>w.grownBy G (some A)∧∃(t:List Int) (l' :Bs) (i:Bool) (v' :Value),AQ G w.heap.size 3 1 r t.length (t.map (Value.int .i64))∧t.length≤255∧N2 W G A v' l' i∧(i=true→l' =[])∧
   (i=false→o=false∧DZ l=some (t,l'))∧(i=true→o=true∨DZ l=none)):=by
 have hA0:=BA hR.cell
 refine Az (n:=24) func63 O<|Ad<|Ab O<|Be<|Ab O<|Bi<|Ac O<|Ai O O (IN W w A v l o hR hb) ?_
 rintro _ w1 ⟨R,hz1,b,x,a,v1,rfl,h1,hb1,B,u⟩
 obtain ⟨N,hN⟩:∃N,N=b.toNat:=⟨_,rfl⟩
 have N8:N≤255:=by have:=b.isLt;omega
 rw [← hN]
 refine Ab O<|Ak<|An ?_
 refine Bl (S:=(Nat×Bs×Bool×Value×Value×List Int)) (fun z=>[(0, .pointer (some ⟨A,0,none⟩)),(3,z.2.2.2.2.1),(4, .int .i64 ((N:Int) - (z.1:Int)))]) (fun z G=>z.1≤N∧z.2.2.2.2.2.length=z.1∧w.grownBy G (some A)∧G.ownsRow w.heap.size 3 1 z.2.2.2.2.1 z.2.2.2.2.2.length (z.2.2.2.2.2.map (Value.int .i64))∧N2 W G A z.2.2.2.1 z.2.1 z.2.2.1∧(z.2.2.1=true→z.2.1=[])∧(z.2.2.1=false→a=false∧z.1≤x.length∧z.2.2.2.2.2=FD (x.take z.1)∧z.2.1=x.drop z.1)∧(z.2.2.1=true→a=true∨x.length<N)) (fun z=>N - z.1) ((0,x,a,v1, .slice none 0 0,[])) ⟨rfl,rfl,rfl,trivial⟩ ?_ ?_
 ·exact ⟨Nat.zero_le _,rfl,R,World.ownsRow_nil _ _ _ _,h1,hb1,fun h=>⟨h,Nat.zero_le _,rfl,rfl⟩,fun h=> .inl h⟩
 clear R hz1 h1 hb1
 rintro ⟨k,D,U,v2,y,t⟩ w2 ⟨hk,Y,f,p,X,s,m,F⟩
 dsimp only at hk Y f p X s m F ⊢
 have b_A:=X.cell
 have zz:=f.size
 refine Ao<|Ad<|Ac O<|Aa (Dh O O) O<|Ac O ?_
 refine Cc 9 O ?_ ?_
 ·intro g
  have C:k<N:=by have:=AC g;omega
  refine Ag (dj:=9) O O<|Ac O<|Ag (dj:=9) O O<|Aa (Ax O) O<|Ag (dj:=9) O O<|Ba underlying114 O (NG _)<|Ag (dj:=9) O O<|Aa (Al (UM _) O ‹_› rfl) O ?_
  refine Ag (dj:=9) O O<|Aa (Co O) O<|B7 O<|Ak<|Aq O ?_ ?_
  ·intro g2
   have d:U=false:=by simpa using g2
   obtain ⟨Z,q2,L,I⟩:=m d
   refine Bw<|Ao<|An<|Bn<|Ac O<|Ac O<|Ai O O (IN W w2 A v2 D U X s) ?_
   rintro _ w3 ⟨M,hz3,c,l3,H,v3,rfl,h3,hb3,hf3,ht3⟩
   have tA:∀b,some A=some b→∃cs,AP w2 b LP cs:=fun b e=>by cases e;exact ⟨_,b_A⟩
   replace p:=CA p M tA (by decide)
   have f:=ET f M
   have z3:=f.size
   refine Bc (Cv (vs:=[(c.toNat:Int)].map (Value.int .i64)) AE DO O O O O O) O ?_
   rintro q w4 ⟨o_q, -,hn, -⟩
   replace p:=AI p hn
   have h3:=h3.bs hn
   have f:=ET f (DB hn _)
   have z4:=f.size
   have b_A4:=h3.cell
   have V:H=false→a=false∧k+1≤x.length∧t++[(c.toNat:Int)]=FD (x.take (k+1))∧l3=x.drop (k+1):=fun e=>by
    obtain ⟨r1,r2⟩:=hf3 e
    rw [I] at r2
    exact ⟨Z,P8 q2 L r2⟩
   have Q:H=true→a=true∨x.length<N:=fun e=>by
    rcases ht3 e with r|r
    ·rw [d] at r;cases r
    ·rw [I,KY,length_drop] at r
     exact .inr (by omega)
   refine Bc (Cn (base:=w.heap.size) AE DO O (by decide) O O p (AF o_q) (BL (fun _=>rfl) _) (by omega) (by omega) z4) O ?_
   rintro y' w5 ⟨J, -,j, -⟩
   have K:∀b,y.ownBlock=some b→w.heap.size≤b:=fun b e=>(AB p b e).1
   have h5:=h3.grow j fun b e=>by have:=K b e;have:=AA hR.bel;omega
   have T:w.grownBy w5 (some A):=⟨j.os.trans f.os,j.tape.trans f.tape,j.output.trans f.output,Nat.le_trans z4 j.size,fun b hb hne=>(j.block b (Nat.lt_of_lt_of_le hb z4) fun e=>by have:=K b e.symm;omega).trans (f.block b hb hne)⟩
   rw [← map_append,show t.length+1=(t++[(c.toNat:Int)]).length by simp] at J
   refine Ab O<|Bd<|Bg<|B6<|Ac O<|Aa (D2 O O (by omega)) O<|Ab O<|Bd ?_
   exact Ar (Bp ((k+1,l3,H,v3,y',t++[(c.toNat:Int)])) ⟨rfl,rfl,(cngA (fun z=>some (Value.int .i64 z)) (by omega)),trivial⟩ (⟨C,by simp [Y],T,J,h5,hb3,V,Q⟩) (by simp only;omega))
  intro g2
  have d:U=true:=by simpa using g2
  refine Bk<|Aj<|Aj<|A0<|Cb<|Ac O<|Ab O<|Ay<|As O O ?_
  refine ⟨f,t,D,U,v2, .inl p,by omega,X,s, ?_, ?_⟩
  ·intro e
   obtain ⟨Z,q2,L,I⟩:=m e
   obtain ⟨q5,q6⟩:=B Z
   refine ⟨q5, ?_⟩
   have E:k=N:=(by have:=m;rw [d] at e;cases e)
   unfold DZ
   rw [q6]
   simp only
   rw [if_pos (by omega),← hN,L,I,E]
  ·intro e
   rcases F e with q|q
   ·rcases u q with q|q
    ·exact .inl q
    ·exact .inr (by unfold DZ;rw [q])
   ·cases d:a with
    |true=>
     rcases u d with q|q
     ·exact .inl q
     ·exact .inr (by unfold DZ;rw [q])
    |false=>
     refine .inr ?_
     unfold DZ
     rw [(B d).2]
     simp only
     rw [if_neg (by omega)]
 intro g
 have C:k=N:=by have:=AD g;omega
 refine Ae (dj:=9) O O O O<|Ae (dj:=9) O O O O<|Ae (dj:=9) O O O O<|Ae (dj:=9) O O O O<|Ae (dj:=9) O O O O<|Ci O<|Ak<|D5 O<|Bk<|Aj<|Aj<|A0<|Cb<|Ac O<|Ab O<|Ay<|As O O ?_
 refine ⟨f,t,D,U,v2, .inl p,by omega,X,s, ?_, ?_⟩
 ·intro e
  obtain ⟨Z,q2,L,I⟩:=m e
  obtain ⟨q5,q6⟩:=B Z
  refine ⟨q5, ?_⟩
  have E:k=N:=C
  unfold DZ
  rw [q6]
  simp only
  rw [if_pos (by omega),← hN,L,I,E]
 ·intro e
  rcases F e with q|q
  ·rcases u q with q|q
   ·exact .inl q
   ·exact .inr (by unfold DZ;rw [q])
  ·cases d:a with
   |true=>
    rcases u d with q|q
    ·exact .inl q
    ·exact .inr (by unfold DZ;rw [q])
   |false=>
    refine .inr ?_
    unfold DZ
    rw [(B d).2]
    simp only
    rw [if_neg (by omega)]
theorem Na:∀(ls:List N5) (a f:List (List Int)),FA a ls=some f→∀x ∈ ls,x.k=2#8→Shapes.ok x.s=true
 |[],_,_,_,x,b=>by cases b
 |y::ls,a,f,h,x,b=>fun d=>by
  unfold FA at h
  cases e:JI a y with
  |none=>rw [e] at h;cases h
  |some s=>
   rw [e] at h
   rcases List.mem_cons.1 b with rfl|b
   ·unfold JI at e
    split at e
    ·rename_i g
     simp only [Bool.and_eq_true] at g
     have c:=g.2
     unfold Kw at c
     simp only [d] at c
     exact c
    ·cases e
   ·exact Na ls _ _ h x b d
theorem TC {ls:List N5} (h:(GL ls).isSome=true) {x:N5} (c:x ∈ F2 ls):Shapes.ok x.s=true:=by
 obtain ⟨a,b⟩:=List.mem_filter.1 c
 obtain ⟨d,hs⟩:=Option.isSome_iff_exists.1 h
 unfold GL at hs
 split at hs
 ·cases hs
 ·split at hs
  ·rename_i e
   exact Na _ _ _ e x a (AC b)
  ·cases hs
structure Ld (W:World) (A M R:Nat):Prop where
 a:W.heap.size≤A
 m:W.heap.size≤M
 r:W.heap.size≤R
 am:A≠M
 ar:A≠R
 mr:M≠R
structure Dt (W x:World) (A M R:Nat) (rest:Bs) (bad:Bool) (ls:List N5) (vn:Value) (ts:List T4) (vw:Value):Prop where
 bel:Below W.heap.size W x
 res:AP x R 27 [.slice none 0 0, .slice none 0 0]
 m:AP x M 27 [vn,vw]
 g:∃v,N2 W x A v rest bad
 gb:bad=true→rest=[]
 o:x.ownsRow W.heap.size 79 5 vn ls.length (GI N5.cells ls)
 u:x.ownsRow W.heap.size 75 2 vw ts.length (cellsOf ts)
 en:∀c ∈ ls,AQ x W.heap.size 3 1 c.x c.i.length (c.i.map (Value.int .i64))∧AQ x W.heap.size 3 1 c.y c.s.length (c.s.map (Value.int .i64))
 et:∀t ∈ ts,AQ x W.heap.size 3 1 t.x t.s.length (t.s.map (Value.int .i64))∧AQ x W.heap.size 21 1 t.y t.l.length (t.l.map i32)
theorem Dt.bs {W x y:World} {A M R:Nat} {a:Bs} {d:Bool} {ls:List N5} {e:Value} {ts:List T4} {f:Value} (h:Dt W x A M R a d ls e ts f) (g:Below x.heap.size x y):Dt W y A M R a d ls e ts f:=by
 obtain ⟨v',r⟩:=h.g
 exact ⟨bt h.bel g,h.res.bs g,h.m.bs g,⟨v',r.bs g⟩,h.gb,AI h.o g,AI h.u g,fun c b=>⟨(h.en c b).1.bs g,(h.en c b).2.bs g⟩,fun c b=>⟨(h.et c b).1.bs g,(h.et c b).2.bs g⟩⟩
theorem Dt.gn {W x:World} {A M R:Nat} {b:Bs} {c:Bool} {ls:List N5} {d:Value} {ts:List T4} {f:Value} (h:Dt W x A M R b c ls d ts f):GN x d ls:=⟨AF h.o,fun a e=>⟨(h.en a e).1.slT,(h.en a e).2.slT⟩⟩
theorem Dt.ch {W x y:World} {A M R B:Nat} {k a:Bs} {n d:Bool} {ls:List N5} {q:Value} {ts:List T4} {m:Value} {U:TypeId} {cs:List Value} (h:Dt W x A M R k n ls q ts m) (g:x.grownBy y (some B)) (z:W.heap.size≤B) (v:AP x B U cs)
  (o:3≠U) (s:21≠U) (j:79≠U∨q.ownBlock≠some B) (i:75≠U∨m.ownBlock≠some B) (t:B≠M) (w:B≠R) (r:∃v',N2 W y A v' a d) (u:d=true→a=[]):Dt W y A M R a d ls q ts m:=by
 have f:∀b,some B=some b→∃cs,AP x b U cs:=fun b e=>by cases e;exact ⟨_,v⟩
 refine ⟨h.bel.grown g (AA h.bel) (fun b e=>by cases e;exact z),h.res.by g (fun e=>w (Option.some.inj e).symm),h.m.by g (fun e=>t (Option.some.inj e).symm),r,u, ?_, ?_,fun c l=>⟨AH (h.en c l).1 g f o,AH (h.en c l).2 g f o⟩,fun c l=>⟨AH (h.et c l).1 g f o,AH (h.et c l).2 g f s⟩⟩
 ·rcases j with j|j
  ·exact CA h.o g f j
  ·exact AV h.o fun b e=>g.block b (AB h.o b e).2 fun p=>j (by rw [e,p])
 ·rcases i with i|i
  ·exact CA h.u g f i
  ·exact AV h.u fun b e=>g.block b (AB h.u b e).2 fun p=>i (by rw [e,p])
theorem Dt.node {W x y z:World} {A M R:Nat} {i:Bs} {q:Bool} {ls:List N5} {s l:Value} {ts:List T4} {v:Value} {c:N5} (L:Ld W A M R) (h:Dt W x A M R i q ls s ts v) (G:AQ x W.heap.size 3 1 c.x c.i.length (c.i.map (Value.int .i64))∧AQ x W.heap.size 3 1 c.y c.s.length (c.s.map (Value.int .i64)))
  (o:y.ownsRow W.heap.size 79 5 l (ls.length+1) (GI N5.cells ls++c.cells)) (g:x.grownBy y s.ownBlock) (p:y.grownBy z (some M)) (m:AP z M 27 [l,v]):Dt W z A M R i q (ls++[c]) l ts v:=by
 obtain ⟨v',r⟩:=h.g
 have C:∀b,s.ownBlock=some b→∃cs,AP x b 79 cs:=fun b e=>AQ.ty (.inl h.o) e
 have F:∀b,s.ownBlock=some b→W.heap.size≤b:=fun b e=>(AB h.o b e).1
 have w:∀{B:Nat} {U:TypeId} {cs:List Value},AP x B U cs→79≠U→some B≠s.ownBlock:=fun k u e=>by
  obtain ⟨ds,K⟩:=C _ e.symm
  exact u (BM K k)
 have J:=h.m.by g (w h.m (by decide))
 have H:=r.grow g fun b e=>⟨F b e,fun I=>w r.cell (by decide) (by rw [e,I])⟩
 have j:∀b,some M=some b→∃cs,AP y b 27 cs:=fun b e=>by cases e;exact ⟨_,J⟩
 have f:∀{E:TypeId} {a:Value} {k:Nat} {xs:List Value},AQ x W.heap.size E 1 a k xs→E≠79→E≠27→AQ z W.heap.size E 1 a k xs:=fun k N Q=>AH (AH k g C N) p j Q
 refine ⟨(h.bel.grown g (AA h.bel) F).grown p (Nat.le_trans (AA h.bel) g.size) (fun b e=>by cases e;exact L.m),(h.res.by g (w h.res (by decide))).by p (fun e=>L.mr (Option.some.inj e).symm),m,⟨v',H.grow p fun b e=>by cases e;exact ⟨L.m,fun e=>L.am e.symm⟩⟩,h.gb, ?_, ?_,fun d n=> ?_,fun t D=>⟨f (h.et t D).1 (by decide) (by decide),f (h.et t D).2 (by decide) (by decide)⟩⟩
 ·rw [length_append,Nh]
  exact CA o p j (by decide)
 ·exact CA (CA h.u g C (by decide)) p j (by decide)
 ·rcases List.mem_append.1 n with n|n
  ·exact ⟨f (h.en d n).1 (by decide) (by decide),f (h.en d n).2 (by decide) (by decide)⟩
  ·rw [List.mem_singleton.1 n]
   exact ⟨f G.1 (by decide) (by decide),f G.2 (by decide) (by decide)⟩
theorem Dt.tens {W x y z:World} {A M R:Nat} {i:Bs} {s:Bool} {ls:List N5} {C:Value} {ts:List T4} {q j:Value} {c:T4} (L:Ld W A M R) (h:Dt W x A M R i s ls C ts q) (G:AQ x W.heap.size 3 1 c.x c.s.length (c.s.map (Value.int .i64))∧AQ x W.heap.size 21 1 c.y c.l.length (c.l.map i32))
  (o:y.ownsRow W.heap.size 75 2 j (ts.length+1) (cellsOf ts++[c.x,c.y])) (g:x.grownBy y q.ownBlock) (p:y.grownBy z (some M)) (m:AP z M 27 [C,j]):Dt W z A M R i s ls C (ts++[c]) j:=by
 obtain ⟨v',r⟩:=h.g
 have w:∀b,q.ownBlock=some b→∃cs,AP x b 75 cs:=fun b e=>AQ.ty (.inl h.u) e
 have F:∀b,q.ownBlock=some b→W.heap.size≤b:=fun b e=>(AB h.u b e).1
 have v:∀{B:Nat} {U:TypeId} {cs:List Value},AP x B U cs→75≠U→some B≠q.ownBlock:=fun k u e=>by
  obtain ⟨ds,K⟩:=w _ e.symm
  exact u (BM K k)
 have J:=h.m.by g (v h.m (by decide))
 have H:=r.grow g fun b e=>⟨F b e,fun I=>v r.cell (by decide) (by rw [e,I])⟩
 have l:∀b,some M=some b→∃cs,AP y b 27 cs:=fun b e=>by cases e;exact ⟨_,J⟩
 have f:∀{E:TypeId} {a:Value} {k:Nat} {xs:List Value},AQ x W.heap.size E 1 a k xs→E≠75→E≠27→AQ z W.heap.size E 1 a k xs:=fun k N Q=>AH (AH k g w N) p l Q
 refine ⟨(h.bel.grown g (AA h.bel) F).grown p (Nat.le_trans (AA h.bel) g.size) (fun b e=>by cases e;exact L.m),(h.res.by g (v h.res (by decide))).by p (fun e=>L.mr (Option.some.inj e).symm),m,⟨v',H.grow p fun b e=>by cases e;exact ⟨L.m,fun e=>L.am e.symm⟩⟩,h.gb,CA (CA h.o g w (by decide)) p l (by decide), ?_,fun t D=>⟨f (h.en t D).1 (by decide) (by decide),f (h.en t D).2 (by decide) (by decide)⟩,fun d n=> ?_⟩
 ·rw [length_append,Ha]
  exact CA o p l (by decide)
 ·rcases List.mem_append.1 n with n|n
  ·exact ⟨f (h.et d n).1 (by decide) (by decide),f (h.et d n).2 (by decide) (by decide)⟩
  ·rw [List.mem_singleton.1 n]
   exact ⟨f G.1 (by decide) (by decide),f G.2 (by decide) (by decide)⟩
theorem Dt.ob {W x y:World} {A M R B:Nat} {a:Bs} {c:Bool} {ls:List N5} {f:Value} {ts:List T4} {d:Value} {U:TypeId} {cs:List Value} (h:Dt W x A M R a c ls f ts d) (g:x.grownBy y (some B)) (i:W.heap.size≤B) (m:AP x B U cs)
  (n:3≠U) (j:21≠U) (p:79≠U∨f.ownBlock≠some B) (l:75≠U∨d.ownBlock≠some B) (o:B≠A) (k:B≠M) (q:B≠R):Dt W y A M R a c ls f ts d:=
 h.ch g i m n j p l k q (by obtain ⟨v',r⟩:=h.g;exact ⟨v',r.grow g fun b e=>by cases e;exact ⟨i,o⟩⟩) h.gb
theorem Dt.rd {W x y:World} {A M R:Nat} {c a:Bs} {d b:Bool} {ls:List N5} {e v' :Value} {ts:List T4} {f:Value} (L:Ld W A M R) (h:Dt W x A M R c d ls e ts f) (g:x.grownBy y (some A)) (r:N2 W y A v' a b) (j:b=true→a=[]):Dt W y A M R a b ls e ts f:=by
 obtain ⟨q,i⟩:=h.g
 exact h.ch g L.a i.cell (by decide) (by decide) (.inl (by decide)) (.inl (by decide)) L.am L.ar ⟨v',r⟩ j
theorem PS {t f c d g l:Bool} {a o v m r y:Bs} {k n p:BitVec 8} {i s:List Int} (w:t=false)
  (x:f=false→t=false∧ES a=some (k,o)) (H:f=true→t=true∨ES a=none)
  (z:c=false→f=false∧DZ o=some (i,v)) (C:c=true→f=true∨DZ o=none)
  (B:d=false→c=false∧DZ v=some (s,m)) (D:d=true→c=true∨DZ v=none)
  (A:g=false→d=false∧ES m=some (n,r)) (E:g=true→d=true∨ES m=none)
  (I:l=false→g=false∧ES r=some (p,y)) (M:l=true→g=true∨ES r=none):
  (l=false→EB a=some ((k,i,s,(n.toNat:Int),(p.toNat:Int)),y))∧(l=true→EB a=none):=by
 constructor
 ·intro e
  obtain ⟨L,G⟩:=I e
  obtain ⟨K,u⟩:=A L
  obtain ⟨F,j⟩:=B K
  obtain ⟨J,h⟩:=z F
  obtain ⟨-,b⟩:=x J
  simp only [EB,b,h,j,u,G]
 ·intro e
  cases h1:f with
  |true=>
   rcases H h1 with q|q
   ·rw [w] at q;cases q
   ·simp only [EB,q]
  |false=>
   obtain ⟨-,b⟩:=x h1
   cases h2:c with
   |true=>
    rcases C h2 with q|q
    ·rw [h1] at q;cases q
    ·simp only [EB,b,q]
   |false=>
    obtain ⟨-,h⟩:=z h2
    cases h3:d with
    |true=>
     rcases D h3 with q|q
     ·rw [h2] at q;cases q
     ·simp only [EB,b,h,q]
    |false=>
     obtain ⟨-,j⟩:=B h3
     cases h4:g with
     |true=>
      rcases E h4 with q|q
      ·rw [h3] at q;cases q
      ·simp only [EB,b,h,j,q]
     |false=>
      obtain ⟨-,u⟩:=A h4
      rcases M e with q|q
      ·rw [h4] at q;cases q
      ·simp only [EB,b,h,j,u,q]
theorem Q1 (a:Value) (c:a.cells=[a].toArray):Tryz.prog.built LP [(0,a)]=some [a, .bool false].toArray:=by
 have b:Tryz.prog.info? LP=some Tryz.t114:=by kernel_rfl
 have d:Tryz.prog.info? 28=some Tryz.t28:=by kernel_rfl
 have e:Tryz.prog.info? 4=some Tryz.t4:=by kernel_rfl
 simp [Program.built,b,underlying114,d,e,Instr.fill,c]
 rfl
def V3 (w:World) (r:Value) (l:Bs):Prop:=∃vn vw ls ts,r= .tuple #[.agg [vn,vw].toArray, .int .i64 (IP l)]∧(ls.map pn,ts.map pv)=(HY l).getD ([],[])∧GN w vn ls∧EM w vw ts
theorem H0 {w:World} {l:Bs} {e:Int} (b:IP l=e) (a:HY l=none):V3 w (.tuple #[.agg [.slice none 0 0, .slice none 0 0].toArray, .int .i64 e]) l:=
 ⟨_,_,[],[],by rw [b],by rw [a];rfl,⟨Ck _ _,fun _ h=>by cases h⟩,⟨Ck _ _,fun _ h=>by cases h⟩⟩
theorem L6 {lt d a:Bs} {b:BitVec 8} {c:List PN} (e:ES lt=some (b,d)) (f:CJ b.toNat d=some (c,a)):DK lt=(EV (Js c) a).map fun q=>(c,q.1,q.2):=by
 rw [DK,e]
 simp only
 rw [f]
theorem TL {lt c a:Bs} {b:BitVec 8} {ls:List N5} (d:ES lt=some (b,c)) (e:CJ b.toNat c=some (ls.map pn,a)) (f:(GL ls).isSome=false):DS lt=none:=by
 rw [DS,L6 d e]
 cases EV (Js (ls.map pn)) a with
 |none=>rfl
 |some q=>
  show (if q.2=[]∧(RZ (ls.map pn)).isSome=true then _ else none)=none
  rw [if_neg]
  rintro ⟨-,h⟩
  rw [HB,f] at h
  cases h
theorem Q2 {lt c a r:Bs} {b:BitVec 8} {ls:List N5} {ws:List PV} (e:ES lt=some (b,c)) (f:CJ b.toNat c=some (ls.map pn,a)) (g:(GL ls).isSome=true) (d:EV (Js (ls.map pn)) a=some (ws,r)):DS lt=if r=[] then some (ls.map pn,ws) else none:=by
 rw [DS,L6 e f,d]
 show (if r=[]∧(RZ (ls.map pn)).isSome=true then _ else none)=_
 rw [HB,g]
 simp
theorem Q3 {lt c a:Bs} {b:BitVec 8} {ls:List N5} (e:ES lt=some (b,c)) (f:CJ b.toNat c=some (ls.map pn,a)) (d:EV (Js (ls.map pn)) a=none):DS lt=none:=by
 rw [DS,L6 e f,d]
 rfl
theorem M3 (u:Value) (s:List Int) (W:World) (e:BO (Value.int .i64) W u s) (a:Shapes.ok s=true):
  AK prog 66 [u] W (fun r b=>Below W.heap.size W b∧∃x y,r= .tuple #[.agg #[x,y], .int .i64 0]∧SK W b x y s (replicate (Shapes.size s).toNat 0#32)):=
 (Us u s W e).mono fun _ _ ⟨d,c⟩=>⟨d,c.elim (fun ⟨_,h⟩=>h) (fun ⟨h,_⟩=>by rw [a] at h;cases h)⟩
theorem To {a:Bs} {N k:Nat} (d:4*N≤a.length) (c:k<N):(nums (a.take (4*N))).getD k default=gf (a.drop (4*k)):=by
 have b:(a.take (4*N)).length=4*N:=by rw [length_take];omega
 rw [ME (by rw [b];omega),List.drop_take,take_take,show min 4 (4*N - 4*k)=4 by omega]
 simp [gf]
set_option maxHeartbeats 4000000 in
theorem Tk (v:Value) (l:Bs) (W:World) (hv:BO b8 W v l):AK prog 15 [v] W (fun r w' =>Below W.heap.size W w' ∧V3 w' r l):=by
 have hle:=hv.le
 refine Az (n:=176) func15 O<|Ad<|Du Jh O ?_
 rintro V w eA_R m D zhB
 have zm:=D.size
 have s_v:=hv.bs D
 refine Ab O<|Bi<|Ac O<|Aa (Ap AL O ‹_›) O ?_
 refine Bz O<|Ak<|Aq O ?_ ?_
 ·intro g
  have g:l.length<4:=by have:=AC g;omega
  refine Ad<|Ez O<|Bv (C7 (cs:=[.slice none 0 0, .slice none 0 0]) (k:=2) (by kernel_rfl) O O O O m O) ?_
  rintro w9 ⟨b_R9,F, -⟩
  have X:=D.grown F (AA D) (by rintro _ ⟨⟩;omega)
  refine Ab O<|B2<|Di O O O ‹_› underlying27 O O O ?_
  exact ⟨X,H0 (by simp [IP,g]) (by simp [HY,g])⟩
 intro g
 have g:4≤l.length:=by have:=AD g;omega
 obtain ⟨n,s⟩:∃n,n=l.length - 4:=⟨_,rfl⟩
 have nE:IP l=if gf (l.drop n)≠Crc.of (l.take n) then 11 else if (DS (l.take n)).isSome then 0 else 4:=by rw [IP,if_neg (by omega),← s]
 have nR:HY l=if gf (l.drop n)≠Crc.of (l.take n) then none else DS (l.take n):=by rw [HY,if_neg (by omega),← s]
 have hnl:n≤l.length:=by omega
 have l4:4≤(l.drop n).length:=by rw [length_drop];omega
 refine Cs<|Ac O<|Aa (Ap AL O ‹_›) O ?_
 refine Aa ((D2 O O (by omega)).as (cngA (Value.int .i64) (show (l.length:Int) - 4=(n:Int) by omega))) O<|Ab O<|Be<|Ac O<|Ac O<|Aa (Ey (i:=n) AL O O s_v hnl) O<|Ai O O (JQ (cut v 1 n l.length) (l.drop n) w (BO.drop s_v hnl) l4) ?_
 rintro _ w2 ⟨rfl,hn2⟩
 replace D:=bt D hn2
 have m:=m.bs hn2
 have s_v:=s_v.bs hn2
 refine Ac O<|Aa (Bt (i:=0) O O) O<|Aa (Bt (i:=1) O O) O<|Ab O<|Ab O<|Bi<|Ac O<|Ac O<|Ac O<|Aa (El (j:=n) AL O O s_v hnl) O<|Ai O O (TV (cut v 1 0 n) (l.take n) w2 (BO.take s_v hnl)) ?_
 rintro _ w3 ⟨rfl,hn3⟩
 replace D:=bt D hn3
 have m:=m.bs hn3
 have s_v:=s_v.bs hn3
 clear hn2 hn3 l4
 refine Aa (Ge O O) O<|Ak<|Aq O ?_ ?_
 ·intro g2
  have g2:gf (l.drop n)≠Crc.of (l.take n):=by simpa using g2
  rw [if_pos g2] at nE nR
  refine Ad<|Ez O<|Bv (C7 (cs:=[.slice none 0 0, .slice none 0 0]) (k:=2) (by kernel_rfl) O O O O m O) ?_
  rintro w9 ⟨b_R9,F, -⟩
  have X:=D.grown F (AA D) (by rintro _ ⟨⟩;omega)
  refine Ab O<|B2<|Di O O O ‹_› underlying27 O O O ?_
  exact ⟨X,H0 nE nR⟩
 intro g2
 have g2:¬gf (l.drop n)≠Crc.of (l.take n):=by simpa using g2
 rw [if_neg g2] at nE nR
 have s_t:=BO.take s_v hnl
 have s_t0:=BO.take hv hnl
 obtain ⟨lt,hlt⟩:∃t,t=l.take n:=⟨_,rfl⟩
 rw [← hlt] at nE nR s_t s_t0
 refine Cs<|Ac O<|Ac O<|Aa (El (j:=n) AL O O s_v hnl) O<|Aa (C1 (vs:=[(0,cut v 1 0 n)]) (cs:=[cut v 1 0 n, .bool false]) O (Q1 _ s_t.one)) O ?_
 have y3:=AA D
 have yR:=BA m
 refine Bc (Xw.box (cs:=[cut v 1 0 n, .bool false]) O O) O ?_
 rintro _ w4 ⟨rfl,R,hn4,hz4⟩
 replace D:=bt D hn4
 have m:=m.bs hn4
 refine Ab O<|Be<|Du Jh O ?_
 rintro Z w5 eA_M Q hn5 zhn5
 have y4:=hn4.size
 have yA:=BA R
 replace D:=bt D hn5
 have m:=m.bs hn5
 have R:=R.bs hn5
 have z5:=hn5.size
 have L:Ld W w3.heap.size Z V:=⟨y3,by omega,by omega,by omega,by omega,by omega⟩
 have g0:N2 W w5 w3.heap.size (cut v 1 0 n) lt false:=⟨s_t0,D,y3,R⟩
 have h:Dt W w5 w3.heap.size Z V lt false [] (.slice none 0 0) [] (.slice none 0 0):=
  ⟨D,m,Q,⟨_,g0⟩,by rintro ⟨⟩,⟨rfl, .inl ⟨rfl,rfl⟩⟩,⟨rfl, .inl ⟨rfl,rfl⟩⟩,fun c I=>by (cases I),fun t ht=>by (cases ht)⟩
 obtain ⟨A,hA⟩:∃A,A=w3.heap.size:=⟨_,rfl⟩
 refine Bi<|Ac O<|Ai O O (IN W w5 w3.heap.size (cut v 1 0 n) lt false g0 (by rintro ⟨⟩)) ?_
 rintro _ w6 ⟨a,hz,b,l1,bad1,v1,rfl,g1,gb1,hf1,ht1⟩
 have h:=h.rd L a g1 gb1
 rw [← hA] at h L ⊢
 clear a hz g1 gb1 g0 R m Q hn4 hn5 s_t s_v
 have b255:=b.isLt
 obtain ⟨N,hN⟩:∃N,N=b.toNat:=⟨_,rfl⟩
 rw [← hN]
 refine Ab O<|Ak ?_
 refine Fm (St:=(Bs×Bool×List N5×Value)) (fun z=>[(2, .pointer (some ⟨V,0,none⟩)),(3, .int .i64 0),(7, .pointer (some ⟨A,0,none⟩)),(8, .pointer (some ⟨Z,0,none⟩))]) (fun z w' =>Dt W w' A Z V z.1 z.2.1 z.2.2.1 z.2.2.2 [] (.slice none 0 0)∧z.2.2.1.length≤255∧(z.2.1=false→ES lt=some (b,l1)∧CJ N l1=some (z.2.2.1.map pn,z.1))∧(z.2.1=true→DK lt=none)) ?_ ?_
 ·refine An ?_
  refine Bl (S:=(Nat×Bs×Bool×List N5×Value)) (fun z=>[(2, .pointer (some ⟨V,0,none⟩)),(3, .int .i64 0),(7, .pointer (some ⟨A,0,none⟩)),(8, .pointer (some ⟨Z,0,none⟩)),(9, .int .i64 ((N:Int) - (z.1:Int)))]) (fun z w' =>z.1≤N∧z.2.2.2.1.length=z.1∧Dt W w' A Z V z.2.1 z.2.2.1 z.2.2.2.1 z.2.2.2.2 [] (.slice none 0 0)∧(z.2.2.1=false→ES lt=some (b,l1)∧CJ N l1=(CJ (N - z.1) z.2.1).map (fun q=>(z.2.2.2.1.map pn++q.1,q.2)))∧(z.2.2.1=true→DK lt=none)) (fun z=>N - z.1) ((0,l1,bad1,[], .slice none 0 0)) ⟨rfl,rfl,rfl,rfl,rfl,trivial⟩ ?_ ?_
  ·exact ⟨Nat.zero_le _,rfl,h,fun e=>⟨(hf1 e).2,by simp⟩,fun e=>(ht1 e).elim (fun q=>by cases q) (fun q=>by rw [DK,q])⟩
  clear h hf1 ht1
  rintro ⟨k,M,bd,ls,vn⟩ w2 ⟨hk,hl,h,hf,ht⟩
  dsimp only at hk hl h hf ht ⊢
  obtain ⟨vq,gq⟩:=h.g
  have R:=gq.cell
  have LA:=L.a
  have LM:=L.m
  have LR:=L.r
  refine Ao<|Ad<|Ac O<|Aa (Dh O O) O<|Ac O ?_
  refine Cc 48 O ?_ ?_
  ·intro g
   have hk' :k<N:=by have:=AC g;omega
   refine Ag (dj:=48) O O<|Ac O<|Ag (dj:=48) O O<|Aa (Ax O) O<|Ag (dj:=48) O O<|Ba underlying114 O (NG _)<|Ag (dj:=48) O O<|Aa (Al (UM _) O ‹_› rfl) O ?_
   refine Ag (dj:=48) O O<|Aa (Co O) O<|B7 O<|Ak<|Aq O ?_ ?_
   ·intro g3
    have hbd:bd=false:=by simpa using g3
    obtain ⟨e1,hNe⟩:=hf hbd
    rw [show N - k=(N - (k+1))+1 by omega] at hNe
    refine Bw<|Ao<|An<|Ad<|Ac O<|Ai O O (IN W w2 A vq M bd gq h.gb) ?_
    rintro _ wa ⟨a,hz,kb,r1,d1,va,rfl,ga,gba,f1,t1⟩
    have h:=h.rd L a ga gba
    clear a hz R gq
    refine Aa (Ex.as (Dm Hc EX O) (cngA b8 (Vo kb))) O<|Aa (C1 (cs:=[b8 kb, .slice none 0 0, .slice none 0 0, .int .i64 0, .int .i64 0]) O (No kb)) O<|Cz (cs:=[b8 kb, .slice none 0 0, .slice none 0 0, .int .i64 0, .int .i64 0]) EJ O O O O (fun _=>rfl) (rfl) ?_
    rintro A_x wb eA_x G s zhn
    have nx:vn.ownBlock≠some A_x:=fun e=>by have:=(AB h.o _ e).2;omega
    have zx:W.heap.size≤A_x:=by have:=AA h.bel;omega
    have xA:A_x≠A:=by have:=BA ga.cell;omega
    have xM:A_x≠Z:=by have:=BA h.m;omega
    have xR:A_x≠V:=by have:=BA h.res;omega
    have h:=h.bs s
    have ga:=ga.bs s
    refine Be<|Ac O<|Ai O O (Pp W wb A va r1 d1 ga gba) ?_
    rintro x1 wc ⟨a,il,r2,d2,vb,k1,li,gb,gbb,f2,t2⟩
    have tA:∀b,some A=some b→∃cs,AP wb b LP cs:=fun b e=>by cases e;exact ⟨_,ga.cell⟩
    have zb:=AA h.bel
    have k1:=k1.mono zb
    have h:=h.rd L a gb gbb
    have G:=G.by a (fun e=>xA (Option.some.inj e))
    clear a ga tA
    refine Ba underlying79 O (AT _)<|Bv (C5 (u:=x1) (AT _) O O k1.slT.one' G (show 1<5 by decide)) ?_
    rintro wd ⟨o,a, -⟩
    have h:=h.ob a zx G (by decide) (by decide) (.inr nx) (.inl (by decide)) xA xM xR
    replace k1:=AH k1 a (fun b e=>by cases e;exact ⟨_,G⟩) (by decide)
    have gb:=gb.grow a (fun b e=>by cases e;exact ⟨zx,xA⟩)
    clear a G
    refine Be<|Ac O<|Ai O O (Pp W wd A vb r2 d2 gb gbb) ?_
    rintro x2 we ⟨a,sl,r3,d3,vc,k2,ls2,gc,gbc,f3,t3⟩
    have tA:∀b,some A=some b→∃cs,AP wd b LP cs:=fun b e=>by cases e;exact ⟨_,gb.cell⟩
    have zd:=AA h.bel
    have k2:=k2.mono zd
    replace k1:=AH k1 a tA (by decide)
    have h:=h.rd L a gc gbc
    have o:=o.by a (fun e=>xA (Option.some.inj e))
    clear a gb tA
    refine Ba underlying79 O (AT _)<|Bv (C5 (u:=x2) (AT _) O O k2.slT.one' o (show 2<5 by decide)) ?_
    rintro wf ⟨G,a, -⟩
    have h:=h.ob a zx o (by decide) (by decide) (.inr nx) (.inl (by decide)) xA xM xR
    replace k1:=AH k1 a (fun b e=>by cases e;exact ⟨_,o⟩) (by decide)
    replace k2:=AH k2 a (fun b e=>by cases e;exact ⟨_,o⟩) (by decide)
    have gc:=gc.grow a (fun b e=>by cases e;exact ⟨zx,xA⟩)
    clear a o
    refine Be<|Ac O<|Ai O O (IN W wf A vc r3 d3 gc gbc) ?_
    rintro _ wg ⟨a,hz,nb,r4,d4,vd,rfl,gd,gbd,f4,t4⟩
    have tA:∀b,some A=some b→∃cs,AP wf b LP cs:=fun b e=>by cases e;exact ⟨_,gc.cell⟩
    replace k1:=AH k1 a tA (by decide)
    replace k2:=AH k2 a tA (by decide)
    have h:=h.rd L a gd gbd
    have G:=G.by a (fun e=>xA (Option.some.inj e))
    clear a gc tA hz
    refine Ba underlying79 O (BC _)<|Bv (C5 (u:= .int .i64 (nb.toNat:Int)) (BC _) O O O G (show 3<5 by decide)) ?_
    rintro wh ⟨o,a, -⟩
    have h:=h.ob a zx G (by decide) (by decide) (.inr nx) (.inl (by decide)) xA xM xR
    replace k1:=AH k1 a (fun b e=>by cases e;exact ⟨_,G⟩) (by decide)
    replace k2:=AH k2 a (fun b e=>by cases e;exact ⟨_,G⟩) (by decide)
    have gd:=gd.grow a (fun b e=>by cases e;exact ⟨zx,xA⟩)
    clear a G
    refine Be<|Ac O<|Ai O O (IN W wh A vd r4 d4 gd gbd) ?_
    rintro _ wi ⟨a,hz,pb,r5,d5,ve,rfl,ge,gbe,f5,t5⟩
    have tA:∀b,some A=some b→∃cs,AP wh b LP cs:=fun b e=>by cases e;exact ⟨_,gd.cell⟩
    replace k1:=AH k1 a tA (by decide)
    replace k2:=AH k2 a tA (by decide)
    have h:=h.rd L a ge gbe
    have o:=o.by a (fun e=>xA (Option.some.inj e))
    clear a gd tA hz
    refine Ba underlying79 O (BC _)<|Bv (C5 (u:= .int .i64 (pb.toNat:Int)) (BC _) O O O o (show 4<5 by decide)) ?_
    rintro wj ⟨G,a, -⟩
    have h:=h.ob a zx o (by decide) (by decide) (.inr nx) (.inl (by decide)) xA xM xR
    replace k1:=AH k1 a (fun b e=>by cases e;exact ⟨_,o⟩) (by decide)
    replace k2:=AH k2 a (fun b e=>by cases e;exact ⟨_,o⟩) (by decide)
    clear a o ge
    obtain ⟨c,I⟩:∃c:N5,c=⟨kb,x1,x2,il,sl,(nb.toNat:Int),(pb.toNat:Int)⟩:=⟨_,rfl⟩
    replace G:AP wj A_x 79 c.cells:=by rw [I];exact G
    obtain ⟨rd1,rd2⟩:=PS hbd f1 t1 f2 t2 f3 t3 f4 t4 f5 t5
    replace rd1:d5=false→EB M=some (pn c,r5):=fun e=>by rw [rd1 e,I];rfl
    have kc:AQ wj W.heap.size 3 1 c.x c.i.length (c.i.map (Value.int .i64))∧AQ wj W.heap.size 3 1 c.y c.s.length (c.s.map (Value.int .i64)):=by rw [I];exact ⟨k1,k2⟩
    have oc:c.cells.all (·.oneCell')=true:=N5.at.ones (w:=wj) ⟨kc.1.slT,kc.2.slT⟩
    clear k1 k2 I f1 t1 f2 t2 f3 t3 f4 t4 f5 t5
    have Q:=h.m
    refine Ak<|Bn<|Ba underlying27 O (BX _)<|Ba underlying24 O (BU _)<|Aa (Al (CD _) O ‹_› rfl) O ?_
    refine Aa (Cx (k:=5) (EK _) (EH _) O O G) O<|Bc (D8 (cs:=c.cells) BE EJ O O (by decide) (by decide)) O ?_
    rintro p9 wk ⟨o_p, -,s, -⟩
    have h:=h.bs s
    replace kc:=And.intro (kc.1.bs s) (kc.2.bs s)
    have Q:=h.m
    have zf:=AA h.bel
    refine Bc (Cn (base:=W.heap.size) BE EJ O (by decide) O O h.o (AF o_p) oc (by omega) (by omega) zf) O ?_
    rintro y wl ⟨o_y, -,a, -⟩
    have b_M' :=G5 Q h.o a (by decide)
    refine Ba underlying27 O (BX _)<|Ba underlying24 O (BU _)<|Bv (C5 (u:=y) (BU _) O O (AF o_y).one' b_M' (show 0<2 by decide)) ?_
    rintro wm ⟨b_M2,hg2, -⟩
    have h:=Dt.node L h kc o_y a hg2 b_M2
    have inv1:d5=false→ES lt=some (b,l1)∧CJ N l1=(CJ (N - (k+1)) r5).map (fun q=>((ls++[c]).map pn++q.1,q.2)):=fun e=>⟨e1,by rw [Jd hNe (rd1 e),map_append];rfl⟩
    have inv2:d5=true→DK lt=none:=fun e=>by rw [DK,e1];simp only;rw [← hN,Lb hNe (rd2 e)]
    refine Bd<|Bg<|B6<|Ac O<|Aa (D2 O O (by omega)) O<|Ab O<|Bd ?_
    exact Ar (Bp ((k+1,r5,d5,ls++[c],y)) ⟨rfl,rfl,rfl,rfl,(cngA (fun z=>some (Value.int .i64 z)) (by omega)),trivial⟩ (⟨hk',by simp [hl],h,inv1,inv2⟩) (by simp only;omega))
   intro g3
   have hbd:bd=true:=by simpa using g3
   refine Bk<|Aj<|Aj<|A0 ?_
   exact Df ((M,bd,ls,vn)) ⟨rfl,rfl,rfl,rfl,trivial⟩ (⟨h,(show ls.length≤255 by omega),fun e=>by (rw [hbd] at e;cases e),ht⟩)
  intro g
  have hk' :k=N:=by have:=AD g;omega
  have fin1:bd=false→ES lt=some (b,l1)∧CJ N l1=some (ls.map pn,M):=fun e=>by
   obtain ⟨q1,q2⟩:=hf e
   refine ⟨q1, ?_⟩
   rw [q2,hk',Nat.sub_self]
   simp [CJ]
  exact Ae (dj:=48) rfl rfl rfl rfl<|Ae (dj:=48) rfl rfl rfl rfl<|Ae (dj:=48) rfl rfl rfl rfl<|Ae (dj:=48) rfl rfl rfl rfl<|Ae (dj:=48) rfl rfl rfl rfl<|Ci rfl<|Ak<|D5 rfl<|Bk<|Aj<|Aj<|A0<|Df ((M,bd,ls,vn)) ⟨rfl,rfl,rfl,rfl,trivial⟩ (⟨h,(show ls.length≤255 by omega),fin1,ht⟩)
 clear h hf1 ht1
 rintro ⟨M,bd,ls,vn⟩ w2 ⟨h,hl,hf,ht⟩
 replace h:Dt W w2 A Z V M bd ls vn [] (.slice none 0 0):=h
 replace hl:ls.length≤255:=hl
 replace hf:bd=false→ES lt=some (b,l1)∧CJ N l1=some (ls.map pn,M):=hf
 replace ht:bd=true→DK lt=none:=ht
 have m:=h.res
 have D:=h.bel
 obtain ⟨vq,gq⟩:=h.g
 have R:=gq.cell
 refine B9<|Ao<|Ad<|Ac O<|Aa (Ax O) O<|Ba underlying114 O (NG _)<|Aa (Al (UM _) O ‹_› rfl) O ?_
 refine Ac O ?_
 refine Cc 85 O ?_ ?_
 ·intro g
  have eN:DS lt=none:=by rw [DS,ht g]
  refine Ae (dj:=85) O O O O<|Ae (dj:=85) O O O O<|Ae (dj:=85) O O O O<|Ae (dj:=85) O O O O<|B7 O<|Ak<|Ca O<|Ad<|Ez O<|Bv (C7 (cs:=[.slice none 0 0, .slice none 0 0]) (k:=2) (by kernel_rfl) O O O O m O) ?_
  rintro w9 ⟨b_R9,F, -⟩
  have X:=D.grown F (AA D) (by rintro _ ⟨⟩;omega)
  refine Ab O<|B2<|Di O O O ‹_› underlying27 O O O ?_
  exact ⟨X,H0 (by rw [nE,eN];rfl) (by rw [nR,eN])⟩
 intro g
 obtain ⟨e1,e2⟩:=hf g
 clear hf ht
 have h_g:=h.gn
 have Q:=h.m
 rw [hN] at e2
 refine Ag (dj:=85) O O<|Ba underlying27 O (BX _)<|Ag (dj:=85) O O<|Aa (D3 (ds:=[vn]) (Gx _) (BX _) O O ‹_› rfl) O ?_
 refine Ag (dj:=85) O O<|Ai O O (Pd vn ls w2 h_g) ?_
 rintro _ w3 ⟨rfl,s⟩
 have h:=h.bs s
 have h_g:=h_g.bs s
 have m:=m.bs s
 have Q:=Q.bs s
 replace D:=bt D s
 clear s R gq
 refine Ag (dj:=85) O O<|Aa (Co O) O<|Ci O<|Ak<|Aq O ?_ ?_
 ·intro g3
  have eN:=TL e1 e2 (by simpa using g3)
  refine Ad<|Ez O<|Bv (C7 (cs:=[.slice none 0 0, .slice none 0 0]) (k:=2) (by kernel_rfl) O O O O m O) ?_
  rintro w9 ⟨b_R9,F, -⟩
  have X:=D.grown F (AA D) (by rintro _ ⟨⟩;omega)
  refine Ab O<|B2<|Di O O O ‹_› underlying27 O O O ?_
  exact ⟨X,H0 (by rw [nE,eN];rfl) (by rw [nR,eN])⟩
 intro g3
 have hG:(GL ls).isSome=true:=by simpa using g3
 have b_S:=fun ws r=>Q2 (ws:=ws) (r:=r) e1 e2 hG
 have b_N:=Q3 e1 e2
 rw [Ie] at b_S b_N
 obtain ⟨J,hJ⟩:∃J,J=(F2 ls).map (·.s):=⟨_,rfl⟩
 rw [← hJ] at b_S b_N
 have lJ:J.length=(CP ls).length:=by rw [hJ,length_map,← IC,length_map]
 have lJ2:J.length≤ls.length:=by rw [hJ,length_map];exact length_filter_le ..
 clear e1 e2
 refine Cs<|Ba underlying27 O (BX _)<|Aa (D3 (ds:=[vn]) (Gx _) (BX _) O O ‹_› rfl) O ?_
 refine Ai O O (JN vn ls w3 h_g (by omega)) ?_
 rintro wl w4 ⟨s,C⟩
 have z3:=AA D
 have C:=C.mono z3
 have h:=h.bs s
 subst g
 clear s m Q D h_g z3
 refine Ab O<|Bi<|Ab O<|Ak<|An ?_
 refine Bl (S:=(Nat×Bs×List T4×Value)) (fun z=>[(2, .pointer (some ⟨V,0,none⟩)),(3, .int .i64 0),(7, .pointer (some ⟨A,0,none⟩)),(8, .pointer (some ⟨Z,0,none⟩)),(11,wl),(12, .int .i64 (z.1:Int))]) (fun z w' =>z.1≤J.length∧z.2.2.1.length=z.1∧EV J M=(EV (J.drop z.1) z.2.1).map (fun q=>(z.2.2.1.map pv++q.1,q.2))∧Dt W w' A Z V z.2.1 false ls vn z.2.2.1 z.2.2.2∧AQ w' W.heap.size 3 1 wl (CP ls).length ((CP ls).map (Value.int .i64))) (fun z=>J.length - z.1) ((0,M,[], .slice none 0 0)) ⟨rfl,rfl,rfl,rfl,rfl,rfl,trivial⟩ ?_ ?_
 ·exact ⟨Nat.zero_le _,rfl,by simp,h,C⟩
 clear h C
 rintro ⟨j,T,ts,vw⟩ wx ⟨hj,hlt,hNw,h,C⟩
 dsimp only at hj hlt hNw h C ⊢
 have s_w:=C.slT
 have m:=h.res
 have Q:=h.m
 have D:=h.bel
 obtain ⟨vq,gq⟩:=h.g
 have R:=gq.cell
 refine Ao<|Ad<|Ac O<|Ac O<|Aa (Ap AE O ‹_›) O ?_
 refine Bz O<|Ak<|Aq O ?_ ?_
 ·intro g4
  have hj' :j<(CP ls).length:=by have:=AC g4;omega
  obtain ⟨i',hi2,ej,h2,eF⟩:=Lt hj'
  obtain ⟨x,hx⟩:∃x,x=ls[i']:=⟨_,rfl⟩
  have hxg:ls.getD i' default=x:=by rw [getD_eq_getElem?_getD,getElem?_eq_getElem hi2,hx];rfl
  have hJx:J[j]? =some x.s:=by rw [hJ,getElem?_map,getElem?_eq_getElem h2,eF,hxg];rfl
  have hok:Shapes.ok x.s=true:=TC hG (by rw [← hxg,← eF];exact getElem_mem h2)
  rw [drop_eq_getElem_cons (show j<J.length by omega),(List.getElem?_eq_some_iff.1 hJx).2] at hNw
  have h_g:=h.gn
  have had:=h_g.ad hi2
  have hck:=(h_g.cell hi2).2
  rw [← hx] at hck
  have hxs:=(h_g.each x (hx ▸ getElem_mem hi2)).s
  have sv:=h_g.sl
  have zW:=AA D
  obtain ⟨Nn,hNn⟩:∃N,N=(Shapes.size x.s).toNat:=⟨_,rfl⟩
  have sz:=Shapes.size_le x.s
  obtain ⟨zl,hzl⟩:∃z,z=replicate (Shapes.size x.s).toNat 0#32:=⟨_,rfl⟩
  have lz:zl.length=Nn:=by rw [hzl,length_replicate,hNn]
  refine Bw<|Ao<|An<|Ao ?_
  refine Fm (St:=(Nat×Value×Value)) (fun z=>[(2, .pointer (some ⟨V,0,none⟩)),(3, .int .i64 0),(7, .pointer (some ⟨A,0,none⟩)),(8, .pointer (some ⟨Z,0,none⟩)),(11,wl),(12, .int .i64 (j:Int)),(13, .pointer (some ⟨z.1,0,none⟩))]) (fun z w' =>Below wx.heap.size wx w' ∧wx.heap.size≤z.1∧AP w' z.1 75 [z.2.1,z.2.2]∧AQ w' wx.heap.size 3 1 z.2.1 x.s.length (x.s.map (Value.int .i64))∧w'.ownsRow wx.heap.size 21 1 z.2.2 zl.length (zl.map i32)) ?_ ?_
  ·refine Cw.any BB (fun w B _=> ?_)
   refine Dg (fun y=>Below wx.heap.size wx y) (fun B=> ?_) (B)
   refine Cf Dc<|Af 0 O (fun H I=>B8 underlying27 O (BX _)) O<|Af 1 O (fun H I=>B8 underlying24 O (BU _)) O<|Af 2 O (fun H I=>Al (CD _) O (AP.bs ‹_› I) O) O<|Af 3 O (fun H I=>B4 O) O<|Af 4 O (fun H I=>B4 O) O<|Af 5 O (fun H I=>Bh AE O O (s_w.bs I) j O hj') O<|Af 6 O (fun H I=>Ex.as (Bo (AO _) O (s_w.bs I) hj') (cngA (Value.int .i64) ej)) O<|Af 7 O (fun H I=>Cl BE O O (sv.bs I) i' O hi2) O<|Af 8 O (fun H I=>C9 (q:=0) underlying79 O (AT _) O had) O<|Af 9 O (fun H I=>Ea (AN _) O (sv.bs I) hck) O<|B5 ?_
   refine Fo ‹_› (i:=10) (j:=14) (by kernel_rfl) O O ?_ ?_
   have zc:=B.size
   refine Ai O O (M3 x.y x.s _ (hxs.bs B) hok) ?_
   rintro _ w ⟨s,tx,ty,rfl,hm⟩
   rw [← hzl] at hm
   have f:=hm.row.mono zc
   have d:=BY hm.own zc
   have zz:=s.size
   have B:=B.bs s
   clear s hm zc
   refine AR.back<|Cf Dc<|Af 11 O (fun H I=>B4 O) O<|Af 12 O (fun H I=>Bt (i:=0) O O) O<|Af 13 O (fun H I=>Bt (i:=1) O O) O<|B5<|AR.only ‹_› (i:=14) (by kernel_rfl) O ?_
   have zc:=B.size
   refine Du EC O ?_
   rintro Y w eA_t p s -
   have B:=B.bs s
   have f:=f.bs s
   have d:=d.bs s
   refine AR.back<|AR.only ‹_› (i:=15) (by kernel_rfl) O ?_
   have yt:wx.heap.size≤Y:=by omega
   clear zc
   have oneT:[tx,ty].all (·.oneCell')=true:=by simp [f.slT.one',(BD d).one']
   refine Bv (C7 (cs:=[tx,ty]) (k:=2) (by kernel_rfl) O O O oneT p O) ?_
   rintro w' ⟨b_t',a,hz⟩
   have tT:∀b,some Y=some b→∃cs,AP _ b 75 cs:=fun b e=>by cases e;exact ⟨_,p⟩
   have hC' :=B.grown a B.size (by rintro _ e;have:=Option.some.inj e;omega)
   have ktx' :=AH f a tT (by decide)
   have K:=CA d a tT (by decide)
   refine AR.back<|Cf Dc<|Af 16 O (fun H I=>Ce O) O<|B5<|Cq ‹_› (by kernel_rfl) ?_
   exact Df ((Y,tx,ty)) ⟨rfl,rfl,rfl,rfl,rfl,rfl,rfl,trivial⟩ (⟨hC',yt,b_t',ktx',K⟩)
   have zc:=B.size
   refine Du EC O ?_
   rintro Y w eA_t p s -
   have B:=B.bs s
   refine AR.back<|AR.only ‹_› (i:=10) (by kernel_rfl) O ?_
   have yt:wx.heap.size≤Y:=by omega
   clear zc
   have zc:=B.size
   refine Ai O O (M3 x.y x.s _ (hxs.bs B) hok) ?_
   rintro _ w ⟨s,tx,ty,rfl,hm⟩
   rw [← hzl] at hm
   have f:=hm.row.mono zc
   have d:=BY hm.own zc
   have zz:=s.size
   have B:=B.bs s
   have p:=p.bs s
   clear s hm zc
   refine AR.back<|Cf Dc<|Af 11 O (fun H I=>B4 O) O<|Af 12 O (fun H I=>Bt (i:=0) O O) O<|Af 13 O (fun H I=>Bt (i:=1) O O) O<|B5<|AR.only ‹_› (i:=15) (by kernel_rfl) O ?_
   have oneT:[tx,ty].all (·.oneCell')=true:=by simp [f.slT.one',(BD d).one']
   refine Bv (C7 (cs:=[tx,ty]) (k:=2) (by kernel_rfl) O O O oneT p O) ?_
   rintro w' ⟨b_t',a,hz⟩
   have tT:∀b,some Y=some b→∃cs,AP _ b 75 cs:=fun b e=>by cases e;exact ⟨_,p⟩
   have hC' :=B.grown a B.size (by rintro _ e;have:=Option.some.inj e;omega)
   have ktx' :=AH f a tT (by decide)
   have K:=CA d a tT (by decide)
   refine AR.back<|Cf Dc<|Af 16 O (fun H I=>Ce O) O<|B5<|Cq ‹_› (by kernel_rfl) ?_
   exact Df ((Y,tx,ty)) ⟨rfl,rfl,rfl,rfl,rfl,rfl,rfl,trivial⟩ (⟨hC',yt,b_t',ktx',K⟩)
  rintro ⟨Y,tx,ty⟩ wy ⟨B,zt,p,f,d⟩
  replace B:Below wx.heap.size wx wy:=B
  replace zt:wx.heap.size≤Y:=zt
  replace p:AP wy Y 75 [tx,ty]:=p
  replace f:AQ wy wx.heap.size 3 1 tx x.s.length (x.s.map (Value.int .i64)):=f
  replace d:wy.ownsRow wx.heap.size 21 1 ty zl.length (zl.map i32):=d
  refine B9 ?_
  have h_c:=gq.sl.bs (bt D B)
  have U:=R.bs B
  have s_ty:=(AF d)
  refine Ao<|Ao<|Da BB (by kernel_rfl)<|Bq O<|Ah (fun H E=>Ax O) O<|Ah (fun H E=>B8 underlying114 O (DG _)) O<|Ah (fun H E=>Al (DM _) O (AP.bs ‹_› E) O) O ?_
  refine Ah (fun H E=>Ap AL O (Sl.bs ‹_› E)) O ?_
  refine Ah (fun H E=>B8 underlying75 O (CW _)) O<|Ah (fun H E=>Al (DC _) O (AP.bs ‹_› E) O) O ?_
  refine Ah (fun H E=>Ap BP O (Sl.bs ‹_› E)) O ?_
  refine Ah (fun H E=>Dv O O (by omega)) O<|Ah (fun H E=>Er O O) O ?_
  refine C2 (fun wz E=> ?_)
  refine Ar<|B9 ?_
  replace B:=bt B E
  have p:=p.bs E
  have f:=f.bs E
  replace d:=AI d E
  clear s_ty U h_c E
  refine Aq O ?_ ?_
  ·intro g5
   have g5:T.length<4*Nn:=by have:=AC g5;omega
   have eN:DS lt=none:=b_N (OV hNw (JB (.inr (by omega))))
   have m:=m.bs B
   have D:=bt D B
   refine Ad<|Ez O<|Bv (C7 (cs:=[.slice none 0 0, .slice none 0 0]) (k:=2) (by kernel_rfl) O O O O m O) ?_
   rintro w9 ⟨b_R9,F, -⟩
   have X:=D.grown F (AA D) (by rintro _ ⟨⟩;omega)
   refine Ab O<|B2<|Bj<|Av<|Av<|Bj<|Av<|Di O O O ‹_› underlying27 O O O ?_
   exact ⟨X,H0 (by rw [nE,eN];rfl) (by rw [nR,eN])⟩
  intro g5
  have g5:4*Nn≤T.length:=by have:=AD g5;omega
  have hw:=Mm hok (show 4*(Shapes.size x.s).toNat≤T.length by omega)
  rw [← hNn] at hw
  obtain ⟨L2,hL2⟩:∃t,t=nums (T.take (4*Nn)):=⟨_,rfl⟩
  have lL2:L2.length=Nn:=by rw [hL2];exact JT _ _ (by rw [length_take];omega)
  rw [← hL2] at hw
  have lz2:L2.length=zl.length:=by omega
  have hq5:=gq.sl.le
  refine Bw<|Ao<|Ad<|Ab O<|Ak<|An ?_
  refine Bl (S:=Nat) (fun k=>[(2, .pointer (some ⟨V,0,none⟩)),(3, .int .i64 0),(7, .pointer (some ⟨A,0,none⟩)),(8, .pointer (some ⟨Z,0,none⟩)),(11,wl),(12, .int .i64 (j:Int)),(13, .pointer (some ⟨Y,0,none⟩)),(15, .int .i64 (k:Int))]) (fun k w' =>k≤Nn∧Below wx.heap.size wx w' ∧AP w' Y 75 [tx,ty]∧AQ w' wx.heap.size 3 1 tx x.s.length (x.s.map (Value.int .i64))∧w'.ownsRow wx.heap.size 21 1 ty L2.length ((L2.take k++zl.drop k).map i32)) (fun k=>Nn - k) (0) ⟨rfl,rfl,rfl,rfl,rfl,rfl,rfl,rfl,trivial⟩ ?_ ?_
  ·exact ⟨Nat.zero_le _,B,p,f,by rw [L4,lz2];exact d⟩
  clear B p f d
  rintro k w5 ⟨hk,B,p,f,d⟩
  have U:=R.bs B
  have h_c:=gq.sl.bs (bt D B)
  have s_ty:=AF d
  refine Ao<|Ad<|Ac O<|Ba underlying75 O (CW _)<|Aa (Al (DC _) O ‹_› rfl) O ?_
  refine Aa (Ap BP O ‹_›) O ?_
  refine Bz O<|Ak<|Aq O ?_ ?_
  ·intro g6
   have hk' :k<Nn:=by have:=AC g6;omega
   have hk4:4*k≤T.length:=by omega
   have en:=To g5 hk'
   rw [← hL2] at en
   refine Bw<|Ao<|An<|Ad<|Ac O<|Aa (Ax O) O<|Ba underlying114 O (DG _)<|Aa (Al (DM _) O ‹_› rfl) O ?_
   refine Ac O<|Aa ((Dv O O (by omega)).as (cngA (Value.int .i64) (show 4*(k:Int)=((4*k:Nat):Int) by omega))) O<|Aa (Ey (i:=4*k) AL O O h_c hk4) O<|Ai O O (JQ (cut vq 1 (4*k) T.length) (T.drop (4*k)) w5 (BO.drop h_c hk4) (by rw [length_drop];omega)) ?_
   rintro _ w6 ⟨rfl,s⟩
   rw [← en]
   replace B:=bt B s
   have p:=p.bs s
   have f:=f.bs s
   replace d:=AI d s
   have s_ty:=AF d
   clear s U h_c
   refine Ac O<|Aa (Bt (i:=0) O O) O<|Aa (Bt (i:=1) O O) O<|Ab O<|Ab O<|Ak<|Bn<|Ba underlying75 O (CW _)<|Aa (Al (DC _) O ‹_› rfl) O ?_
   refine Ac O<|Ac O<|Aa (E7 Ih KS O) O<|Aa (Dn BP O O s_ty.shp k O (by omega)) O<|Bv (Et (QY _) O O O d (by simp;omega)) ?_
   rintro w7 ⟨oty7,a, -⟩
   rw [← map_set,ND lz2 (by omega)] at oty7
   have b_t7:=G5 p d a (by decide)
   have ktx7:=AH f a (fun b e=>AQ.ty (.inl d) e) (by decide)
   have hC7:=B.grown a B.size fun b e=>(AB d b e).1
   refine Bd<|Bg<|B6<|Ac O<|B1 O (by omega)<|Ab O<|Bd ?_
   exact Ar (Bp (k+1) ⟨rfl,rfl,rfl,rfl,rfl,rfl,rfl,rfl,trivial⟩ (⟨hk',hC7,b_t7,ktx7,oty7⟩) (by omega))
  intro g6
  have hk' :k=L2.length:=by have:=AD g6;omega
  subst hk'
  rw [lz2,NF lz2,← lz2] at d
  have h:=h.bs B
  have C:=C.bs B
  have f:=f.mono zW
  have K:=BY d zW
  have tA:Y≠A:=by have:=BA R;omega
  have U:=R.bs B
  have h_c:=gq.sl.bs (bt D B)
  have s_ty:=AF d
  have oneT:[tx,ty].all (·.oneCell')=true:=by simp [f.slT.one',s_ty.one']
  clear R m Q s_w sv hxs h_g B
  refine Bk<|Aj<|Aj<|A0<|Ar<|B9<|Ao<|Cw.tail 12 BB (by kernel_rfl)<|Bq O<|Bq O<|Ah (fun H E=>Ax O) O<|Ah (fun H E=>B8 underlying114 O (DG _)) O<|Ah (fun H E=>Al (DM _) O (AP.bs ‹_› E) O) O ?_
  refine Ah (fun H E=>B8 underlying75 O (CW _)) O<|Ah (fun H E=>Al (DC _) O (AP.bs ‹_› E) O) O ?_
  refine Ah (fun H E=>Ap BP O (Sl.bs ‹_› E)) O ?_
  refine Ah (fun H E=>(Dv O O (by omega)).as (cngA (Value.int .i64) (show 4*(L2.length:Int)=((4*Nn:Nat):Int) by omega))) O<|Ah (fun H E=>Ey (i:=4*Nn) AL O O (h_c.bs E) g5) O<|Ah (fun H E=>Ax O) O<|Ah (fun H E=>B8 underlying114 O (DG _)) O ?_
  refine D0 (fun w6 E=> ?_)
  have h:=h.bs E
  have C:=C.bs E
  have f:=f.bs E
  replace K:=AI K E
  have p:=p.bs E
  have U:=U.bs E
  clear E s_ty h_c d
  refine Bv (C5 (u:=cut vq 1 (4*Nn) T.length) (DG _) O O (BO.drop gq.sl g5).one' U (show 0<2 by decide)) ?_
  rintro w7 ⟨b_A7,a, -⟩
  have tg:∀b,some A=some b→∃cs,AP w6 b LP cs:=fun b e=>by cases e;exact ⟨_,U⟩
  have hB7:=h.bel.grown a (AA h.bel) (fun b e=>by cases e;exact L.a)
  have h:=h.rd L a (⟨BO.drop gq.sl g5,hB7,L.a,b_A7⟩:N2 W w7 A (cut vq 1 (4*Nn) T.length) (T.drop (4*Nn)) false) (by rintro ⟨⟩)
  replace C:=AH C a tg (by decide)
  replace f:=AH f a tg (by decide)
  replace K:=CA K a tg (by decide)
  have p:=p.by a (fun e=>tA (Option.some.inj e))
  clear a tg U b_A7
  have Q:=h.m
  refine Ak<|Bn<|Ba underlying27 O (CF _)<|Aa (Al (DD _) O ‹_› rfl) O ?_
  refine Aa (Cx (k:=2) (FZ _) (FX _) O O p) O<|Bc (D8 (cs:=[tx,ty]) BK EC O O (by decide) (by decide)) O ?_
  rintro p9 we ⟨o_p, -,s, -⟩
  have h:=h.bs s
  have C:=C.bs s
  have f:=f.bs s
  replace K:=AI K s
  have Q:=h.m
  have ze:=AA h.bel
  refine Bc (Cn (base:=W.heap.size) BK EC O (by decide) O O h.u (AF o_p) oneT (by omega) (by omega) ze) O ?_
  rintro yv wf ⟨o_v, -,a, -⟩
  have b_M' :=G5 Q h.u a (by decide)
  replace C:=AH C a (fun b e=>AQ.ty (.inl h.u) e) (by decide)
  refine Ba underlying27 O (CF _)<|Bv (C5 (u:=yv) (CF _) O O (AF o_v).one' b_M' (show 1<2 by decide)) ?_
  rintro wg ⟨b_M2,hg2, -⟩
  replace C:=AH C hg2 (fun b e=>by cases e;exact ⟨_,b_M'⟩) (by decide)
  have h:=Dt.tens (c:=⟨tx,ty,x.s,L2⟩) L h ⟨f, .inl K⟩ o_v a hg2 b_M2
  refine Bd<|Bg<|B6<|Ac O<|B1 O (by omega)<|Ab O<|Bd ?_
  exact Ar (Bp ((j+1,T.drop (4*Nn),ts++[⟨tx,ty,x.s,L2⟩],yv)) ⟨rfl,rfl,rfl,rfl,rfl,rfl,trivial⟩ (⟨by omega,by rw [length_append,hlt];rfl,by rw [KQ hNw hw,map_append];rfl,h,C⟩) (by simp only;omega))
 intro g4
 have hj' :j=J.length:=by have:=AD g4;omega
 rw [hj',drop_length] at hNw
 have hb:=b_S (ts.map pv) T (by rw [hNw];simp [EV])
 have s_c:=gq.sl.bs D
 refine Bk<|Aj<|Aj<|A0<|Ar<|B9<|Ao<|Ad<|Ac O<|Aa (Ax O) O<|Ba underlying114 O (DG _)<|Aa (Al (DM _) O ‹_› rfl) O ?_
 refine Aa (Ap AL O ‹_›) O ?_
 refine Aa (Dh O O) O<|Ak<|Aq O ?_ ?_
 ·intro g5
  have g5:¬T=[]:=fun e=>by rw [e] at g5;simp at g5
  have eN:DS lt=none:=by rw [hb,if_neg g5]
  refine Ad<|Ez O<|Bv (C7 (cs:=[.slice none 0 0, .slice none 0 0]) (k:=2) (by kernel_rfl) O O O O m O) ?_
  rintro w9 ⟨b_R9,F, -⟩
  have X:=D.grown F (AA D) (by rintro _ ⟨⟩;omega)
  refine Ab O<|B2<|Di O O O ‹_› underlying27 O O O ?_
  exact ⟨X,H0 (by rw [nE,eN];rfl) (by rw [nR,eN])⟩
 intro g5
 have g5:T=[]:=eq_nil_of_length_eq_zero (by have:=AD g5;omega)
 rw [if_pos g5] at hb
 have oneM:[vn,vw].all (·.oneCell')=true:=by simp [(AF h.o).one',(AF h.u).one']
 refine Cs<|Aa (Cx (k:=2) (DX _) (DW _) O O Q) O<|Bv (C7 (cs:=[vn,vw]) (k:=2) (by kernel_rfl) O O O oneM m O) ?_
 rintro w9 ⟨b_R9,F, -⟩
 have tM:∀b,some V=some b→∃cs,AP wx b 27 cs:=fun b e=>by cases e;exact ⟨_,m⟩
 have X:=D.grown F (AA D) (by rintro _ ⟨⟩;omega)
 have o9:=CA h.o F tM (by decide)
 have u9:=CA h.u F tM (by decide)
 refine Ab O<|Ay<|Di O O O ‹_› underlying27 O O O ?_
 exact ⟨X,vn,vw,ls,ts,by rw [nE,hb];rfl,by rw [nR,hb];rfl,⟨AF o9,fun c I=>⟨(AH (h.en c I).1 F tM (by decide)).slT,(AH (h.en c I).2 F tM (by decide)).slT⟩⟩,⟨AF u9,fun c I=>⟨(AH (h.et c I).1 F tM (by decide)).slT,(AH (h.et c I).2 F tM (by decide)).slT⟩⟩⟩
end Go.Proofs.YtblbopcaflaldaaGreatDoor

namespace Go.Proofs.YtblbopcaflaldaaGreatDoor
open Go Go.Dd Go.RowKit Go.ChangeShapes Go.WideShapes List Go.Proofs.Tryz
set_option maxRecDepth 100000
theorem NK.kin {w:World} {i j:Nat} {a:N5} (h:NK w i j a) {n:Int} (o:0≤n) (m:n+2≤4000000) (g:a.i.length≤16777216) (hs:a.s.length≤16777216):FV w i j 3 1 [BS a.x a.i.length (a.i.map (Value.int .i64)) (n+1),BS a.y a.s.length (a.s.map (Value.int .i64)) (n+2)]:=by
 have d:=FV.one (n:=n+1) h.rx (fun b e=>(h.bx b e).2) (by omega) (by omega) g
 have f:=FV.one (n:=n+2) h.ry (fun b e=>(h.by' b e).2) (by omega) (by omega) hs
 refine ⟨⟨⟨?_, ?_,List.Pairwise.cons ?_ (pairwise_singleton _ _), ?_⟩, ?_⟩, ?_⟩
 ·intro z c
  rcases List.mem_cons.1 c with rfl|c
  ·exact d.kept.num _ (List.mem_singleton.2 rfl)
  ·exact f.kept.num _ c
 ·intro z c
  rcases List.mem_cons.1 c with rfl|c
  ·exact d.kept.few _ (List.mem_singleton.2 rfl)
  ·exact f.kept.few _ c
 ·intro z c
  rw [List.mem_singleton.1 c]
  exact fun b k l=>h.apart b k l
 ·intro z c
  rcases List.mem_cons.1 c with rfl|c
  ·rfl
  ·rw [List.mem_singleton.1 c]
 ·intro z c
  rcases List.mem_cons.1 c with rfl|c
  ·exact d.kept.own _ (List.mem_singleton.2 rfl)
  ·exact f.kept.own _ c
 ·rintro b ⟨z,c,e⟩
  rcases List.mem_cons.1 c with rfl|c
  ·exact (h.bx b e).2
  ·rw [List.mem_singleton.1 c] at e
   exact (h.by' b e).2
theorem IV.kin:∀{w:World} {cs:List N5} {base a:Nat} (_:IV w base a cs) {n:Int},0≤n→n+2*cs.length≤4000000→(∀c ∈ cs,c.i.length≤16777216∧c.s.length≤16777216)→FV w base a 3 1 (Nz n cs)
 |_,[],_,_,_,_,_,_,_=>Fp _ _ _ _ _
 |w,c::cs,base,a,⟨lo,hi,h1,h2,h3,h4⟩,n,n0,n1,hk=>by
  simp only [length_cons] at n1
  have f:=h4.kin (n:=n+2) (by omega) (by omega) fun d e=>hk d (by simp [e])
  have b:=hk c (by simp)
  have:=h4.le
  exact ((h3.kin (n:=n) n0 (by omega) b.1 b.2).app f (by omega) (AU _) (by omega)).wide h1 (AU _)
theorem Ny.bs {w b:World} {c d:Nat} {v u:Value} {ls:List N5} {ts:List T4} (h:Ny w c d v u ls ts) (g:Below w.heap.size w b):Ny b c d v u ls ts:=by
 obtain ⟨⟨a,i,e⟩,j,f⟩:=h
 exact ⟨⟨a,i.bs g,e.bs g⟩,j.bs g,f.bs g⟩
structure TS (w:World) (a d:Nat) (n:Int) (v u:Value) (ls:List N5) (ts:List T4):Prop where
 ki:FV w a d 3 1 (Nz n ls++Po (n+2*ls.length+1) ts)
 kn:FV w a d 21 1 (Pn (n+2*ls.length+1) ts)
 kt:FV w a d 75 2 [BS u ts.length (cellsOf ts) (n+2*ls.length+1+2*ts.length+1)]
 kd:FV w a d 79 5 [BS v ls.length (GI N5.cells ls) (n+2*ls.length+1)]
 gn:GN w v ls
 tn:EM w u ts
 vl:∀b,v.ownBlock=some b→b<d
 ul:∀b,u.ownBlock=some b→b<d
 lsl:∀t ∈ ls,t.low d
 tsl:∀t ∈ ts,t.low d
theorem TS.below {w c:World} {a d B:Nat} {n:Int} {v u:Value} {ls:List N5} {ts:List T4} (h:TS w a d n v u ls ts) (g:Below B w c) (e:d≤B):TS c a d n v u ls ts:=
 have b:Below d w c:=g.mono e
 ⟨h.ki.below b (AU _),h.kn.below b (AU _),h.kt.below b (AU _),h.kd.below b (AU _),Sc h.gn h.vl h.lsl b,JG h.tn h.ul h.tsl b,h.vl,h.ul,h.lsl,h.tsl⟩
theorem PX {t:N5} {a b:Nat} (h:t.low a) (c:a≤b):t.low b:=⟨fun k e=>by have:=h.1 k e;omega,fun k e=>by have:=h.2 k e;omega⟩
theorem PY {t:T4} {a b:Nat} (h:t.low a) (c:a≤b):t.low b:=⟨fun k e=>by have:=h.1 k e;omega,fun k e=>by have:=h.2 k e;omega⟩
theorem TS.wide {w:World} {a d g i:Nat} {n:Int} {v u:Value} {ls:List N5} {ts:List T4} (h:TS w a d n v u ls ts) (f:g≤a) (c:d≤i):TS w g i n v u ls ts:=
 ⟨h.ki.wide f c,h.kn.wide f c,h.kt.wide f c,h.kd.wide f c,h.gn,h.tn,fun b e=>by have:=h.vl b e;omega,fun b e=>by have:=h.ul b e;omega,fun t m=>PX (h.lsl t m) c,fun t m=>PY (h.tsl t m) c⟩
theorem Ny.inB {w:World} {f d:Nat} {v u:Value} {ls:List N5} {ts:List T4} (h:Ny w f d v u ls ts) (k:∀b,v.ownBlock=some b→b<d) (j:∀b,u.ownBlock=some b→b<d) (F:VB ls ts) {n:Int} (l:0≤n) (x:n≤3000000):TS w f d n v u ls ts:=by
 obtain ⟨⟨q,a,c⟩,g,i⟩:=h
 have s:=F.n
 have y:=F.t
 have z:=a.le
 have l2:=c.le
 have r:=a.kin (n:=n) l (by omega) F.node
 obtain ⟨o,p⟩:=c.kin (n:=n+2*ls.length+1) (by omega) (by omega) F.tens
 exact ⟨r.app o (by omega) (by omega) (by omega),p.wide (by omega) (AU _),FV.one i j (by omega) (by omega) (by omega),FV.one g k (by omega) (by omega) (by omega),
  ⟨g.sl,fun t m=>(a.each t m).at⟩,⟨i.sl,fun t m=>(c.each t m).at⟩,k,j,
  fun t m=>⟨fun b e=>by have:=((a.each t m).bx b e).2;omega,fun b e=>by have:=((a.each t m).by' b e).2;omega⟩,
  fun t m=>⟨fun b e=>((c.each t m).bx b e).2,fun b e=>((c.each t m).by' b e).2⟩⟩
theorem QI {w:World} {f d g:Nat} {v u:Value} {ls:List N5} {ts:List T4} (c:DF w f d v ls) (a:DQ w d g u ts) (l:ls.length≤900000) (o:ts.length≤900000) (F1:∀x ∈ ls,x.i.length≤16777216∧x.s.length≤16777216) (F2:∀x ∈ ts,x.s.length≤16777216∧x.l.length≤16777216):TS w f g 0 v u ls ts:=by
 have i:=c.all.le
 have l2:=a.all.le
 have j:=c.all.kin (n:=0) (Int.le_refl 0) (by omega) F1
 obtain ⟨k,h⟩:=a.all.kin (n:=0+2*ls.length+1) (by omega) (by omega) F2
 exact ⟨j.app k (by omega) (by omega) (by omega),h.wide (by omega) (AU _),(FV.one (.inl a.own) (fun b e=>(a.rb b e).2) (by omega) (by omega) (by omega)).wide i (AU _),(FV.one (.inl c.own) (fun b e=>(c.rb b e).2) (by omega) (by omega) (by omega)).wide (AU _) l2,
  c.gn,a.tens,fun b e=>by have:=c.rb b e;omega,fun b e=>(a.rb b e).2,
  fun t m=>⟨fun b e=>by have:=(c.all.each t m).bx b e;omega,fun b e=>by have:=(c.all.each t m).by' b e;omega⟩,
  fun t m=>⟨fun b e=>((a.tw t m).held.bx b e).2,fun b e=>((a.tw t m).held.by' b e).2⟩⟩
theorem Hw (w:World) (b A:Nat) (n:Int) (i m p g c:List Hd) (q y un t s v u:Value) (ls:List N5) (ts:List T4) (a d:Nat) (h:Bm w b A n i m p g c q y un t s) (I:TS w a d n v u ls ts) (o:d≤b) (E:n+2*ls.length+1+2*ts.length≤3999900):
  AK prog 20 [.pointer (some ⟨A,0,none⟩), .agg [v,u].toArray] w (fun r e=>r= .tuple #[]∧Below b w e∧∃j l k f,Bm e b A (n+2*ls.length+1+2*ts.length+1) i (m++(Nz n ls++Po (n+2*ls.length+1) ts)) (p++Pn (n+2*ls.length+1) ts) (g++[BS u ts.length (cellsOf ts) (n+2*ls.length+1+2*ts.length+1)]) (c++[BS v ls.length (GI N5.cells ls) (n+2*ls.length+1)]) q j l k f):=by
 have J:=I.wide (AU _) o
 refine (Nr w b A n i m p g c q y un t s v u ls ts h J.gn J.vl J.lsl J.tn J.ul J.tsl E).mono ?_
 rintro r e ⟨B,z,F,G,C,D,x⟩
 rw [append_assoc] at x
 exact ⟨B,z,F,G,C,D,x⟩
theorem Hx (w:World) (a A:Nat) (n:Int) (g j l f c:List Hd) (p m un i d v:Value) (k:Nat) (xs:List Value) (h:Bm w a A n g j l f c p m un i d) (y:Sl w 1 v k xs) (u:n≤3999999):
  AK prog 21 [.pointer (some ⟨A,0,none⟩),v] w (fun r o=>r= .tuple #[]∧Below a w o∧∃t,Bm o a A (n+1) (g++[BS v k xs (n+1)]) j l f c t m un i d):=
 (Nt w a A n g j l f c p m un i d v k xs h y u).mono fun _ _ ⟨s,q,x⟩=>⟨s,h.low (fun b e=>(AB h.ob b e).1) q,x⟩
theorem R7 (v u:Value) (ls:List N5) (ws:List T4) (E:Int) (R:List (BitVec 8)) (W:World) (h:GN W v ls) (b:EM W u ws) (c:I0 ls ws=E) (d:Hs ls ws=R):
  AK prog 12 [.agg [v,u].toArray] W (fun r a=>Below W.heap.size W a∧∃x,r= .tuple #[x, .int .i64 E]∧AQ a W.heap.size 5 1 x R.length (R.map b8)):=by
 subst c d
 exact U3 v u ls ws W h b
theorem Th (v u:Value) (ls:List N5) (ws:List T4) (E:Int) (R:List (BitVec 8)) (W:World) (h:GN W v ls) (d:ls.length≤1000000) (b:EM W u ws) (c:I0 ls ws=E) (e:Hs ls ws=R):
  AK prog 13 [.agg [v,u].toArray] W (fun r a=>Below W.heap.size W a∧∃x,r= .tuple #[x, .int .i64 E]∧BO b8 a x R):=by
 subst c e
 exact Tl v u ls ws W h d b
theorem RA (v:Value) (l:Bs) (E:Int) (X:List PN×List PV) (W:World) (e:BO b8 W v l) (d:IP l=E) (f:(HY l).getD ([],[])=X):AK prog 14 [v] W (fun r a=>Below W.heap.size W a∧∃b c ls ts,r= .tuple #[.agg [b,c].toArray, .int .i64 E]∧(ls.map pn,ts.map pv)=X∧Ny a W.heap.size a.heap.size b c ls ts):=by
 subst d f
 exact U4 v l W e
theorem Tj (v:Value) (l:Bs) (E:Int) (X:List PN×List PV) (W:World) (e:BO b8 W v l) (d:IP l=E) (f:(HY l).getD ([],[])=X):AK prog 15 [v] W (fun r a=>Below W.heap.size W a∧∃b c ls ts,r= .tuple #[.agg [b,c].toArray, .int .i64 E]∧(ls.map pn,ts.map pv)=X∧GN a b ls∧EM a c ts):=by
 subst d f
 exact Tk v l W e
end Go.Proofs.YtblbopcaflaldaaGreatDoor

namespace Go.Proofs.YtblbopcaflaldaaGreatDoor
open Go Go.Dd Go.RowKit List Go.Proofs.Tryz
set_option maxRecDepth 100000
theorem own:ownKnob Tryz.prog.godebug=none:=by kernel_rfl
theorem Pj:laidOutB prog=true:=by kernel_rfl
end Go.Proofs.YtblbopcaflaldaaGreatDoor

namespace Go.Proofs.YtblbopcaflaldaaGreatDoor
open Go Go.Dd Go.RowKit Go.ChangeShapes Go.WideShapes Go.ChangeAt List Go.Proofs.Tryz
set_option maxRecDepth 100000
theorem PU {ls:List N5} {ws:List T4} (h:UX ls ws≤60000):RX ls+Ij (ws.length:Int) (ws.map fun t=>Ju t.s t.l)≤60000:=by
 have d:=GX (l:=ws.map fun t=>Ju t.s t.l) (n:=(ws.length:Int)) (fun x b=>by
  obtain ⟨a,c,rfl⟩:=List.mem_map.1 b
  have:=Jw a.s a.l;omega)
 unfold UX at h
 split at h<;>omega
theorem Q4 {H:Type} {enc:TypeId×Value→H} {w:World} {base:Nat} {z:Value} (k:Value.okWide prog w .any base 27 z) (h:In enc prog w 27 z.cells.toList):
  ∃(v u:Value) (ls:List N5) (ws:List T4),z= .agg [v,u].toArray∧GN w v ls∧ls.length≤1125899906842624∧(∀t ∈ ls,t.few)∧EM w u ws∧ws.length≤1125899906842624∧(∀t ∈ ws,OD t):=by
 obtain ⟨cs,rfl,e⟩:=OJ underlying27 k h
 obtain ⟨c,d⟩:=e.struct underlying27
 have s:Tryz.prog.cellsOf 27=2:=by kernel_rfl
 have q:Tryz.prog.cellsOf 24=1:=by kernel_rfl
 have o:Tryz.prog.cellsOf 25=1:=by kernel_rfl
 rw [s] at c
 obtain ⟨a,b,rfl⟩:∃a b,cs=[a,b]:=by
  match cs,c with
  |[a,b],_=>exact ⟨a,b,rfl⟩
 have i:In enc prog w 24 (([a,b].drop 0).take (Tryz.prog.cellsOf 24)):=d 0 _ rfl
 have g:In enc prog w 25 (([a,b].drop 1).take (Tryz.prog.cellsOf 25)):=d 1 _ rfl
 rw [q] at i
 rw [o] at g
 obtain ⟨v,ev,ls,n,r,p⟩:=RU i
 obtain ⟨u,f,ws,m,j,l⟩:=T7 g
 simp at ev f
 subst ev f
 exact ⟨_,_,ls,ws,rfl,n,r,p,m,j,l⟩
set_option maxHeartbeats 4000000 in
theorem MI (v u vb:Value) (ls:List N5) (ws:List T4) (l:Bs) (W:World) (h:GN W v ls) (hl:ls.length≤1125899906842624) (hf:∀t ∈ ls,t.few) (C:EM W u ws) (lw:ws.length≤1125899906842624) (fw:∀t ∈ ws,OD t) (D:BO b8 W vb l):
  AK prog 3 [.agg [v,u].toArray,vb] W (fun r w' =>r= .bool true∧Below W.heap.size W w'):=by
 have A:=Below.refl W.heap.size W
 obtain ⟨E,hE⟩:∃E,E=I0 ls ws:=⟨_,rfl⟩
 obtain ⟨R,hR⟩:∃R,R=Hs ls ws:=⟨_,rfl⟩
 obtain ⟨G,hG'⟩:∃G,G=IP l:=⟨_,rfl⟩
 obtain ⟨X,hX⟩:∃X,X=(HY l).getD ([],[]):=⟨_,rfl⟩
 have R1:=R9 ls ws
 rw [← hR] at R1
 refine Az (n:=120) func3 O<|Ad<|Cr (cs:=[v,u]) O O O ?_
 rintro A_m w eA_m g d -
 have A:=A.bs d
 have h:=h.bs d
 have C:=C.bs d
 have D:=D.bs d
 refine Ab O<|Bi<|Aa (Cx (DX _) (DW _) O O ‹_›) O ?_
 refine Ai O O (MJ v u ls ws _ h hl hf C lw fw) ?_
 rintro _ w ⟨rfl,d⟩
 have A:=A.bs d
 have h:=h.bs d
 have C:=C.bs d
 have D:=D.bs d
 have g:=g.bs d
 refine Aa (Dh O O) O<|Ac O ?_
 refine Cc 23 O ?_ ?_
 ·intro gm
  exact Ae (dj:=23) rfl rfl rfl rfl<|Ae (dj:=23) rfl rfl rfl rfl<|Ae (dj:=23) rfl rfl rfl rfl<|B7 rfl<|Ak<|Ca rfl<|Ad<|Ab rfl<|B2<|As rfl rfl<|⟨rfl,A⟩
 intro gm
 have gm:UX ls ws≤60000:=by have:=AD gm;omega
 refine Ag (dj:=23) O O<|Ac O<|Ag (dj:=23) O O<|Aa (Ap AL O ‹_›) O ?_
 refine Ag (dj:=23) O O<|Aa (Dh O O) O<|Ci O<|Ak<|Aq O ?_ ?_
 ·intro _
  exact Ad<|Ab rfl<|B2<|As rfl rfl<|⟨rfl,A⟩
 intro gb
 have gb:l.length≤60000:=by have:=AD gb;omega
 have G0:=PU gm
 have np:∀x ∈ ls.map Jc,0≤x:=fun x hx=>by
  obtain ⟨a,_,rfl⟩:=List.mem_map.1 hx
  have:=J5 a;omega
 have N0:=GX (n:=(ls.length:Int)) np
 have tp:∀x ∈ ws.map fun t=>Ju t.s t.l,0≤x:=fun x hx=>by
  obtain ⟨a,_,rfl⟩:=List.mem_map.1 hx
  have:=Jw a.s a.l;omega
 have T0:=GX (n:=(ws.length:Int)) tp
 have eg:RX ls=1+Ij (ls.length:Int) (ls.map Jc):=rfl
 have ne:∀a ∈ ls,a.i.length≤4194304∧a.s.length≤4194304:=fun a ha=>by
  have h1:=JF (n:=(ls.length:Int)) np (by omega) (Jc a) (List.mem_map.2 ⟨a,ha,rfl⟩)
  have h2:=U1 (a:=a) (m:=60000) (by omega) (by decide)
  omega
 have te:∀t ∈ ws,t.s.length≤4194304∧t.l.length≤4194304:=fun t ht=>by
  have h1:=JF (n:=(ws.length:Int)) tp (by omega) (Ju t.s t.l) (List.mem_map.2 ⟨t,ht,rfl⟩)
  have h2:=SU (s:=t.s) (l:=t.l) (m:=60000) (by omega) (by decide)
  omega
 clear tp np
 refine Cs<|Aa (Cx (k:=2) (DX _) (DW _) O O g) O<|Ai O O (Mr v u ls ws _ h ne (by omega) C te (by omega)) ?_
 rintro _ w ⟨d,gv,wv,gs,us,mid,rfl,H,F,eG,eU⟩
 obtain ⟨tU,htU⟩:∃n,n=w.heap.size:=⟨_,rfl⟩
 rw [← htU] at F
 have t0:=AA A
 have zU:=d.size
 have A:=A.bs d
 have h:=h.bs d
 have C:=C.bs d
 have D:=D.bs d
 have g:=g.bs d
 have lgs:gs.length=ls.length:=by have:=cngA length eG;simpa using this
 have lus:us.length=ws.length:=by have:=cngA length eU;simpa using this
 have ge:∀a ∈ gs,a.i.length≤16777216∧a.s.length≤16777216:=fun a ha=>by
  have:nl a ∈ ls.map nl:=by rw [← eG];exact mem_map_of_mem ha
  obtain ⟨c,hc,e⟩:=List.mem_map.1 this
  simp only [nl,Prod.mk.injEq] at e
  rw [← e.2.1,← e.2.2.1];have:=ne c hc;omega
 have ue:∀t ∈ us,t.s.length≤16777216∧t.l.length≤16777216:=fun t ht=>by
  have:vl t ∈ ws.map vl:=by rw [← eU];exact mem_map_of_mem ht
  obtain ⟨a,ha,e⟩:=List.mem_map.1 this
  have es:a.s=t.s:=cngA Prod.fst e
  have el:a.l=t.l:=cngA Prod.snd e
  rw [← es,← el];have:=te a ha;omega
 have mE:I0 gs us=E:=by rw [(R8 (us:=gs) (ls:=ls) eG (ts:=us) (ws:=ws) eU).1,hE]
 have mR:Hs gs us=R:=by rw [(R8 (us:=gs) (ls:=ls) eG (ts:=us) (ws:=ws) eU).2,hR]
 have oM:[gv,wv].all (·.oneCell')=true:=by rw [all_cons,all_cons,(AF H.own).one',(AF F.own).one'];rfl
 refine Cz (cs:=[gv,wv]) Jh O O O O (fun _=>rfl) (oM) ?_
 rintro A_t w eA_t f d zhn
 have zt:=d.size
 have A:=A.bs d
 have h:=h.bs d
 have C:=C.bs d
 have D:=D.bs d
 have g:=g.bs d
 have H:=H.bs d
 have F:=F.bs d
 refine Be<|Ac O<|Ai O O (Mt vb l _ D (by omega)) ?_
 rintro c w ⟨o,d⟩
 have I:AQ w _ 5 1 c l.length (l.map b8):= .inl o.own
 obtain ⟨tC,htC⟩:∃n,n=w.heap.size:=⟨_,rfl⟩
 have cb:=fun b e=>(I.lt b e).2
 rw [← htC] at cb
 have zc:=d.size
 have A:=A.bs d
 have h:=h.bs d
 have C:=C.bs d
 have D:=D.bs d
 have g:=g.bs d
 have H:=H.bs d
 have F:=F.bs d
 have f:=f.bs d
 refine Ab O<|Be<|Aa (Cx (k:=2) (DX _) (DW _) O O f) O<|Ai O O (R7 gv wv gs us E R _ H.gn F.tens mE mR) ?_
 rintro _ w ⟨d,x,rfl,J⟩
 obtain ⟨tX,htX⟩:∃n,n=w.heap.size:=⟨_,rfl⟩
 have xb:=fun b e=>(J.lt b e).2
 rw [← htX] at xb
 have zx:=d.size
 have A:=A.bs d
 have h:=h.bs d
 have C:=C.bs d
 have D:=D.bs d
 have g:=g.bs d
 have H:=H.bs d
 have F:=F.bs d
 have f:=f.bs d
 have o:=o.bs d
 have I:=I.bs d
 refine Ac O<|Aa (Bt (i:=0) O O) O<|Aa (Bt (i:=1) O O) O<|Ab O<|Ab O<|Be<|Aa (Cx (k:=2) (DX _) (DW _) O O f) O<|Ai O O (R7 gv wv gs us E R _ H.gn F.tens mE mR) ?_
 rintro _ w ⟨d,y,rfl,N⟩
 obtain ⟨tY,htY⟩:∃n,n=w.heap.size:=⟨_,rfl⟩
 have yb:=fun b e=>(N.lt b e).2
 rw [← htY] at yb
 have zy:=d.size
 have A:=A.bs d
 have h:=h.bs d
 have C:=C.bs d
 have D:=D.bs d
 have g:=g.bs d
 have H:=H.bs d
 have F:=F.bs d
 have f:=f.bs d
 have o:=o.bs d
 have I:=I.bs d
 have J:=J.bs d
 refine Ac O<|Aa (Bt (i:=0) O O) O<|Aa (Bt (i:=1) O O) O<|Ab O<|Ab O<|Be<|Aa (Cx (k:=2) (DX _) (DW _) O O g) O<|Ai O O (Th v u ls ws E R _ h (by omega) C hE.symm hR.symm) ?_
 rintro _ w ⟨d,z,rfl,B⟩
 have zz:=d.size
 have A:=A.bs d
 have h:=h.bs d
 have C:=C.bs d
 have D:=D.bs d
 have g:=g.bs d
 have H:=H.bs d
 have F:=F.bs d
 have f:=f.bs d
 have o:=o.bs d
 have I:=I.bs d
 have J:=J.bs d
 have N:=N.bs d
 refine Ac O<|Aa (Bt (i:=0) O O) O<|Aa (Bt (i:=1) O O) O<|Ab O<|Ab O<|Be<|Ac O<|Ai O O (RA c l G X _ o.sl hG'.symm hX.symm) ?_
 rintro _ w ⟨d,pv1,pu1,pns,pts,rfl,eP,L⟩
 obtain ⟨tP,htP⟩:∃n,n=w.heap.size:=⟨_,rfl⟩
 have Vp:=fun b e=>(L.nv.lt b e).2
 have Up:=fun b e=>(L.wv.lt b e).2
 rw [← htP] at L Vp Up
 have zP:=d.size
 have A:=A.bs d
 have h:=h.bs d
 have C:=C.bs d
 have D:=D.bs d
 have g:=g.bs d
 have H:=H.bs d
 have F:=F.bs d
 have f:=f.bs d
 have o:=o.bs d
 have I:=I.bs d
 have J:=J.bs d
 have N:=N.bs d
 have B:=B.bs d
 have oP:[pv1,pu1].all (·.oneCell')=true:=by rw [all_cons,all_cons,L.nv.sl.one',L.wv.sl.one'];rfl
 have FP:=Ps (l:=l) (eP.trans hX)
 refine Ac O<|Aa (Bt (i:=0) O O) O<|Aa (Bt (i:=1) O O) O<|Cz (cs:=[pv1,pu1]) Jh O O O O (fun _=>rfl) (oP) ?_
 rintro A_p w eA_p j d zhn
 have zPb:=d.size
 have A:=A.bs d
 have h:=h.bs d
 have C:=C.bs d
 have D:=D.bs d
 have g:=g.bs d
 have H:=H.bs d
 have F:=F.bs d
 have f:=f.bs d
 have o:=o.bs d
 have I:=I.bs d
 have J:=J.bs d
 have N:=N.bs d
 have B:=B.bs d
 have L:=L.bs d
 refine Ab O<|Be<|Ac O<|Ai O O (RA c l G X _ o.sl hG'.symm hX.symm) ?_
 rintro _ w ⟨d,qv1,qu1,qns,qts,rfl,eQ,Q⟩
 obtain ⟨tQ,htQ⟩:∃n,n=w.heap.size:=⟨_,rfl⟩
 have Vq:=fun b e=>(Q.nv.lt b e).2
 have Uq:=fun b e=>(Q.wv.lt b e).2
 rw [← htQ] at Q Vq Uq
 have zQ:=d.size
 have A:=A.bs d
 have h:=h.bs d
 have C:=C.bs d
 have D:=D.bs d
 have g:=g.bs d
 have H:=H.bs d
 have F:=F.bs d
 have f:=f.bs d
 have o:=o.bs d
 have I:=I.bs d
 have J:=J.bs d
 have N:=N.bs d
 have B:=B.bs d
 have L:=L.bs d
 have j:=j.bs d
 have oQ:[qv1,qu1].all (·.oneCell')=true:=by rw [all_cons,all_cons,Q.nv.sl.one',Q.wv.sl.one'];rfl
 have FQ:=Ps (l:=l) (eQ.trans hX)
 refine Ac O<|Aa (Bt (i:=0) O O) O<|Aa (Bt (i:=1) O O) O<|Cz (cs:=[qv1,qu1]) Jh O O O O (fun _=>rfl) (oQ) ?_
 rintro A_q w eA_q p d zhn
 have zQb:=d.size
 have A:=A.bs d
 have h:=h.bs d
 have C:=C.bs d
 have D:=D.bs d
 have g:=g.bs d
 have H:=H.bs d
 have F:=F.bs d
 have f:=f.bs d
 have o:=o.bs d
 have I:=I.bs d
 have J:=J.bs d
 have N:=N.bs d
 have B:=B.bs d
 have L:=L.bs d
 have j:=j.bs d
 have Q:=Q.bs d
 refine Ab O<|Be<|Ac O<|Ai O O (Tj vb l G X _ D hG'.symm hX.symm) ?_
 rintro _ w ⟨d,rv1,ru1,rl,rt,rfl,eS,Y,V⟩
 have zR:=d.size
 have A:=A.bs d
 have h:=h.bs d
 have C:=C.bs d
 have D:=D.bs d
 have g:=g.bs d
 have H:=H.bs d
 have F:=F.bs d
 have f:=f.bs d
 have o:=o.bs d
 have I:=I.bs d
 have J:=J.bs d
 have N:=N.bs d
 have B:=B.bs d
 have L:=L.bs d
 have j:=j.bs d
 have Q:=Q.bs d
 have p:=p.bs d
 have oR:[rv1,ru1].all (·.oneCell')=true:=by rw [all_cons,all_cons,Y.sl.one',V.1.one'];rfl
 refine Ac O<|Aa (Bt (i:=0) O O) O<|Aa (Bt (i:=1) O O) O<|Cz (cs:=[rv1,ru1]) Jh O O O O (fun _=>rfl) (oR) ?_
 rintro A_s w eA_s K d zhn
 have zRb:=d.size
 have A:=A.bs d
 have h:=h.bs d
 have C:=C.bs d
 have D:=D.bs d
 have g:=g.bs d
 have H:=H.bs d
 have F:=F.bs d
 have f:=f.bs d
 have o:=o.bs d
 have I:=I.bs d
 have J:=J.bs d
 have N:=N.bs d
 have B:=B.bs d
 have L:=L.bs d
 have j:=j.bs d
 have Q:=Q.bs d
 have p:=p.bs d
 have Y:=Y.bs d
 have V:=V.bs d
 have ep:=eP.trans eS.symm
 have eq:=eQ.trans eS.symm
 have ep1:pns.map pn=rl.map pn:=(Prod.mk.inj ep).1
 have ep2:pts.map pv=rt.map pv:=(Prod.mk.inj ep).2
 have eq1:qns.map pn=rl.map pn:=(Prod.mk.inj eq).1
 have eq2:qts.map pv=rt.map pv:=(Prod.mk.inj eq).2
 clear ep eq
 refine Ab O<|Bi<|Ac O<|Ac O<|Ai O O (IZ x z _ _ _ J.slT B) ?_
 rintro _ w ⟨rfl,d⟩
 have A:=A.bs d
 have h:=h.bs d
 have C:=C.bs d
 have D:=D.bs d
 have g:=g.bs d
 have H:=H.bs d
 have F:=F.bs d
 have f:=f.bs d
 have o:=o.bs d
 have I:=I.bs d
 have J:=J.bs d
 have N:=N.bs d
 have B:=B.bs d
 have L:=L.bs d
 have j:=j.bs d
 have Q:=Q.bs d
 have p:=p.bs d
 have Y:=Y.bs d
 have V:=V.bs d
 have K:=K.bs d
 refine Aa (Co O) O<|Ac O<|Cm 66 (v' := .bool false) O (cngA Value.bool (by simp))<|Ag (dj:=66) O O<|Ac O<|Ag (dj:=66) O O<|Ac O<|Ag (dj:=66) O O<|Ai O O (IZ y z _ _ _ N.slT B) ?_
 rintro _ w ⟨rfl,d⟩
 have A:=A.bs d
 have h:=h.bs d
 have C:=C.bs d
 have D:=D.bs d
 have g:=g.bs d
 have H:=H.bs d
 have F:=F.bs d
 have f:=f.bs d
 have o:=o.bs d
 have I:=I.bs d
 have J:=J.bs d
 have N:=N.bs d
 have B:=B.bs d
 have L:=L.bs d
 have j:=j.bs d
 have Q:=Q.bs d
 have p:=p.bs d
 have Y:=Y.bs d
 have V:=V.bs d
 have K:=K.bs d
 refine Ag (dj:=66) O O<|Aa (Co O) O<|Ci O<|Ac O<|Cm 72 (v' := .bool false) O (cngA Value.bool (by simp))<|Ag (dj:=72) O O<|Ac O<|Ag (dj:=72) O O<|Ac O<|Ag (dj:=72) O O<|Aa (Ct O O) O<|Ci O<|Ac O<|Cm 77 (v' := .bool false) O (cngA Value.bool (by simp))<|Ag (dj:=77) O O<|Aa (Cx (k:=2) (DX _) (DW _) O O j) O<|Ag (dj:=77) O O<|Aa (Cx (k:=2) (DX _) (DW _) O O K) O<|Ag (dj:=77) O O<|Ai O O (IY pv1 rv1 pu1 ru1 pns rl pts rt _ ⟨L.nv.sl,(L.inB Vp Up FP (Int.le_refl 0) (by omega)).gn.2⟩ Y ⟨L.wv.sl,(L.inB Vp Up FP (Int.le_refl 0) (by omega)).tn.2⟩ V) ?_
 rintro _ w ⟨rfl,d⟩
 have A:=A.bs d
 have h:=h.bs d
 have C:=C.bs d
 have D:=D.bs d
 have g:=g.bs d
 have H:=H.bs d
 have F:=F.bs d
 have f:=f.bs d
 have o:=o.bs d
 have I:=I.bs d
 have J:=J.bs d
 have N:=N.bs d
 have B:=B.bs d
 have L:=L.bs d
 have j:=j.bs d
 have Q:=Q.bs d
 have p:=p.bs d
 have Y:=Y.bs d
 have V:=V.bs d
 have K:=K.bs d
 refine Ag (dj:=77) O O<|Aa (Co O) O<|Ci O<|Ac O<|Cm 83 (v' := .bool false) O (cngA Value.bool (by rw [ep1,ep2];simp))<|Ag (dj:=83) O O<|Aa (Cx (k:=2) (DX _) (DW _) O O p) O<|Ag (dj:=83) O O<|Aa (Cx (k:=2) (DX _) (DW _) O O K) O<|Ag (dj:=83) O O<|Ai O O (IY qv1 rv1 qu1 ru1 qns rl qts rt _ ⟨Q.nv.sl,(Q.inB Vq Uq FQ (Int.le_refl 0) (by omega)).gn.2⟩ Y ⟨Q.wv.sl,(Q.inB Vq Uq FQ (Int.le_refl 0) (by omega)).tn.2⟩ V) ?_
 rintro _ w ⟨rfl,d⟩
 have A:=A.bs d
 have h:=h.bs d
 have C:=C.bs d
 have D:=D.bs d
 have g:=g.bs d
 have H:=H.bs d
 have F:=F.bs d
 have f:=f.bs d
 have o:=o.bs d
 have I:=I.bs d
 have J:=J.bs d
 have N:=N.bs d
 have B:=B.bs d
 have L:=L.bs d
 have j:=j.bs d
 have Q:=Q.bs d
 have p:=p.bs d
 have Y:=Y.bs d
 have V:=V.bs d
 have K:=K.bs d
 refine Ag (dj:=83) O O<|Aa (Co O) O<|Ci O<|Ac O<|Cm 89 (v' := .bool false) O (cngA Value.bool (by rw [eq1,eq2];simp))<|Ag (dj:=89) O O<|Ac O<|Ag (dj:=89) O O<|Ac O<|Ag (dj:=89) O O<|Aa (Ct O O) O<|Ci O<|Ac O<|Cm 94 (v' := .bool false) O (cngA Value.bool (by simp))<|Ag (dj:=94) O O<|Aa (Cx (k:=2) (DX _) (DW _) O O f) O<|Ag (dj:=94) O O<|Aa (Cx (k:=2) (DX _) (DW _) O O g) O<|Ag (dj:=94) O O<|Ai O O (MN gv wv v u gs ls us ws _ _ _ _ _ H h eG F C eU) ?_
 rintro _ w ⟨rfl,d⟩
 have A:=A.bs d
 have h:=h.bs d
 have C:=C.bs d
 have D:=D.bs d
 have g:=g.bs d
 have H:=H.bs d
 have F:=F.bs d
 have f:=f.bs d
 have o:=o.bs d
 have I:=I.bs d
 have J:=J.bs d
 have N:=N.bs d
 have B:=B.bs d
 have L:=L.bs d
 have j:=j.bs d
 have Q:=Q.bs d
 have p:=p.bs d
 have Y:=Y.bs d
 have V:=V.bs d
 have K:=K.bs d
 refine Ag (dj:=94) O O<|Aa (Co O) O<|Ci O<|Ac O<|Cm 100 (v' := .bool false) O (cngA Value.bool (rfl))<|Ag (dj:=100) O O<|Ac O<|Ag (dj:=100) O O<|Ac O<|Ag (dj:=100) O O<|Ai O O (MP c vb l _ _ o D) ?_
 rintro _ w ⟨rfl,d⟩
 have A:=A.bs d
 have h:=h.bs d
 have C:=C.bs d
 have D:=D.bs d
 have g:=g.bs d
 have H:=H.bs d
 have F:=F.bs d
 have f:=f.bs d
 have o:=o.bs d
 have I:=I.bs d
 have J:=J.bs d
 have N:=N.bs d
 have B:=B.bs d
 have L:=L.bs d
 have j:=j.bs d
 have Q:=Q.bs d
 have p:=p.bs d
 have Y:=Y.bs d
 have V:=V.bs d
 have K:=K.bs d
 refine Ag (dj:=100) O O<|Aa (Co O) O<|Ci O<|Ak<|Bu O false (rfl)<|Cs<|Aa (C1 (vs:=[]) (cs:=[.int .i64 0, .slice none 0 0, .slice none 0 0, .slice none 0 0, .slice none 0 0, .slice none 0 0, .slice none 0 0, .slice none 0 0, .slice none 0 0, .slice none 0 0, .slice none 0 0, .slice none 0 0, .slice none 0 0, .slice none 0 0, .slice none 0 0, .slice none 0 0]) O (by kernel_rfl)) O ?_
 have zC:=AA A
 have ys:=BA K
 have yt:=BA f
 have yp:=BA j
 have yq:=BA p
 refine Cz (cs:= .int .i64 0::replicate 15 (.slice none 0 0)) Vy O O O O (fun _=>rfl) (rfl) ?_
 rintro q w eA_k b_k d zhn
 have zk:=d.size
 have A:=A.bs d
 have h:=h.bs d
 have C:=C.bs d
 have D:=D.bs d
 have g:=g.bs d
 have H:=H.bs d
 have F:=F.bs d
 have f:=f.bs d
 have o:=o.bs d
 have I:=I.bs d
 have J:=J.bs d
 have N:=N.bs d
 have B:=B.bs d
 have L:=L.bs d
 have j:=j.bs d
 have Q:=Q.bs d
 have p:=p.bs d
 have Y:=Y.bs d
 have V:=V.bs d
 have K:=K.bs d
 have M:=UJ b_k
 have zw:=AA A
 have f1:=FP.n
 have f2:=FP.t
 have f3:=FQ.n
 have f4:=FQ.t
 obtain ⟨n1,e1⟩:∃n,n=0+2*(gs.length:Int)+1+2*us.length+1:=⟨_,rfl⟩
 obtain ⟨n2,e2⟩:∃n,n=n1+1+1+1:=⟨_,rfl⟩
 obtain ⟨n3,e3⟩:∃n,n=n2+2*(pns.length:Int)+1+2*pts.length+1:=⟨_,rfl⟩
 have J0:=QI H F (by omega) (by omega) ge ue
 have JP:=L.inB Vp Up FP (n:=n2) (by omega) (by omega)
 have Z:=Q.inB Vq Uq FQ (n:=n3) (by omega) (by omega)
 have U:=I.sl
 have T:=J.sl
 have S:=N.sl
 have c1:=FV.one (n:=n1+1) I cb (by omega) (by omega) (by omega)
 have c2:=FV.one (n:=n1+1+1) J xb (by omega) (by omega) R1
 have c3:=FV.one (n:=n1+1+1+1) N yb (by omega) (by omega) R1
 have KB:=((c1.app c2 (by omega) (by omega) (by omega)).app c3 (by omega) (by omega) (by omega)).wide (show W.heap.size≤_ by omega) (show _≤q by omega)
 have lc:∀b,c.ownBlock=some b→b<q:=fun b e=>by have:=cb b e;omega
 have lx:∀b,x.ownBlock=some b→b<q:=fun b e=>by have:=xb b e;omega
 have ly:∀b,y.ownBlock=some b→b<q:=fun b e=>by have:=yb b e;omega
 have d0:tU≤q:=by omega
 have d1:tP≤q:=by omega
 have d2:tQ≤q:=by omega
 clear c1 c2 c3 H F L Q I J N
 refine Be<|Aa (Cx (k:=2) (DX _) (DW _) O O f) O<|Ai O O (Hw w q q 0 _ _ _ _ _ _ _ _ _ _ gv wv gs us _ _ M J0 d0 (by omega)) ?_
 rintro _ w ⟨rfl,d,_,_,_,_,M⟩
 rw [← e1] at M
 have A:=A.trans (d.mono (show W.heap.size≤q by omega))
 have KB:=KB.below d (AU _)
 have J0:=J0.below d d0
 have JP:=JP.below d d1
 have Z:=Z.below d d2
 have U:=CS U lc d
 have T:=CS T lx d
 have S:=CS S ly d
 have f:=f.keep (d.block A_t (by omega))
 have j:=j.keep (d.block A_p (by omega))
 have p:=p.keep (d.block A_q (by omega))
 refine Be<|Ac O<|Ai O O (Hx w q q n1 _ _ _ _ _ _ _ _ _ _ c _ _ M U (by omega)) ?_
 rintro _ w ⟨rfl,d,_,M⟩
 have A:=A.trans (d.mono (show W.heap.size≤q by omega))
 have KB:=KB.below d (AU _)
 have J0:=J0.below d d0
 have JP:=JP.below d d1
 have Z:=Z.below d d2
 have U:=CS U lc d
 have T:=CS T lx d
 have S:=CS S ly d
 have f:=f.keep (d.block A_t (by omega))
 have j:=j.keep (d.block A_p (by omega))
 have p:=p.keep (d.block A_q (by omega))
 refine Be<|Ac O<|Ai O O (Hx w q q (n1+1) _ _ _ _ _ _ _ _ _ _ x _ _ M T (by omega)) ?_
 rintro _ w ⟨rfl,d,_,M⟩
 have A:=A.trans (d.mono (show W.heap.size≤q by omega))
 have KB:=KB.below d (AU _)
 have J0:=J0.below d d0
 have JP:=JP.below d d1
 have Z:=Z.below d d2
 have U:=CS U lc d
 have T:=CS T lx d
 have S:=CS S ly d
 have f:=f.keep (d.block A_t (by omega))
 have j:=j.keep (d.block A_p (by omega))
 have p:=p.keep (d.block A_q (by omega))
 refine Be<|Ac O<|Ai O O (Hx w q q (n1+1+1) _ _ _ _ _ _ _ _ _ _ y _ _ M S (by omega)) ?_
 rintro _ w ⟨rfl,d,_,M⟩
 rw [← e2] at M
 have A:=A.trans (d.mono (show W.heap.size≤q by omega))
 have KB:=KB.below d (AU _)
 have J0:=J0.below d d0
 have JP:=JP.below d d1
 have Z:=Z.below d d2
 have U:=CS U lc d
 have T:=CS T lx d
 have S:=CS S ly d
 have f:=f.keep (d.block A_t (by omega))
 have j:=j.keep (d.block A_p (by omega))
 have p:=p.keep (d.block A_q (by omega))
 refine Be<|Aa (Cx (k:=2) (DX _) (DW _) O O j) O<|Ai O O (Hw w q q n2 _ _ _ _ _ _ _ _ _ _ pv1 pu1 pns pts _ _ M JP d1 (by omega)) ?_
 rintro _ w ⟨rfl,d,_,_,_,_,M⟩
 rw [← e3] at M
 have A:=A.trans (d.mono (show W.heap.size≤q by omega))
 have KB:=KB.below d (AU _)
 have J0:=J0.below d d0
 have JP:=JP.below d d1
 have Z:=Z.below d d2
 have U:=CS U lc d
 have T:=CS T lx d
 have S:=CS S ly d
 have f:=f.keep (d.block A_t (by omega))
 have j:=j.keep (d.block A_p (by omega))
 have p:=p.keep (d.block A_q (by omega))
 refine Be<|Aa (Cx (k:=2) (DX _) (DW _) O O p) O<|Ai O O (Hw w q q n3 _ _ _ _ _ _ _ _ _ _ qv1 qu1 qns qts _ _ M Z d2 (by omega)) ?_
 rintro _ w ⟨rfl,d,_,_,_,_,M⟩
 have A:=A.trans (d.mono (show W.heap.size≤q by omega))
 have KB:=KB.below d (AU _)
 have J0:=J0.below d d0
 have JP:=JP.below d d1
 have Z:=Z.below d d2
 have U:=CS U lc d
 have T:=CS T lx d
 have S:=CS S ly d
 have f:=f.keep (d.block A_t (by omega))
 have j:=j.keep (d.block A_p (by omega))
 have p:=p.keep (d.block A_q (by omega))
 refine Be ?_
 have KI:=((J0.ki.app JP.ki (by omega) (by omega) (by omega)).app Z.ki (by omega) (by omega) (by omega)).wide (show W.heap.size≤_ by omega) (show _≤q by omega)
 have KN:=((J0.kn.app JP.kn (by omega) (by omega) (by omega)).app Z.kn (by omega) (by omega) (by omega)).wide (show W.heap.size≤_ by omega) (show _≤q by omega)
 have KT:=((J0.kt.app JP.kt (by omega) (by omega) (by omega)).app Z.kt (by omega) (by omega) (by omega)).wide (show W.heap.size≤_ by omega) (show _≤q by omega)
 have KD:=((J0.kd.app JP.kd (by omega) (by omega) (by omega)).app Z.kd (by omega) (by omega) (by omega)).wide (show W.heap.size≤_ by omega) (show _≤q by omega)
 rw [← e2] at KB
 rw [← e1,← e3] at KT
 refine Ai O O (S4 w q q W.heap.size _ _ _ _ _ _ _ _ _ _ _ M KB KI KN KT KD (by omega)) ?_
 rintro _ w ⟨rfl,d⟩
 exact Ab rfl<|Ay<|As rfl rfl<|⟨rfl,A.trans d⟩
end Go.Proofs.YtblbopcaflaldaaGreatDoor
