/- Texts of this proof, one behind the other: MdlGet, ParLine, TxtText, ParTx, ParNode, ParPrs, MdlGot, ParAll, TxtMake, LawHelp, Open, TensorsArg, TensArg, MeansArg, TwinNode, BookMany, BookKeep, BookFive, BookApart, BookMore, BookList, TwinLists, BookIn, NodeCard, TwinGraph. -/
import Derived.Test.YtblbopcaflaldaaGreatDoorPk3
import Derived.Test.YtblbopcaflaldaaGreatDoorPk1
import Derived.ProofKit
import Derived.OpenShut
import Derived.SizedLaws
import Derived.Test.YtblbopcaflaldaaGreatDoorPk2

namespace Go.Proofs.YtblbopcaflaldaaGreatDoor
open Go Go.Dd Go.RowKit List Go.Proofs.Tryz
set_option maxRecDepth 100000
theorem Vl (x:BitVec 8):BitVec.ofInt 8 (x.toNat:Int)=x:=by
 apply BitVec.eq_of_toNat_eq
 have:=x.isLt
 simp
theorem Lo.bs {W w w' :World} {A:Nat} {v:Value} {l:Bs} (h:Lo W w A v l) (g:Below w.heap.size w w'):Lo W w' A v l:=⟨h.sl,bt h.bel g,h.lo,h.cell.bs g⟩
theorem Lo.grow {W w w' :World} {A:Nat} {v:Value} {l:Bs} {r:Option Nat} (h:Lo W w A v l) (g:w.grownBy w' r) (a:∀b,r=some b→W.heap.size≤b∧b≠A):Lo W w' A v l:=
 ⟨h.sl,h.bel.grown g (AA h.bel) fun b e=>(a b e).1,h.lo,h.cell.by g fun e=>(a A e.symm).2 rfl⟩
theorem Jy (W w:World) (A:Nat) (v:Value) (l:Bs) (e:Lo W w A v l):
  IE prog 52 [.pointer (some ⟨A,0,none⟩)] w NW
   (fun r w' =>∃b a,HT l=some (b,a)∧w.grownBy w' (some A)∧w'.heap.size=w.heap.size∧r= .int .i64 (b.toNat:Int)∧∃v',Lo W w' A v' a) (fun w' =>HT l=none∧w' =w):=
 (Q3 W w A v l e).mono (fun _ _ ⟨f,c,i,d,g⟩=>⟨_,_,KR f,c,i,d,g⟩) fun _ h=>⟨Pi.2 h.1,h.2⟩
theorem Mp (W w:World) (A:Nat) (v:Value) (l:Bs) (d:Lo W w A v l):
  IE prog 53 [.pointer (some ⟨A,0,none⟩)] w NW
   (fun r w' =>∃t a,HI l=some (t,a)∧w.grownBy w' (some A)∧AQ w' w.heap.size 3 1 r t.length (t.map (Value.int .i64))∧∃v',Lo W w' A v' a) (fun w' =>HI l=none∧w.grownBy w' (some A)):=
 (Sh W w A v l d).mono (fun _ _ ⟨e,b,g,c,f⟩=>⟨_,_,Nv e b,g,c,f⟩) fun _ h=>⟨Nw.2 h.1,h.2⟩
structure Gt (W w x:World) (Rc A M T:Nat) (rest:Bs) (ls:List N5) (vn:Value) (ts:List T4) (vw:Value):Prop where
 chg:FW (fun b=>b=A∨b=M) w x
 c:AP x Rc 97 [.pointer (some ⟨A,0,none⟩)]
 m:AP x M 27 [vn,vw]
 r:∃v',Lo W x A v' rest
 o:x.ownsRow w.heap.size 79 5 vn ls.length (GI N5.cells ls)
 u:x.ownsRow w.heap.size 75 2 vw ts.length (cellsOf ts)
 lay:∃mid,GK x w.heap.size mid ls∧AM x mid T ts
 top:T≤x.heap.size
structure Ti (W w:World) (Rc A M:Nat):Prop where
 c:W.heap.size≤Rc∧Rc<w.heap.size
 a:W.heap.size≤A∧A<w.heap.size
 m:W.heap.size≤M∧M<w.heap.size
 ca:Rc≠A
 cm:Rc≠M
 am:A≠M
theorem Gt.bs {W w x y:World} {e A M T:Nat} {a:Bs} {ls:List N5} {c:Value} {ts:List T4} {d:Value} (h:Gt W w x e A M T a ls c ts d) (g:Below x.heap.size x y):Gt W w y e A M T a ls c ts d:=by
 obtain ⟨v',r⟩:=h.r
 obtain ⟨b,f,l2⟩:=h.lay
 exact ⟨h.chg.below g,h.c.bs g,h.m.bs g,⟨v',r.bs g⟩,AF h.o g,AF h.u g,⟨b,f.bs g,l2.bs g⟩,Nat.le_trans h.top g.size⟩
theorem Gt.rd {W w x y:World} {i A M T:Nat} {c a:Bs} {ls:List N5} {j:Value} {ts:List T4} {l:Value} (L:Ti W w i A M) (h:Gt W w x i A M T c ls j ts l) (g:x.grownBy y (some A)) (r:∃v',Lo W y A v' a):Gt W w y i A M T a ls j ts l:=by
 obtain ⟨d,n,l2⟩:=h.lay
 obtain ⟨v',r⟩:=r
 have o:∃cs,AP x A 99 cs:=by
  obtain ⟨q,m⟩:=h.r
  exact ⟨_,m.cell⟩
 have k:∀b,some A=some b→∃cs,AP x b 99 cs:=fun b e=>by cases e;exact o
 exact ⟨h.chg.grown g (fun b e=>by cases e;exact .inl (.inl rfl)),h.c.by g (fun e=>L.ca (Option.some.inj e)),h.m.by g (fun e=>L.am (Option.some.inj e).symm),⟨v',r⟩,
  AR h.o fun b e=>g.block b (AB h.o b e).2 fun f=>by
   have:=Option.some.inj f;have:=(AB h.o b e).1;have:=L.a.2;omega,
  AR h.u fun b e=>g.block b (AB h.u b e).2 fun f=>by
   have:=Option.some.inj f;have:=(AB h.u b e).1;have:=L.a.2;omega,
  ⟨d,n.other g k (by decide),l2.other g k (by decide) (by decide)⟩,Nat.le_trans h.top g.size⟩
theorem Gt.ob {W w x y:World} {f A M T B:Nat} {a:Bs} {ls:List N5} {j:Value} {ts:List T4} {c:Value} {U:TypeId} {cs:List Value} (L:Ti W w f A M) (h:Gt W w x f A M T a ls j ts c) (g:x.grownBy y (some B)) (s:w.heap.size≤B) (n:AP x B U cs)
  (k:3≠U) (m:21≠U) (p:j.ownBlock≠some B) (o:c.ownBlock≠some B):Gt W w y f A M T a ls j ts c:=by
 obtain ⟨v',r⟩:=h.r
 obtain ⟨i,q,l2⟩:=h.lay
 have u:=L.a
 have t:=L.c
 have v:=L.m
 have l:∀b,some B=some b→∃cs,AP x b U cs:=fun b e=>by cases e;exact ⟨_,n⟩
 exact ⟨h.chg.grown g (fun b e=>by cases e;exact .inr s),h.c.by g (fun e=>by have:=Option.some.inj e;omega),h.m.by g (fun e=>by have:=Option.some.inj e;omega),⟨v',r.grow g fun b e=>by cases e;omega⟩,
  AR h.o fun b e=>g.block b (AB h.o b e).2 fun d=>p (by rw [e,d]),
  AR h.u fun b e=>g.block b (AB h.u b e).2 fun d=>o (by rw [e,d]),
  ⟨i,q.other g l k,l2.other g l k m⟩,Nat.le_trans h.top g.size⟩
theorem Gt.up {W w x:World} {e A M T:Nat} {a:Bs} {ls:List N5} {c:Value} {ts:List T4} {d:Value} (h:Gt W w x e A M T a ls c ts d):Gt W w x e A M x.heap.size a ls c ts d:=by
 obtain ⟨b,f,l2⟩:=h.lay
 exact ⟨h.chg,h.c,h.m,h.r,h.o,h.u,⟨b,f,l2.topM h.top⟩,AU _⟩
def Kt (w x:World) (A M:Nat):Prop:=FW (fun b=>b=A∨b=M) w x∧∃p q,AP x M 27 [p,q]
theorem Gt.k {W w x:World} {d A M T:Nat} {a:Bs} {ls:List N5} {b:Value} {ts:List T4} {c:Value} (h:Gt W w x d A M T a ls b ts c):Kt w x A M:=⟨h.chg,_,_,h.m⟩
theorem Gt.kg {W w x y:World} {c A M T:Nat} {a:Bs} {ls:List N5} {d:Value} {ts:List T4} {f:Value} (h:Gt W w x c A M T a ls d ts f) (L:Ti W w c A M) (g:x.grownBy y (some A)):Kt w y A M:=
 ⟨h.chg.grown g (fun b e=>by cases e;exact .inl (.inl rfl)),_,_,h.m.by g (fun e=>L.am (Option.some.inj e).symm)⟩
theorem MM (ls:List N5) (c:N5):GI N5.cells (ls++[c])=GI N5.cells ls++c.cells:=by simp [GI]
theorem Gt.node {W w x y z:World} {B A M T:Nat} {a:Bs} {ls:List N5} {q f:Value} {n:Value} {c:N5} {p l:Nat} (L:Ti W w B A M) (h:Gt W w x B A M T a ls q [] n) (N:NK x p l c) (D:T≤p) (H:p≤l) (S:l≤x.heap.size)
  (o:y.ownsRow w.heap.size 79 5 f (ls.length+1) (GI N5.cells ls++c.cells)) (g:x.grownBy y q.ownBlock) (d:y.grownBy z (some M)) (m:AP z M 27 [f,n]):Gt W w z B A M l a (ls++[c]) f [] n:=by
 obtain ⟨v',r⟩:=h.r
 obtain ⟨j,K,l2⟩:=h.lay
 have U:=L.a
 have R:=L.c
 have Q:=L.m
 have C:∀b,q.ownBlock=some b→∃cs,AP x b 79 cs:=fun b e=>AQ.ty (.inl h.o) e
 have s:∀b,q.ownBlock=some b→w.heap.size≤b:=fun b e=>(AB h.o b e).1
 have F:=h.c.by g (fun e=>by have:=s _ e.symm;omega)
 have I:=h.m.by g (fun e=>by have:=s _ e.symm;omega)
 have E:=r.grow g fun b e=>by have:=s b e;omega
 have t:∀b,some M=some b→∃cs,AP y b 27 cs:=fun b e=>by cases e;exact ⟨_,I⟩
 have u:j≤p:=Nat.le_trans (show j≤T from l2) D
 have G:=((K.other g C (by decide)).snoc (N.other g C (by decide)) H u).other d t (by decide)
 refine ⟨(h.chg.grown g (fun b e=> .inr (s b e))).grown d (fun b e=>by cases e;exact .inl (.inr rfl)),F.by d (fun e=>L.cm (Option.some.inj e)),m,⟨v',E.grow d fun b e=>by cases e;exact ⟨Q.1,fun e=>L.am e.symm⟩⟩, ?_, ?_,⟨l,G,AU _⟩, ?_⟩
 ·rw [length_append,MM]
  exact AR o fun b e=>d.block b (AB o b e).2 fun i=>by
   have:=Option.some.inj i;have:=(AB o b e).1;omega
 ·have v:y.ownsRow w.heap.size 75 2 n 0 (cellsOf []):=AR h.u fun b e=>g.block b (AB h.u b e).2 fun i=>by
   obtain ⟨cs,k⟩:=C b i.symm
   obtain ⟨ds,J⟩:=AQ.ty (.inl h.u) e
   exact absurd (AX J k) (by decide)
  exact AR v fun b e=>d.block b (AB v b e).2 fun i=>by
   have:=Option.some.inj i;have:=(AB v b e).1;omega
 ·have:=g.size
  have:=d.size
  omega
theorem I8:∀(ts:List T4) (c:T4),cellsOf (ts++[c])=cellsOf ts++[c.x,c.y]
 |[],c=>rfl
 |t::ts,c=>by rw [cons_append,cellsOf,cellsOf,I8 ts c];rfl
theorem Gt.tens {W w x y z:World} {v A M T:Nat} {d:Bs} {ls:List N5} {ts:List T4} {q:Value} {l f:Value} {c:T4} {t p:Nat} (L:Ti W w v A M) (h:Gt W w x v A M T d ls q ts l) (N:EY x t p c) (C:T≤t) (H:t≤p) (S:p≤x.heap.size)
  (o:y.ownsRow w.heap.size 75 2 f (ts.length+1) (cellsOf ts++[c.x,c.y])) (g:x.grownBy y l.ownBlock) (a:y.grownBy z (some M)) (m:AP z M 27 [q,f]):Gt W w z v A M p d ls q (ts++[c]) f:=by
 obtain ⟨v',r⟩:=h.r
 obtain ⟨B,K,l2⟩:=h.lay
 have U:=L.a
 have R:=L.c
 have Q:=L.m
 have n:∀b,l.ownBlock=some b→∃cs,AP x b 75 cs:=fun b e=>AQ.ty (.inl h.u) e
 have s:∀b,l.ownBlock=some b→w.heap.size≤b:=fun b e=>(AB h.u b e).1
 have E:=h.c.by g (fun e=>by have:=s _ e.symm;omega)
 have I:=h.m.by g (fun e=>by have:=s _ e.symm;omega)
 have D:=r.grow g fun b e=>by have:=s b e;omega
 have i:∀b,some M=some b→∃cs,AP y b 27 cs:=fun b e=>by cases e;exact ⟨_,I⟩
 have F:=((l2.other g n (by decide) (by decide)).snocM (N.other g n (by decide) (by decide)) H C).other a i (by decide) (by decide)
 have G:=(K.other g n (by decide)).other a i (by decide)
 refine ⟨(h.chg.grown g (fun b e=> .inr (s b e))).grown a (fun b e=>by cases e;exact .inl (.inr rfl)),E.by a (fun e=>L.cm (Option.some.inj e)),m,⟨v',D.grow a fun b e=>by cases e;exact ⟨Q.1,fun e=>L.am e.symm⟩⟩, ?_, ?_,⟨B,G,F⟩, ?_⟩
 ·have u:y.ownsRow w.heap.size 79 5 q ls.length (GI N5.cells ls):=AR h.o fun b e=>g.block b (AB h.o b e).2 fun j=>by
   obtain ⟨cs,k⟩:=n b j.symm
   obtain ⟨ds,J⟩:=AQ.ty (.inl h.o) e
   exact absurd (AX J k) (by decide)
  exact AR u fun b e=>a.block b (AB u b e).2 fun j=>by
   have:=Option.some.inj j;have:=(AB u b e).1;omega
 ·rw [length_append,I8]
  exact AR o fun b e=>a.block b (AB o b e).2 fun j=>by
   have:=Option.some.inj j;have:=(AB o b e).1;omega
 ·have:=g.size
  have:=a.size
  omega
theorem CH {w w' :World} {a sz k:Nat} {E T:TypeId} {v:Value} {xs:List Value} {r:Option Nat} (h:w.ownsRow a E sz v k xs) (g:w.grownBy w' r) (f:∀b,r=some b→∃cs,AP w b T cs) (i:E≠T):w'.ownsRow a E sz v k xs:=
 AR h fun b e=>g.block b (AB h b e).2 fun j=>by
  obtain ⟨cs,c⟩:=f b j.symm
  obtain ⟨ds,d⟩:=AQ.ty (.inl h) e
  exact i (AX d c)
theorem Gt.gn {W w x:World} {i A M T:Nat} {b:Bs} {ls:List N5} {c:Value} {ts:List T4} {g:Value} (h:Gt W w x i A M T b ls c ts g):GN x c ls:=by
 obtain ⟨f,e, -⟩:=h.lay
 exact ⟨AG h.o,fun a d=>(e.each a d).at⟩
theorem R8 (k:BitVec 8):Tryz.prog.built 79 [(0,b8 k)]=some [b8 k, .slice none 0 0, .slice none 0 0, .int .i64 0, .int .i64 0].toArray:=by
 have a:Tryz.prog.info? 79=some Tryz.t79:=by kernel_rfl
 have b:Tryz.prog.info? 3=some Tryz.t3:=by kernel_rfl
 have d:Tryz.prog.info? 77=some Tryz.t77:=by kernel_rfl
 have c:Tryz.prog.info? 70=some Tryz.t70:=by kernel_rfl
 simp [Program.built,a,underlying79,b,d,c,Instr.fill]
 rfl
set_option maxHeartbeats 2000000 in
theorem Ui (W w:World) (Rc A M:Nat) (l:Bs) (L:Ti W w Rc A M) (h:Gt W w w Rc A M w.heap.size l [] (.slice none 0 0) [] (.slice none 0 0)):
  IE prog 51 [.pointer (some ⟨Rc,0,none⟩), .pointer (some ⟨M,0,none⟩)] w NW
   (fun r w' =>r= .tuple #[]∧∃t ls ts vn vw,DO l=some (ls.map pn,ts.map pv,t)∧Gt W w w' Rc A M w'.heap.size t ls vn ts vw)
   (fun w' =>DO l=none∧Kt w w' A M):=by
 have la:=L.a
 have lc:=L.c
 have lm:=L.m
 have b_c:=h.c
 obtain ⟨v,r0⟩:=h.r
 refine Dr (n:=89) func51 (by kernel_rfl) O O O<|Ap<|Ai<|Aa (Ao (Jn _) O ‹_› rfl) O ?_
 refine Cs O O (Jy W w A v l r0) (fun w' R=>Bg (Bg (Ct (⟨by rw [DO,R.1],R.2 ▸ h.k⟩)))) ?_
 rintro _ E ⟨b,l1,e1,a,hz,rfl,r1⟩
 have h:=h.rd L a r1
 clear b_c r0 a hz r1
 have b255:=b.isLt
 refine Ad O<|Ak<|Ar ?_
 refine Bu (S:=(Nat×Bs×List N5×Value)) (fun z=>[(0, .pointer (some ⟨Rc,0,none⟩)),(1, .pointer (some ⟨M,0,none⟩)),(11, .int .i64 (b.toNat:Int)),(12, .int .i64 (z.1:Int))]) (fun z w' =>z.1≤b.toNat∧z.2.2.1.length=z.1∧CP b.toNat l1=(CP (b.toNat - z.1) z.2.1).map (fun q=>(z.2.2.1.map pn++q.1,q.2))∧Gt W w w' Rc A M w'.heap.size z.2.1 z.2.2.1 z.2.2.2 [] (.slice none 0 0)) (fun z=>b.toNat - z.1) ((0,l1,[], .slice none 0 0)) ⟨rfl,rfl,rfl,rfl,trivial⟩ ?_ ?_
 ·exact ⟨Nat.zero_le _,rfl,by simp,h.up⟩
 clear h
 rintro ⟨i,t,ls,vn⟩ w2 ⟨hi,hl,hN,h⟩
 dsimp only at hi hl hN h ⊢
 refine Ai<|B8 O<|Ak<|Ap<|Am O ?_ ?_
 ·intro g
  have hi' :i<b.toNat:=by have:=AE g;omega
  rw [show b.toNat - i=(b.toNat - (i+1))+1 by omega] at hN
  have no:FD t=none→DO l=none:=fun e=>by rw [DO,e1];simp only;rw [Pq hN e]
  have b_c:=h.c
  obtain ⟨v2,r2⟩:=h.r
  refine B1<|Ap<|Ar<|Ai<|Aa (Ao (Jn _) O ‹_› rfl) O ?_
  refine Cs O O (Jy W w2 A v2 t r2) (fun w' R=>Bg (C9 (Bg (Bg (C9 (Bg (Ct (⟨no (by simp only [FD,R.1]),R.2 ▸ h.k⟩)))))))) ?_
  rintro _ w3 ⟨k,l2,e2,a,hz,rfl,r3⟩
  have h:=h.rd L a r3
  clear b_c r2 a hz r3
  refine Aa (Ex.as (Eg Mf BW O) (cngA b8 (Vl k))) O<|Aa (Bi (cs:=[b8 k, .slice none 0 0, .slice none 0 0, .int .i64 0, .int .i64 0]) O (R8 k)) O<|C2 (cs:=[b8 k, .slice none 0 0, .slice none 0 0, .int .i64 0, .int .i64 0]) EE O O O O (fun _=>rfl) (rfl) ?_
  rintro A_x w4 eA_x f m zhn
  have hv4:∀b,vn.ownBlock=some b→b<A_x:=fun b e=>by have:=(AB h.o b e).2;omega
  have zAx:w.heap.size≤A_x:=by have:=h.chg.size;omega
  have h:=h.bs m
  have nx:vn.ownBlock≠some A_x:=fun e=>by have:=hv4 _ e;omega
  refine Ak<|Ap ?_
  refine Cw.any mixed (fun w5 U _=> ?_)
  have h:=h.bs U
  have f:=f.bs U
  clear U
  have h:=h.up
  obtain ⟨v5,r5⟩:=h.r
  refine C5 (fun x=>AP x Rc 97 [.pointer (some ⟨A,0,none⟩)]) (fun hC=> ?_) (h.c)
  refine Bz (Av (Bp (Av (Av (Bp (Av Dm))))))<|Af 0 O (fun E s=>Ao (Jn _) O s O) O<|Af 2 O (fun E s=>Ao (Jn _) O s O) O<|Bj<|AK.only (h.c) (i:=1) (by kernel_rfl) O<|Cs O O (Mp W w5 A v5 l2 r5) (fun w' R=>Bg (Bg (C9 (Bg (Bg (C9 (Bg (Ct (⟨no (by simp only [FD,e2,R.1]),h.kg L R.2⟩))))))))) ?_
  rintro x1 w6 ⟨iL,l3,e3,a,I,r6⟩
  have h:=h.rd L a r6
  have f:=f.by a (fun e=>by have:=Option.some.inj e;omega)
  have z6:=a.size
  clear r5 a r6
  obtain ⟨v6,r6⟩:=h.r
  have y1:=I.lt
  refine AK.back<|Bz (Av (Bp (Av (Av (Bp (Av Dm))))))<|Af 4 O (fun E s=>Ch underlying79 O (BL _)) O<|Bj<|AK.only (h.c) (i:=3) (by kernel_rfl) O<|Cs O O (Mp W w6 A v6 l3 r6) (fun w' R=>Bg (Bg (C9 (Bg (Bg (C9 (Bg (Ct (⟨no (by simp only [FD,e2,e3,R.1]),h.kg L R.2⟩))))))))) ?_
  rintro x2 w7 ⟨sL,l4,e4,a,T,r7⟩
  have h:=h.rd L a r7
  have f:=f.by a (fun e=>by have:=Option.some.inj e;omega)
  replace I:=AC I a (fun b e=>by cases e;exact ⟨_,r6.cell⟩) (by decide)
  have z7:=a.size
  have y2:=T.lt
  clear r6 a r7
  have zx:=AW f
  refine AK.back<|AK.only (h.c) (i:=5) (by kernel_rfl) O<|A6 (Cm (u:=x1) (BL _) O O I.slT.one' f (show 1<5 by decide)) ?_
  rintro w8 ⟨C,a, -⟩
  have h:=h.ob L a zAx f (by decide) (by decide) nx (by rintro ⟨⟩)
  replace I:=AC I a (fun b e=>by cases e;exact ⟨_,f⟩) (by decide)
  replace T:=AC T a (fun b e=>by cases e;exact ⟨_,f⟩) (by decide)
  have z8:=a.size
  clear f a
  refine AK.back<|Bz (Av (Bp (Av (Av (Bp (Av Dm))))))<|Af 6 O (fun E s=>Ch underlying79 O (BL _)) O<|Bj<|AK.only (h.c) (i:=7) (by kernel_rfl) O<|A6 (Cm (u:=x2) (BL _) O O T.slT.one' C (show 2<5 by decide)) ?_
  rintro w9 ⟨f,a, -⟩
  have h:=h.ob L a zAx C (by decide) (by decide) nx (by rintro ⟨⟩)
  replace I:=AC I a (fun b e=>by cases e;exact ⟨_,C⟩) (by decide)
  replace T:=AC T a (fun b e=>by cases e;exact ⟨_,C⟩) (by decide)
  have z9:=a.size
  clear C a
  replace f:AP w9 A_x 79 [b8 k,x1,x2, .int .i64 0, .int .i64 0]:=f
  refine AK.back<|AK.done (h.c) (by kernel_rfl)<|Ay<|B9<|Ap ?_
  refine Cw.any mixed (fun wa U _=> ?_)
  have h:=h.bs U
  have f:=f.bs U
  have I:=I.bs U
  have T:=T.bs U
  have z10:=U.size
  clear U
  obtain ⟨va,ra⟩:=h.r
  refine C5 (fun x=>AP x Rc 97 [.pointer (some ⟨A,0,none⟩)]) (fun hC=> ?_) (h.c)
  refine Bz (Av (Bp (Av (Av (Bp (Av Dm))))))<|Af 0 O (fun E s=>Ao (Jn _) O s O) O<|Af 2 O (fun E s=>Ao (Jn _) O s O) O<|Bj<|AK.only (h.c) (i:=1) (by kernel_rfl) O<|Cs O O (Jy W wa A va l4 ra) (fun w' R=>Bg (Bg (C9 (Bg (Bg (C9 (Bg (Ct (⟨no (by simp only [FD,e2,e3,e4,R.1]),R.2 ▸ h.k⟩))))))))) ?_
  rintro _ wb ⟨nb,l5,e5,a,hz,rfl,rb⟩
  have h:=h.rd L a rb
  have f:=f.by a (fun e=>by have:=Option.some.inj e;omega)
  replace I:=AC I a (fun b e=>by cases e;exact ⟨_,ra.cell⟩) (by decide)
  replace T:=AC T a (fun b e=>by cases e;exact ⟨_,ra.cell⟩) (by decide)
  clear ra a rb
  obtain ⟨vb,rb⟩:=h.r
  refine AK.back<|Bz (Av (Bp (Av (Av (Bp (Av Dm))))))<|Af 4 O (fun E s=>Ch underlying79 O (BZ _)) O<|Bj<|AK.only (h.c) (i:=3) (by kernel_rfl) O<|Cs O O (Jy W wb A vb l5 rb) (fun w' R=>Bg (Bg (C9 (Bg (Bg (C9 (Bg (Ct (⟨no (by simp only [FD,e2,e3,e4,e5,R.1]),R.2 ▸ h.k⟩))))))))) ?_
  rintro _ wc ⟨pb,l6,e6,a,hz2,rfl,rc⟩
  have h:=h.rd L a rc
  have f:=f.by a (fun e=>by have:=Option.some.inj e;omega)
  replace I:=AC I a (fun b e=>by cases e;exact ⟨_,rb.cell⟩) (by decide)
  replace T:=AC T a (fun b e=>by cases e;exact ⟨_,rb.cell⟩) (by decide)
  clear rb a rc
  refine AK.back<|AK.only (h.c) (i:=5) (by kernel_rfl) O<|A6 (Cm (u:= .int .i64 (nb.toNat:Int)) (BZ _) O O O f (show 3<5 by decide)) ?_
  rintro wd ⟨C,a,hz3⟩
  have h:=h.ob L a zAx f (by decide) (by decide) nx (by rintro ⟨⟩)
  replace I:=AC I a (fun b e=>by cases e;exact ⟨_,f⟩) (by decide)
  replace T:=AC T a (fun b e=>by cases e;exact ⟨_,f⟩) (by decide)
  clear f a
  refine AK.back<|Bz (Av (Bp (Av (Av (Bp (Av Dm))))))<|Af 6 O (fun E s=>Ch underlying79 O (BZ _)) O<|Bj<|AK.only (h.c) (i:=7) (by kernel_rfl) O<|A6 (Cm (u:= .int .i64 (pb.toNat:Int)) (BZ _) O O O C (show 4<5 by decide)) ?_
  rintro we ⟨f,a,hz4⟩
  have h:=h.ob L a zAx C (by decide) (by decide) nx (by rintro ⟨⟩)
  replace I:=AC I a (fun b e=>by cases e;exact ⟨_,C⟩) (by decide)
  replace T:=AC T a (fun b e=>by cases e;exact ⟨_,C⟩) (by decide)
  clear C a
  obtain ⟨c,s⟩:∃c:N5,c=⟨k,x1,x2,iL,sL,(nb.toNat:Int),(pb.toNat:Int)⟩:=⟨_,rfl⟩
  replace f:AP we A_x 79 c.cells:=by rw [s];exact f
  have F:NK we w5.heap.size w7.heap.size c:=by
   rw [s]
   exact ⟨I,T.mono (by omega),fun b e=>by have:=y1 b e;omega,fun b e=>by have:=y2 b e;omega,fun b q1 q2=>by have:=y1 b q1;have:=y2 b q2;omega⟩
  have hcn:FD t=some (pn c,l6):=by rw [s];simp only [FD,e2,e3,e4,e5,e6];rfl
  have oc:=F.at.ones
  clear I T s
  have K:=h.m
  refine AK.back<|AK.done (h.c) (by kernel_rfl)<|Cr<|A9 underlying27 O (BP _)<|A9 underlying24 O (CB _)<|Aa (Ao (DQ _) O ‹_› rfl) O ?_
  refine Aa (Ce (k:=5) (Hc _) (GY _) O O f) O<|An (Eb (cs:=c.cells) BM EE O O (by decide) (by decide)) O ?_
  rintro p9 wf ⟨G, -,m, -⟩
  have h:=h.bs m
  have F:=F.bs m
  have K:=h.m
  have zf:=h.chg.size
  have z7f:=m.size
  refine An (Bv (base:=w.heap.size) BM EE O (by decide) O O h.o (AG G) oc (by omega) (by omega) zf) O ?_
  rintro y wg ⟨Q, -,a, -⟩
  have b_M' :=K.by a (fun e=>by have:=(AB h.o M e.symm).1;omega)
  refine A9 underlying27 O (BP _)<|A9 underlying24 O (CB _)<|A6 (Cm (u:=y) (CB _) O O (AG Q).one' b_M' (show 0<2 by decide)) ?_
  rintro wh ⟨b_M2,hg2, -⟩
  have h:=Gt.node L h F (AU _) (by omega) (by omega) Q a hg2 b_M2
  refine A7<|Ba<|Cr<|Ca O (by omega)<|Ad O<|A7 ?_
  exact Ay (Br ((i+1,l6,ls++[c],y)) ⟨rfl,rfl,rfl,rfl,trivial⟩ (⟨hi',by rw [length_append,hl];rfl,by rw [M3 hN hcn,map_append];rfl,h.up⟩) (by simp only;omega))
 intro g
 have hi' :i=b.toNat:=by have:=AD g;omega
 clear g
 have hNR:CP b.toNat l1=some (ls.map pn,t):=by rw [hN,hi',Nat.sub_self];simp [CP]
 have no2:ET (Ls (ls.map pn)) t=none→DO l=none:=fun e=>by rw [DO,e1];simp only;rw [hNR];simp only;rw [e];rfl
 have yes2:∀ws r,ET (Ls (ls.map pn)) t=some (ws,r)→DO l=some (ls.map pn,ws,r):=fun ws r e=>by rw [DO,e1];simp only;rw [hNR];simp only;rw [e];rfl
 rw [HY] at no2 yes2
 clear hN hi
 have V:=h.gn
 have K:=h.m
 refine Bq<|Au<|Au<|Bc<|Cf<|A9 underlying27 O (BP _)<|Aa (Dy (ds:=[vn]) (ER _) (BP _) O O ‹_› rfl) O ?_
 refine Ah O O (Kk vn ls w2 V (by omega)) ?_
 rintro wl w3 ⟨m,d⟩
 have h:=h.bs m
 have s_w:=d.slT
 clear V K m
 obtain ⟨J,hJ⟩:∃J,J=(F2 ls).map (·.s):=⟨_,rfl⟩
 rw [← hJ] at no2 yes2
 have lJ:J.length=(DM ls).length:=by rw [hJ,length_map,← Lr,length_map]
 have lJ2:J.length≤ls.length:=by rw [hJ,length_map];exact length_filter_le ..
 obtain ⟨B3,hB3⟩:∃B,B=w2.heap.size:=⟨_,rfl⟩
 rw [← hB3] at d
 refine Aa (Aq AH O ‹_›) O ?_
 refine Ad O<|Ak<|Ar ?_
 refine Bu (S:=(Nat×Bs×List T4×Value)) (fun z=>[(0, .pointer (some ⟨Rc,0,none⟩)),(1, .pointer (some ⟨M,0,none⟩)),(41,wl),(42, .int .i64 ((DM ls).length:Int)),(43, .int .i64 (z.1:Int))]) (fun z w' =>z.1≤J.length∧z.2.2.1.length=z.1∧ET J t=(ET (J.drop z.1) z.2.1).map (fun q=>(z.2.2.1.map pv++q.1,q.2))∧Gt W w w' Rc A M w'.heap.size z.2.1 ls vn z.2.2.1 z.2.2.2∧AQ w' B3 3 1 wl (DM ls).length ((DM ls).map (Value.int .i64))) (fun z=>J.length - z.1) ((0,t,[], .slice none 0 0)) ⟨rfl,rfl,rfl,rfl,rfl,trivial⟩ ?_ ?_
 ·exact ⟨Nat.zero_le _,rfl,by simp,h.up,d⟩
 clear h d s_w
 rintro ⟨j,D,ts,vw⟩ w4 ⟨hj,hlt,hN,h,d⟩
 dsimp only at hj hlt hN h d ⊢
 have s_w:=d.slT
 refine Ai<|B8 O<|Ak<|Ap<|Am O ?_ ?_
 ·intro g
  have hj' :j<(DM ls).length:=by have:=AE g;omega
  obtain ⟨i',hi2,ej,h2,eF⟩:=PY hj'
  obtain ⟨x,hx⟩:∃x,x=ls[i']:=⟨_,rfl⟩
  have hxg:ls.getD i' default=x:=by rw [getD_eq_getElem?_getD,getElem?_eq_getElem hi2,hx];rfl
  have hJx:J[j]? =some x.s:=by rw [hJ,getElem?_map,getElem?_eq_getElem h2,eF,hxg];rfl
  rw [drop_eq_getElem_cons (show j<J.length by omega),(List.getElem?_eq_some_iff.1 hJx).2] at hN
  have no:Og x.s D=none→DO l=none:=fun e=>no2 (RQ hN e)
  have V:=h.gn
  have had:=V.ad hi2
  have hck:=(V.cell hi2).2
  rw [← hx] at hck
  have hxat:=V.each x (hx ▸ getElem_mem hi2)
  have sv:=V.sl
  have K:=h.m
  refine B1<|Ap<|Ar<|Ai<|Aa (Bb AH O O ‹_› _ O (by omega)) O ?_
  refine Aa (Ex.as (Bf (BD _) O s_w hj') (cngA (Value.int .i64) ej)) O<|Ab O<|A3<|A9 underlying27 O (BP _)<|A9 underlying24 O (CB _)<|Aa (Ao (DQ _) O ‹_› rfl) O ?_
  refine Ad O<|Aa (C6 BM O O sv i' O hi2) O<|Aa (Df (q:=0) underlying79 O (BL _) O had) O<|Aa (F3 (AY _) O sv hck) O<|Ah O O (UK x.y x.s w4 hxat.s) ?_
  rintro _ w5 ⟨m,⟨hok,tx,ty,rfl,hm⟩|⟨hno,rfl⟩⟩
  ·have h:=h.bs m
   have d:=d.bs m
   have z5:=m.size
   obtain ⟨N,hNn⟩:∃N,N=(Shapes.size x.s).toNat:=⟨_,rfl⟩
   have sz:=Shapes.size_le x.s
   obtain ⟨zl,hzl⟩:∃z,z=replicate (Shapes.size x.s).toNat 0#32:=⟨_,rfl⟩
   have lz:zl.length=N:=by rw [hzl,length_replicate,hNn]
   rw [← hzl] at hm
   have H:=hm.row
   have ox:=H.lt
   have oy:=AB hm.own
   have X:=hm.own
   clear m sv hxat V K s_w
   have one2:[tx,ty].all (·.oneCell')=true:=by simp [H.slT.one',(AL X).one']
   refine Ad O<|Aa (Az (i:=0) O O) O<|Aa (Az (i:=1) O O) O<|C2 (cs:=[tx,ty]) GF O O O O (fun _=>rfl) (one2) ?_
   rintro Z w6 eA_t o m zhn
   have zAt:w.heap.size≤Z:=by have:=h.chg.size;omega
   have nvt:vn.ownBlock≠some Z:=fun e=>by have:=(AB h.o _ e).2;omega
   have nwt:vw.ownBlock≠some Z:=fun e=>by have:=(AB h.u _ e).2;omega
   have zt:=m.size
   have h:=h.bs m
   have d:=d.bs m
   have H:=H.bs m
   replace X:=AF X m
   refine Ab O<|A8<|Ad O<|Aa (C0 O O) O<|Ak<|Cq O false (rfl)<|B1<|Ap ?_
   obtain ⟨n,hn32⟩:∃n,n=BitVec.ofInt 32 (zl.length:Int):=⟨_,rfl⟩
   have en:n.toNat=N:=by rw [hn32,lz,BitVec.toNat_ofInt];omega
   have sh_y:=(AG X).shp
   refine Cw.any mixed (fun wx U _=> ?_)
   have h:=h.bs U
   have d:=d.bs U
   have H:=H.bs U
   replace X:=AF X U
   have o:=o.bs U
   have zx:=U.size
   clear U
   obtain ⟨vr,rr⟩:=h.r
   refine C5 (fun y=>AP y Rc 97 [.pointer (some ⟨A,0,none⟩)]∧AP y Z 75 [tx,ty]) (fun hC=> ?_) (⟨h.c,o⟩)
   refine Bz (Av (Bp (Av (Av (Bp Dm)))))<|Af 0 O (fun E s=>Ch underlying75 O (FY _)) O<|Af 1 O (fun E s=>Ao (GG _) O (by first|exact s.1|exact s.2) O) O<|Af 2 O (fun E s=>D5 CE O sh_y) O<|Af 3 O (fun E s=>Ex.as (E3 Mf Ia O) (cngA u32 hn32.symm)) O<|Af 5 O (fun E s=>Ao (Jn _) O (by first|exact s.1|exact s.2) O) O<|Af 6 O (fun E s=>Ch underlying75 O (FY _)) O<|Af 7 O (fun E s=>Ao (GG _) O (by first|exact s.1|exact s.2) O) O<|Af 8 O (fun E s=>D5 CE O sh_y) O<|Af 9 O (fun E s=>Ex.as (E1 O O (by omega)) (cngA (Value.int .i64) (show 4*(zl.length:Int)=((4*N:Nat):Int) by omega))) O<|Bj<|AK.only (⟨h.c,o⟩) (i:=4) (by kernel_rfl) O<|Ah O O (KN (.slice none 0 0) [] n wx (Cv _ _) (by simp)) ?_
   rintro p1 wy ⟨m,G⟩
   rw [nil_append] at G
   have h:=h.bs m
   have d:=d.bs m
   have H:=H.bs m
   replace X:=AF X m
   have o:=o.bs m
   have rr:=rr.bs m
   have s_1:=AL G
   have zy:=m.size
   refine AK.back<|AK.only (⟨h.c,o⟩) (i:=10) (by kernel_rfl) O<|Cs O O (L3 W wy A (4*N) vr D rr) (fun w' R=>Bg (Bg (C9 (Bg (Bg (C9 (Ct (⟨no (Mc (.inr (by omega))),R.2 ▸ h.k⟩)))))))) ?_
   rintro p2 wz ⟨hle,a,hz,Y,rr2⟩
   have tA:∀b,some A=some b→∃cs,AP wy b 99 cs:=fun b e=>by cases e;exact ⟨_,rr.cell⟩
   have h:=h.rd L a rr2
   replace d:=AC d a tA (by decide)
   replace H:=AC H a tA (by decide)
   replace X:=CH X a tA (by decide)
   replace G:=CH G a tA (by decide)
   have o:=o.by a (fun e=>by have:=Option.some.inj e;have:=h.chg.size;omega)
   have Y:=Y.bs (show Below W.heap.size W wz by obtain ⟨q,hq⟩:=rr2;exact hq.bel)
   have s_1:=AL G
   clear rr a tA
   have one3:[p1,p2].all (·.oneCell')=true:=by simp [s_1.one',Y.one']
   refine AK.back<|AK.only (⟨h.c,o⟩) (i:=11) (by kernel_rfl) O<|An (B7 (vs:=[p1,p2]) FQ Re O O O one3 O) O ?_
   rintro a1 wa ⟨o_a, -,m, -⟩
   have h:=h.bs m
   have d:=d.bs m
   have H:=H.bs m
   replace X:=AF X m
   have o:=o.bs m
   have s_1:=s_1.bs m
   have Y:=Y.bs m
   have za:=m.size
   have lc2:(D.take (4*N)).length=4*N:=by rw [length_take];omega
   refine AK.back<|AK.only (⟨h.c,o⟩) (i:=12) (by kernel_rfl) O<|Ah O O (NT a1 [(p1,Crc.four n),(p2,D.take (4*N))] wa (AG o_a) (by intro p hp;simp at hp;rcases hp with rfl|rfl;exact s_1;exact Y) (by simp [Crc.four];omega)) ?_
   rintro q wb ⟨o_q,m⟩
   have eq:(([(p1,Crc.four n),(p2,D.take (4*N))]:List (Value×List (BitVec 8))).map (·.2)).flatten=Crc.four n++D.take (4*N):=by simp
   rw [eq] at o_q
   have s_q:=AL o_q
   have h:=h.bs m
   have d:=d.bs m
   have H:=H.bs m
   replace X:=AF X m
   have o:=o.bs m
   have zb:=m.size
   clear m eq
   refine AK.back<|AK.only (⟨h.c,o⟩) (i:=13) (by kernel_rfl) O<|Ah O O (PK q n (D.take (4*N)) wb s_q (by rw [lc2,en]) (by omega)) ?_
   rintro _ wc ⟨m,y',e',rfl,Q⟩
   have h:=h.bs m
   have d:=d.bs m
   have H:=H.bs m
   have o:=o.bs m
   have zc:=m.size
   have yy:=AB Q
   clear m X s_q o_q s_1 Y o_a G
   refine AK.back<|Bz (Av (Bp (Av (Av (Bp Dm)))))<|Af 14 O (fun E s=>Bl O) O<|Af 15 O (fun E s=>Az (i:=0) O O) O<|Af 16 O (fun E s=>Az (i:=1) O O) O<|Af 17 O (fun E s=>Az (i:=2) O O) O<|Af 18 O (fun E s=>Bx O) O<|Af 19 O (fun E s=>Bx O) O<|Af 20 O (fun E s=>Bx O) O<|Bj<|AK.done (⟨h.c,o⟩) (by kernel_rfl)<|Cf<|Ad O<|A9 underlying75 O (FY _)<|A6 (Cm (u:=y') (FY _) O O (AL Q).one' o (show 1<2 by decide)) ?_
   rintro wd ⟨b_t2,a, -⟩
   have tT:∀b,some Z=some b→∃cs,AP wc b 75 cs:=fun b e=>by cases e;exact ⟨_,o⟩
   have h:=h.ob L a zAt o (by decide) (by decide) nvt nwt
   replace d:=AC d a tT (by decide)
   replace H:=AC H a tT (by decide)
   replace Q:=CH Q a tT (by decide)
   have zd:=a.size
   clear a tT o
   obtain ⟨c,s⟩:∃c:T4,c=⟨tx,y',x.s,nums (D.take (4*N))⟩:=⟨_,rfl⟩
   have F:EY wd w4.heap.size wc.heap.size c:=by
    rw [s]
    exact ⟨H, .inl (CR Q (by omega)),fun b e=>by have:=ox b e;omega,fun b e=>by have:=yy b e;omega,fun b q1 q2=>by have:=yy b q1;have:=ox b q2;omega⟩
   have oc:[c.x,c.y].all (·.oneCell')=true:=by simp [F.at.1.one',F.at.2.one']
   have hw:Og x.s D=some (pv c,D.drop (4*N)):=by rw [s,PZ hok (by omega),← hNn];rfl
   replace o:AP wd Z 75 [c.x,c.y]:=by rw [s];exact b_t2
   clear H Q s b_t2
   have K:=h.m
   refine Ak<|A5<|A9 underlying27 O (CZ _)<|Aa (Ao (FH _) O ‹_› rfl) O ?_
   refine Aa (Ce (k:=2) (IB _) (Ig _) O O o) O<|An (Eb (cs:=[c.x,c.y]) BY GF O O (by decide) (by decide)) O ?_
   rintro p9 we ⟨G, -,m, -⟩
   have h:=h.bs m
   have F:=F.bs m
   have d:=d.bs m
   have K:=h.m
   have ze:=h.chg.size
   have zn:=m.size
   refine An (Bv (base:=w.heap.size) BY GF O (by decide) O O h.u (AG G) oc (by omega) (by omega) ze) O ?_
   rintro yv wf ⟨o_v, -,a, -⟩
   have b_M' :=K.by a (fun e=>by have:=(AB h.u M e.symm).1;omega)
   replace d:=AC d a (fun b e=>AQ.ty (.inl h.u) e) (by decide)
   refine A9 underlying27 O (CZ _)<|A6 (Cm (u:=yv) (CZ _) O O (AG o_v).one' b_M' (show 1<2 by decide)) ?_
   rintro wg ⟨b_M2,hg2, -⟩
   replace d:=AC d hg2 (fun b e=>by cases e;exact ⟨_,b_M'⟩) (by decide)
   have h:=Gt.tens L h F (AU _) (by omega) (by omega) o_v a hg2 b_M2
   refine A7<|Ba<|Cr<|Ca O (by omega)<|Ad O<|A7 ?_
   exact Ay (Br ((j+1,D.drop (4*N),ts++[c],yv)) ⟨rfl,rfl,rfl,rfl,rfl,trivial⟩ (⟨by omega,by rw [length_append,hlt];rfl,by rw [OP hN hw,map_append];rfl,h.up,d⟩) (by simp only;omega))
  have h:=h.bs m
  refine Ad O<|Aa (Az (i:=0) O O) O<|Aa (Az (i:=1) O O) O<|C2 (cs:=[.slice none 0 0, .slice none 0 0]) GF O O O O (fun _=>rfl) (rfl) ?_
  rintro Z w6 eA_t o m zhn
  have h:=h.bs m
  refine Ab O<|A8<|Ad O<|Aa (C0 O O) O<|Ak<|Cq O true (rfl)<|A5<|Aa (Bi (vs:=[]) (cs:=[]) O (by kernel_rfl)) O<|Aa (D3 underlying106 O) O ?_
  refine Ed O (Bg (C9 (Bg (Bg (C9 (Ct (⟨no (Mc (.inl hno)),h.k⟩)))))))
 intro g
 have hj' :j=J.length:=by have:=AD g;omega
 rw [hj',drop_length] at hN
 refine Bq<|Au<|Au<|Bc<|Fz O ?_
 exact ⟨rfl,D,ls,ts,vn,vw,yes2 _ _ (by rw [hN];simp [ET]),h⟩

-- dd: text
structure LZ (W w:World) (A:Nat) (v:Value) (l:List (List UInt8)):Prop where
 sl:BE st W v l
 bel:Below W.heap.size W w
 lo:W.heap.size≤A
 cell:AP w A 139 [v]
theorem LZ.bs {W w w' :World} {A:Nat} {v:Value} {l:List (List UInt8)} (h:LZ W w A v l) (g:Below w.heap.size w w'):LZ W w' A v l:=⟨h.sl,bt h.bel g,h.lo,h.cell.bs g⟩
theorem LZ.grow {W w w' :World} {A:Nat} {v:Value} {l:List (List UInt8)} {r:Option Nat} (h:LZ W w A v l) (g:w.grownBy w' r) (a:∀b,r=some b→W.heap.size≤b∧b≠A):LZ W w' A v l:=
 ⟨h.sl,h.bel.grown g (AA h.bel) fun b e=>(a b e).1,h.lo,h.cell.by g fun e=>(a A e.symm).2 rfl⟩
theorem Nl (W w:World) (A:Nat) (v:Value) (l:List (List UInt8)) (s:List UInt8) (p:LZ W w A v l):
  IE prog 207 [.pointer (some ⟨A,0,none⟩),st s] w NW
   (fun r w' =>∃m,EM s l=some m∧w.grownBy w' (some A)∧w'.heap.size=w.heap.size∧∃v',LZ W w' A v' m) (fun w' =>EM s l=none∧w' =w):=by
 obtain ⟨c,h,f,b⟩:=p
 have j:=c.bs h
 refine Dr (n:=32) func207 (by kernel_rfl) O O O<|Ap<|Ai<|Ad O<|Aa (E2 O O) O<|Ak<|Am O ?_ ?_
 ·intro g
  have g:s=[]:=AE g
  refine Dq<|A0<|Pw.ret0q O ?_
  exact ⟨l,by unfold EM;rw [if_pos g],DY _ _,rfl,v,c,h,f,b⟩
 intro g
 have g:¬s=[]:=AD g
 refine B1<|Ap<|Ai<|Ad O<|Aa (Cp O) O<|A9 underlying139 O (EI _)<|Aa (Ao (Hz _) O ‹_› rfl) O ?_
 refine Aa (Aq CA O ‹_›) O ?_
 refine Aa (Cn O O) O<|Ad O ?_
 refine Cc 12 O ?_ ?_
 ·intro d
  have d:l=[]:=eq_nil_of_length_eq_zero (by have:=AE d;omega)
  refine Ae (dj:=12) O O O O<|Ae (dj:=12) O O O O<|Ae (dj:=12) O O O O<|Ae (dj:=12) O O O O<|Ae (dj:=12) O O O O<|Ae (dj:=12) O O O O<|Ae (dj:=12) O O O O<|Ae (dj:=12) O O O O<|Bt O<|Ak<|B6 O<|A5<|Aa (Bi (vs:=[]) (cs:=[]) O (by kernel_rfl)) O<|Aa (D3 underlying106 O) O ?_
  refine Ed O (Bg (Ct (⟨by unfold EM;rw [if_neg g,d],rfl⟩)))
 intro d
 have d:0<l.length:=by have:=AD d;omega
 have k:l=l.getD 0 default::l.drop 1:=by
  cases l with
  |nil=>exact absurd d (by simp)
  |cons a t=>rfl
 refine Aj (dj:=12) O O<|Ad O<|Aj (dj:=12) O O<|Aa (Cp O) O<|Aj (dj:=12) O O<|A9 underlying139 O (EI _)<|Aj (dj:=12) O O<|Aa (Ao (Hz _) O ‹_› rfl) O ?_
 refine Aj (dj:=12) O O<|Aa (Bb CA O O ‹_› 0 O (by omega)) O ?_
 refine Aj (dj:=12) O O<|Aa (Bf (GV _) O ‹_› (by omega)) O ?_
 refine Aj (dj:=12) O O<|Ad O<|Aj (dj:=12) O O<|Aa (E0 O O) O<|Co O<|Ak<|Am O ?_ ?_
 ·intro e
  have e:¬l.getD 0 default=s:=by simpa using e
  refine A5<|Aa (Bi (vs:=[]) (cs:=[]) O (by kernel_rfl)) O<|Aa (D3 underlying106 O) O ?_
  refine Ed O (Bg (Ct (⟨by unfold EM;rw [if_neg g,k];exact if_neg e,rfl⟩)))
 intro e
 have e:l.getD 0 default=s:=by simpa using e
 refine B1<|A5<|Ad O<|Ad O<|Aa (Cp O) O<|A9 underlying139 O (EI _)<|Aa (Ao (Hz _) O ‹_› rfl) O ?_
 refine Aa (Fo (i:=1) CA O O j (by omega)) O<|Aa (Cp O) O<|A9 underlying139 O (EI _)<|A6 (Cm (EI _) O O (c.drop (show 1≤l.length by omega)).one' b (show 0<1 by omega)) ?_
 rintro w ⟨b,o,q⟩
 refine A7<|Fz O ?_
 exact ⟨l.drop 1,by unfold EM;rw [if_neg g,k];exact if_pos e,o,q,_,⟨c.drop (show 1≤l.length by omega),h.grown o (AA h) (by rintro _ ⟨⟩;omega),f,b⟩⟩
def IC (most:Nat) (l:List (List UInt8)) (ns:List Int) (rest:List (List UInt8)):Prop:=ns.length≤most∧DA most l=(ns++(DA (most - ns.length) rest).1,(DA (most - ns.length) rest).2)
theorem Gr (a:Nat) (l:List (List UInt8)):IC a l [] l:=⟨Nat.zero_le _,rfl⟩
theorem IC.done {b:Nat} {l:List (List UInt8)} {ns:List Int} {a:List (List UInt8)} (h:IC b l ns a) (e:a=[]∨b≤ns.length∨FC (a.getD 0 default)=none):DA b l=(ns,a):=by
 obtain ⟨d,c⟩:=h
 rw [c]
 have key:DA (b - ns.length) a=([],a):=by
  cases hm:b - ns.length with
  |zero=>rfl
  |succ m=>
   cases a with
   |nil=>rfl
   |cons w r=>
    rcases e with e|e|e
    ·cases e
    ·omega
    ·have e:FC w=none:=e
     simp only [DA,e]
 rw [key,append_nil]
theorem IC.step {a:Nat} {l:List (List UInt8)} {ns:List Int} {b:List (List UInt8)} {n:Int} (h:IC a l ns b) (g:0<b.length) (f:ns.length<a) (e:FC (b.getD 0 default)=some n):IC a l (ns++[n]) (b.drop 1):=by
 obtain ⟨i,d⟩:=h
 refine ⟨by rw [length_append];exact f, ?_⟩
 rw [d,length_append,length_singleton]
 obtain ⟨m,c⟩:∃m,a - ns.length=m+1:=⟨a - ns.length - 1,by omega⟩
 rw [c,show a - (ns.length+1)=m by omega]
 cases b with
 |nil=>exact absurd g (by simp)
 |cons w r=>
  have e:FC w=some n:=e
  simp [DA,e]
set_option maxHeartbeats 1000000 in
theorem H9 (W w:World) (A d c:Nat) (v:Value) (l:List (List UInt8)) (hG:Jv W) (H:LZ W w A v l) (hl:∀x ∈ l,x.length≤65536) (hn:l.length≤65537) (hm:c≤65536):
  IE prog 208 [.pointer (some ⟨A,0,none⟩), .int .i64 (d:Int), .int .i64 (c:Int)] w NW
   (fun r w' =>∃ns l',NY d c l=some (ns,l')∧w.grownBy w' (some A)∧AQ w' w.heap.size 3 1 r ns.length (ns.map (Value.int .i64))∧∃v',LZ W w' A v' l')
   (fun w' =>NY d c l=none∧w.grownBy w' (some A)):=by
 have zW:=H.bel.size
 have zA:=AW H.cell
 refine Dr (n:=53) func208 (by kernel_rfl) O O O<|Ai<|Ab O<|Ak<|Ap ?_
 refine D6 (St:=(List Int×Value×Value×List (List UInt8))) (fun z=>[(1, .int .i64 (d:Int)),(6,z.2.1)]) (fun z w' =>DA c l=(z.1,z.2.2.2)∧w.grownBy w' (some A)∧w'.ownsRow w.heap.size 3 1 z.2.1 z.1.length (z.1.map (Value.int .i64))∧LZ W w' A z.2.2.1 z.2.2.2) ?_ ?_
 ·refine Ar ?_
  refine Bu (S:=(List Int×Value×Value×List (List UInt8))) (fun z=>[(0, .pointer (some ⟨A,0,none⟩)),(1, .int .i64 (d:Int)),(2, .int .i64 (c:Int)),(6,z.2.1)]) (fun z w' =>IC c l z.1 z.2.2.2∧(∃k,z.2.2.2=l.drop k)∧w.grownBy w' (some A)∧w'.ownsRow w.heap.size 3 1 z.2.1 z.1.length (z.1.map (Value.int .i64))∧LZ W w' A z.2.2.1 z.2.2.2) (fun z=>z.2.2.2.length) (([], .slice none 0 0,v,l)) ⟨rfl,rfl,rfl,rfl,trivial⟩ ?_ ?_
  ·exact ⟨Gr c l,⟨0,rfl⟩,DY _ _,World.ownsRow_nil _ _ _ _,H⟩
  rintro ⟨ns,y,u,a⟩ h ⟨hS,⟨k,hk⟩,E,t,H⟩
  dsimp only at hS hk E t H ⊢
  obtain ⟨o,hB,G,D⟩:=H
  have s_u:=o.bs hB
  have rl:a.length≤l.length:=by rw [hk,length_drop];omega
  have nl:=hS.1
  refine Ap<|Ai<|Ad O<|Aa (Cp O) O<|A9 underlying139 O (EI _)<|Aa (Ao (Hz _) O ‹_› rfl) O ?_
  refine Aa (Aq CA O ‹_›) O ?_
  refine Aa (C7 O O) O<|Ad O ?_
  refine Cc 15 O ?_ ?_
  ·intro g
   have g:0<a.length:=by have:=AE g;omega
   have hl0:(a.getD 0 default).length≤65536:=hl _ (by
    rw [getD_eq_getElem?_getD,getElem?_eq_getElem g,Option.getD_some]
    have q:a[0] ∈ a:=getElem_mem g
    exact mem_of_mem_drop (i:=k) (hk ▸ q))
   have s_y:=AG t
   refine Aj (dj:=15) O O<|Ad O<|Aj (dj:=15) O O<|Aa (Aq AH O ‹_›) O ?_
   refine Aj (dj:=15) O O<|Ad O<|Aj (dj:=15) O O<|B8 O<|Bt O<|Ak<|Am O ?_ ?_
   ·intro N
    have N:ns.length<c:=by have:=AE N;omega
    refine B1<|Ar<|Ai<|Ad O<|Aa (Cp O) O<|A9 underlying139 O (EI _)<|Aa (Ao (Hz _) O ‹_› rfl) O ?_
    refine Aa (Bb CA O O ‹_› 0 O (by omega)) O ?_
    refine Aa (Bf (GV _) O ‹_› (by omega)) O ?_
    refine Ah O O (QJ (a.getD 0 default) h (hG.bs hB) (by omega)) ?_
    rintro _ w2 ⟨f,x,rfl,hx⟩
    have U:=AS E (BC f _)
    have Z:=AF t f
    have V:=bt hB f
    have B:=D.bs f
    refine Ad O<|Aa (Az (i:=0) O O) O<|Aa (Az (i:=1) O O) O<|Ab O<|Ab O<|A8<|Ad O<|Aa (Cz O) O<|Ak<|Am O ?_ ?_
    ·intro L
     have L:FC (a.getD 0 default)=none:=by
      cases e:FC (a.getD 0 default) with
      |none=>rfl
      |some n=>rw [e] at L;cases L
     exact Bq<|Au<|Pw.blkE rfl<|Au<|Bc<|B4 ((ns,y,u,a)) ⟨rfl,rfl,trivial⟩ (⟨hS.done (.inr (.inr L)),U,Z,o,V,G,B⟩)
    intro L
    obtain ⟨n,en⟩:∃n,FC (a.getD 0 default)=some n:=by
     cases e:FC (a.getD 0 default) with
     |none=>rw [e] at L;cases L
     |some n=>exact ⟨n,rfl⟩
    obtain rfl:=hx n en
    refine B1 ?_
    refine Cw.any mixed (fun w3 hd _=> ?_)
    have Q:=AS U (BC hd _)
    have K:=AF Z hd
    have I:=bt V hd
    have j:=B.bs hd
    clear E U t Z hB V D B s_u s_y hd f
    refine Aw.seg (St:=Value) (g:=1) [0,1,2,3,4,5,6,7,8,9,10,11,12] 13 (fun y=>[(0, .pointer (some ⟨A,0,none⟩)),(1, .int .i64 (d:Int)),(2, .int .i64 (c:Int)),(6,y),(42,cut u 1 1 a.length),(44, .pointer (some ⟨A,0,none⟩))]) (fun y w' =>w.grownBy w' (some A)∧w'.ownsRow w.heap.size 3 1 y (ns++[n]).length ((ns++[n]).map (Value.int .i64))∧AP w' A 139 [u]∧Below W.heap.size W w') (by kernel_rfl) O ?_ ?_
    ·refine C5 (fun w' =>AP w' A 139 [u]∧Below W.heap.size W w') (fun hC=> ?_) (⟨j,I⟩)
     refine Bz (Av (Bp (Av (Bp Bo))))<|Af 0 O (fun h p=>Bl O) O<|Af 1 O (fun h p=>Bl O) O<|Af 2 O (fun h p=>Bl O) O<|Af 5 O (fun h p=>Bl O) O<|Af 6 O (fun h p=>Cp O) O<|Af 7 O (fun h p=>Ch underlying139 O (EI _)) O<|Af 8 O (fun h p=>Ao (Hz _) O p.1 O) O<|Af 9 O (fun h p=>Fo (i:=1) CA O O (o.bs p.2) (by omega)) O<|Bj<|AK.only ((by constructor<;>assumption)) (i:=3) (by kernel_rfl) O ?_
     refine An (B7 (vs:=[n].map (Value.int .i64)) AH DH O O O O O) O ?_
     rintro q w4 ⟨o_q, -,C, -⟩
     have M:=AS Q (BC C _)
     have R:=AF K C
     have hB4:=bt I C
     have J:=j.bs C
     clear Q K I j
     refine AK.back<|AK.only ((by constructor<;>assumption)) (i:=4) (by kernel_rfl) O ?_
     refine An (Bv (base:=w.heap.size) AH DH O (by decide) O O R (AG o_q) (BI (fun _=>rfl) _) (by omega) (by omega) M.size) O ?_
     rintro y' w5 ⟨m,T,hy5, -⟩
     have Y:=DI M hy5 fun b e=>(AB R b e).1
     have F:=hB4.trans (T.mono zW)
     have s:=J.bl T zA
     rw [← map_append,show ns.length+1=(ns++[n]).length by rw [length_append];rfl] at m
     clear M R hB4 J T hy5
     refine AK.back<|Bz (Av (Bp (Av (Bp Bo))))<|Af 10 O (fun h p=>Bx O) O<|Af 11 O (fun h p=>Cp O) O<|Af 12 O (fun h p=>Ch underlying139 O (EI _)) O<|Bj<|AK.done ((by constructor<;>assumption)) (by kernel_rfl) ?_
     exact Ay (Pw.seg (y') ⟨rfl,rfl,rfl,rfl,rfl,rfl,trivial⟩ (⟨Y,m,s,F⟩))
    clear Q K I j
    rintro y' w5 ⟨Y,m,s,F⟩
    have s_d:=o.drop (show 1≤a.length by omega)
    refine Aw.only (i:=13) (by kernel_rfl) O<|A6 (Cm (EI _) O O s_d.one' s (show 0<1 by omega)) ?_
    rintro w6 ⟨b_A6,X,hz6⟩
    have ho6:=AR m fun b e=>X.block b (AB m b e).2 fun e2=>by
     have:=Option.some.inj e2;have:=(AB m b e).1;omega
    refine Aw.back<|Aw.done (by kernel_rfl)<|Ba ?_
    exact Ay (Br ((ns++[n],y',cut u 1 1 a.length,a.drop 1)) ⟨rfl,rfl,rfl,rfl,trivial⟩ (⟨hS.step g N en,⟨k+1,by rw [hk,drop_drop]⟩,AS Y X,ho6,s_d,F.grown X (AA F) (by rintro _ ⟨⟩;omega),G,b_A6⟩) (by simp only [length_drop];omega))
   intro N
   have N:c≤ns.length:=by have:=AD N;omega
   exact Bq<|Au<|Au<|Bc<|B4 ((ns,y,u,a)) ⟨rfl,rfl,trivial⟩ (⟨hS.done (.inr (.inl N)),E,t,o,hB,G,D⟩)
  intro g
  have g:a=[]:=eq_nil_of_length_eq_zero (by have:=AD g;omega)
  exact Ae (dj:=15) rfl rfl rfl rfl<|Ae (dj:=15) rfl rfl rfl rfl<|Ae (dj:=15) rfl rfl rfl rfl<|Ae (dj:=15) rfl rfl rfl rfl<|Co rfl<|Ak<|F5 rfl<|Bq<|Au<|Au<|Bc<|B4 ((ns,y,u,a)) ⟨rfl,rfl,trivial⟩ (⟨hS.done (.inl g),E,t,o,hB,G,D⟩)
 rintro ⟨ns,y,u,a⟩ h ⟨hN,E,t,H⟩
 dsimp only at hN E t H ⊢
 have s_y:=AG t
 refine B9<|Ap<|Ai<|Ad O<|Aa (Aq AH O ‹_›) O ?_
 refine Ad O<|B8 O<|Ak<|Am O ?_ ?_
 ·intro g
  have g:ns.length<d:=by have:=AE g;omega
  refine A5<|Aa (Bi (vs:=[]) (cs:=[]) O (by kernel_rfl)) O<|Aa (D3 underlying106 O) O ?_
  refine Ed O (Bg (Ct (⟨by rw [NY,hN];exact if_pos g,E⟩)))
 intro g
 have g:¬ns.length<d:=by have:=AD g;omega
 refine Ci<|Ad O<|Ah O O (Ky y ns h (AL t)) ?_
 rintro _ w2 ⟨rfl,f⟩
 refine Ab O<|As<|Fg O O ?_
 exact ⟨ns,a,by rw [NY,hN];exact if_neg g,AS E (BC f _),(AQ.clip t).bs f,u,H.bs f⟩
end Go.Proofs.YtblbopcaflaldaaGreatDoor

namespace Go.Proofs.YtblbopcaflaldaaGreatDoor
open Go Go.Dd Go.RowKit List
set_option maxRecDepth 100000
-- dd: text
theorem Tl.bs {w w' :World} {b:Nat} {l:List UInt8} (h:Tl w b l) (g:Below w.heap.size w w'):Tl w' b l:=by
 have key:∀p,Lib.BuilderAtF 121 5 b b p (Lib.byteCells l) w→Lib.BuilderAtF 121 5 b b p (Lib.byteCells l) w' :=by
  rintro p ⟨e,v,d,i,f⟩
  have a:∀k o,w.heap[k]? =some o→w'.heap[k]? =some o:=fun k o c=>by rw [g.block k (Array.getElem?_eq_some_iff.1 c).1];exact c
  refine ⟨e,v,a _ _ d,i.kept (BC g none) ?_,f⟩
  cases v.ownBlock with
  |none=>exact .inl rfl
  |some b=>exact .inr (by simp)
 exact h.imp (key _) (key _)
theorem MB (c:UInt8):∀xs:List (List UInt8),(Lib.join xs [c]).length≤(xs.map length).sum+xs.length
 |[]=>AU 0
 |x::xs=>by
  rw [Lib.join_cons,length_append]
  have:(Lib.joinTail [c] xs).length=(xs.map length).sum+xs.length:=by
   unfold Lib.joinTail
   induction xs with
   |nil=>rfl
   |cons y ys ih=>simp only [map_cons,flatten_cons,length_append,ih,List.sum_cons,length_cons,length_nil];omega
  simp only [map_cons,List.sum_cons,length_cons]
  omega
theorem Nu {m:Nat}:∀{xs:List (List UInt8)},(∀x ∈ xs,x.length≤m)→(xs.map length).sum≤m*xs.length
 |[],_=>Nat.zero_le _
 |x::xs,h=>by
  have c:=h x (by simp)
  have b:=Nu (xs:=xs) fun y a=>h y (by simp [a])
  simp only [map_cons,List.sum_cons,length_cons,Nat.mul_succ]
  omega
theorem T6:∀k:BitVec 8,(AZ k).word.length≤21∧(AZ k).nxt.length≤21∧(AZ k).last.length≤21:=by decide+kernel
theorem Ix {n:Int} (h:0≤n∧n≤65536):(Lib.itoa n).length≤21:=Lib.itoa_length_le n (by omega) (by omega)
theorem KY {x:N5} (h:EL x):(CM (AZ x.k) x).length≤12∧∀y ∈ CM (AZ x.k) x,y.length≤21:=by
 obtain ⟨e,c,d⟩:=T6 x.k
 have g:=h.il.2
 have f:=h.sl
 unfold CM
 constructor
 ·simp only [length_append,length_map,length_singleton]
  split<;>split<;>(try split)<;>simp<;>omega
 ·intro y a
  simp only [mem_append,mem_singleton] at a
  rcases a with (((rfl|a)|a)|a)|a
  ·exact e
  ·obtain ⟨n,b,rfl⟩:=List.mem_map.1 a
   exact Ix (h.ii n b)
  ·split at a
   ·cases a
   ·rw [List.mem_singleton.1 a];exact c
  ·split at a
   ·obtain ⟨n,b,rfl⟩:=List.mem_map.1 a
    exact Ix (h.ss n b)
   ·split at a
    ·cases a
    ·rw [List.mem_singleton.1 a];exact Ix ⟨h.nn.1,by have:=h.nn.2;omega⟩
  ·split at a
   ·cases a
   ·rcases List.mem_cons.1 a with rfl|a
    ·exact d
    ·rw [List.mem_singleton.1 a];exact Ix ⟨h.pp.1,by have:=h.pp.2;omega⟩
theorem Pv {x:N5} (h:EL x):(Jj x).length≤300:=by
 obtain ⟨c,a⟩:=KY h
 have d:=MB 32 (CM (AZ x.k) x)
 have b:=Nu a
 unfold Jj
 rw [length_append]
 simp only [length_singleton]
 omega
theorem OZ (a b:List N5):BX (a++b)=BX a++BX b:=by simp [BX]
theorem IH:∀{ls:List N5},(∀x ∈ ls,EL x)→(BX ls).length≤300*ls.length
 |[],_=>Nat.zero_le _
 |x::ls,h=>by
  have c:=Pv (h x (by simp))
  have b:=IH (ls:=ls) fun y a=>h y (by simp [a])
  have e:BX (x::ls)=Jj x++BX ls:=rfl
  rw [e,length_append,length_cons]
  omega
theorem Kl {ls:List N5} (h:(EK ls).isSome=true):ls.length≤32∧∀x ∈ ls,EL x:=by
 obtain ⟨c,b⟩:=Option.isSome_iff_exists.1 h
 have d:=LF b
 refine ⟨d, ?_⟩
 have m:DX [] ls=some c:=by
  unfold EK at b
  split at b
  ·cases b
  ·split at b
   ·split at b
    ·rename_i e _;cases b;exact e
    ·cases b
   ·cases b
 have key:∀(l:List N5) (a:List (List Int)),(∃c,DX a l=some c)→a.length+l.length≤32→∀x ∈ l,EL x:=by
  intro l
  induction l with
  |nil=>intro _ _ _ x f;cases f
  |cons y l ih=>
   rintro a ⟨c,h⟩ i x f
   unfold DX at h
   cases e:KJ a y with
   |none=>rw [e] at h;cases h
   |some s=>
    rw [e] at h
    simp only [length_cons] at i
    rcases List.mem_cons.1 f with rfl|f
    ·unfold KJ at e
     split at e
     ·rename_i g
      simp only [Bool.and_eq_true,Bool.not_eq_true'] at g
      refine Sw g.1.1 fun j k=> ?_
      have:=g.1.2
      unfold P8 at this
      have:=List.any_eq_false.1 this j k
      simp at this
      omega
     ·cases e
    ·exact ih (a++[s]) ⟨c,h⟩ (by rw [length_append,length_singleton];omega) x f
 exact key ls [] ⟨c,m⟩ (by simpa using d)

theorem HV (c:UInt8) (x y:List UInt8) (a:List (List UInt8)):Lib.join (x::y::a) [c]=x++c::Lib.join (y::a) [c]:=by
 rw [Lib.join_cons,Lib.join_cons]
 simp [Lib.joinTail]
theorem IR (c:UInt8) (x:List UInt8):Lib.join [x] [c]=x:=by
 rw [Lib.join_cons]
 simp [Lib.joinTail]
theorem IW {c:UInt8}:∀(xs:List (List UInt8)) (x:List UInt8),c ∉ x→(∀y ∈ xs,c ∉ y)→CG c (Lib.join (x::xs) [c])=x::xs
 |[],x,h,_=>by rw [IR,LM h]
 |y::ys,x,h,h2=>by rw [HV,I6 _ h,IW ys y (h2 y (by simp)) fun z a=>h2 z (by simp [a])]
def FT (ls:List (List UInt8)):List UInt8:=(ls.map (·++[10])).flatten
theorem KZ:∀(xs:List (List UInt8)) (x:List UInt8),Lib.join (x::xs) [10]++[10]=FT (x::xs)
 |[],x=>by rw [IR];simp [FT]
 |y::ys,x=>by
  have:=KZ ys y
  rw [HV,append_assoc,cons_append,this]
  simp [FT]
theorem Li:∀(ls:List (List UInt8)),(∀x ∈ ls,(10:UInt8) ∉ x)→CG 10 (FT ls)=ls++[[]]
 |[],_=>rfl
 |x::ls,h=>by
  have e:FT (x::ls)=x++10::FT ls:=by simp [FT]
  rw [e,I6 _ (h x (by simp)),Li ls fun y a=>h y (by simp [a])]
  rfl
def DV (s:List UInt8):List (List UInt8):=if (CG 10 s).getLastD []=[] then (CG 10 s).dropLast else CG 10 s
theorem ND {ls:List (List UInt8)} (h:∀x ∈ ls,(10:UInt8) ∉ x):DV (FT ls)=ls:=by
 unfold DV
 rw [Li ls h,if_pos (by simp [List.getLastD_eq_getLast?]),List.dropLast_concat]
theorem NC {x:List UInt8} {xs:List (List UInt8)} (h:∀y ∈ x::xs,(10:UInt8) ∉ y) (a:∀y ∈ x::xs,y≠[]):DV (Lib.join (x::xs) [10])=x::xs:=by
 unfold DV
 rw [IW xs x (h x (by simp)) fun y b=>h y (by simp [b]),if_neg]
 intro e
 rw [List.getLastD_eq_getLast?,List.getLast?_eq_some_getLast (by simp)] at e
 exact a _ (List.getLast_mem (by simp)) e
def EU:Nat→List (List UInt8)→Nat ⊕ List PN
 |_,[]=> .inr []
 |i,t::ts=>if 32≤i then .inl i else match DJ (CG 32 t) with
  |none=> .inl i
  |some p=>match EU (i+1) ts with
   | .inl j=> .inl j
   | .inr ns=> .inr (p::ns)
def IK (s:List UInt8):Int:=if 65536<s.length then 3 else match EU 0 (DV s) with
 | .inl _=>4
 | .inr ns=>if (MI ns).isSome then 0 else 1
def IL (s:List UInt8):Int:=if 65536<s.length then 0 else match EU 0 (DV s) with
 | .inl i=>(i:Int)
 | .inr _=>0
def L6 (s:List UInt8):List PN:=if 65536<s.length then [] else match EU 0 (DV s) with
 | .inl _=>[]
 | .inr ns=>if (MI ns).isSome then ns else []
theorem QC {ts:List (List UInt8)} {i:Nat} {b:List PN} {t:List UInt8} {a:List (List UInt8)} {p:PN} (h:EU 0 ts=match EU i (t::a) with
   | .inl j=> .inl j
   | .inr ns=> .inr (b++ns)) (d:i<32) (c:DJ (CG 32 t)=some p):EU 0 ts=match EU (i+1) a with
   | .inl j=> .inl j
   | .inr ns=> .inr (b++[p]++ns):=by
 rw [h,EU,if_neg (by omega),c]
 simp only
 cases EU (i+1) a with
 |inl j=>rfl
 |inr ns=>simp
theorem TC {ts:List (List UInt8)} {i:Nat} {c:List PN} {t:List UInt8} {a:List (List UInt8)} (h:EU 0 ts=match EU i (t::a) with
   | .inl j=> .inl j
   | .inr ns=> .inr (c++ns)) (b:32≤i∨DJ (CG 32 t)=none):EU 0 ts= .inl i:=by
 rw [h,EU]
 rcases Nat.lt_or_ge i 32 with d|d
 ·rw [if_neg (by omega)]
  rcases b with b|b
  ·omega
  ·rw [b]
 ·rw [if_pos d]
theorem JB (s:List UInt8) (r:List (List UInt8)):EM s ((if s=[] then [] else [s])++r)=some r:=by
 unfold EM
 by_cases h:s=[]
 ·rw [if_pos h,if_pos h];rfl
 ·rw [if_neg h,if_neg h];simp
theorem NX {a b:Nat} {ns:List Int} {r:List (List UInt8)} (d:∀n ∈ ns,0≤n∧n≤999999999) (f:a≤ns.length) (e:ns.length≤b) (c:ns.length=b∨r=[]∨FC (r.headD [])=none):NY a b (ns.map Lib.itoa++r)=some (ns,r):=by
 unfold NY
 rw [Mx b ns r d e c,if_neg (by simp only;omega)]
theorem O1 {n:Int} {r:List (List UInt8)} (h:0≤n∧n≤999999999):NY 1 1 (Lib.itoa n::r)=some ([n],r):=
 NX (ns:=[n]) (fun x a=>by rw [List.mem_singleton.1 a];exact h) (AU _) (AU _) (.inl rfl)
theorem Ou:∀k:BitVec 8,(CQ k).isSome=true→DS (AZ k).word=k∧(AZ k).word≠[]∧((AZ k).nxt=[]∨FC (AZ k).nxt=none)∧((AZ k).nxt=[]→((AZ k).shaped=true→(AZ k).most=0)∧((AZ k).shaped=false→(AZ k).last=[]))∧((AZ k).shaped=true→(AZ k).last=[]):=by decide+kernel
theorem Ss {r:Rw} {s:List Int} {n:Int} {a:List (List UInt8)} (l:∀d ∈ s,0≤d∧d≤999999999) (g:s.length≤65536) (m:0≤n∧n≤999999999) (i:r.shaped=true→s≠[]∧n=0∧a=[]) (h:r.shaped=false→s=[]) (j:r.nxt=[]→n=0):
  Jq r ((if r.shaped then s.map Lib.itoa else if r.nxt=[] then [] else [Lib.itoa n])++a)=some (s,n,a):=by
 unfold Jq
 cases e:r.shaped with
 |true=>
  obtain ⟨b,c,f⟩:=i e
  subst c f
  rw [if_pos rfl,if_pos rfl,NX l (List.length_pos_iff.2 b) g (.inr (.inl rfl))]
  rfl
 |false=>
  have k:=h e
  subst k
  rw [if_neg (show ¬(false=true) by decide),if_neg (show ¬(false=true) by decide)]
  by_cases e2:r.nxt=[]
  ·rw [if_pos e2,if_pos e2,j e2];rfl
  ·rw [if_neg e2,if_neg e2,List.singleton_append,O1 m];rfl
theorem SB {r:Rw} {p:Int} (a:0≤p∧p≤999999999) (h:r.last=[]→p=0):LK r (if r.last=[] then [] else [r.last,Lib.itoa p])=some (p,[]):=by
 unfold LK
 by_cases e:r.last=[]
 ·rw [if_pos e,if_pos e,h e]
 ·rw [if_neg e,if_neg e]
  have:=JB r.last [Lib.itoa p]
  rw [if_neg e] at this
  rw [show [r.last,Lib.itoa p]=[r.last]++[Lib.itoa p] from rfl,this,Option.bind_some,O1 a]
  rfl
theorem QR {x:N5} (h:EL x) (k:(AZ x.k).shaped=true→x.s≠[]):DJ (CM (AZ x.k) x)=some (pn x):=by
 obtain ⟨q,i,b,j,m⟩:=Ou x.k h.kd
 have p:(CM (AZ x.k) x).headD []=(AZ x.k).word:=rfl
 unfold DJ
 rw [p,q,if_neg i]
 obtain ⟨r,v⟩:∃r,r=AZ x.k:=⟨_,rfl⟩
 have w:=h.il
 have g:=h.im
 have c:=h.s0
 have a:=h.n0
 have f:=h.p0
 rw [← v] at i b j m k w g c a f ⊢
 have n:∀{l:List Int},(∀d ∈ l,0≤d∧d≤65536)→∀d ∈ l,0≤d∧d≤999999999:=fun u d o=>by have:=u d o;omega
 have z:=h.nn
 have A:=h.pp
 have sl:=h.sl
 have t:CM r x=(if r.word=[] then [] else [r.word])++(x.i.map Lib.itoa++((if r.nxt=[] then [] else [r.nxt])++((if r.shaped then x.s.map Lib.itoa else if r.nxt=[] then [] else [Lib.itoa x.n])++(if r.last=[] then [] else [r.last,Lib.itoa x.p])))):=by
  rw [if_neg i]
  unfold CM
  simp only [append_assoc]
 rw [t,JB,Option.bind_some]
 rw [NX (n h.ii) (by omega) (by omega),Option.bind_some]
 ·simp only
  rw [JB,Option.bind_some,Ss (n h.ss) (by omega) (by omega) (fun e=>⟨k e,a (.inr e),by rw [if_pos (m e)]⟩) c (fun e=>a (.inl e)),Option.bind_some]
  simp only
  rw [SB (by omega) f,Option.bind_some,if_pos rfl]
  rfl
 ·by_cases e:r.nxt=[]
  ·obtain ⟨s,y⟩:=j e
   cases es:r.shaped with
   |true=>
    left
    have:=s es
    omega
   |false=>
    right;left
    simp [e,y es]
  ·right;right
   rw [if_neg e]
   rcases b with b|b
   ·exact absurd b e
   ·exact b
def HN (x:N5):List UInt8:=Lib.join (CM (AZ x.k) x) [32]
theorem KG (ls:List N5):BX ls=FT (ls.map HN):=by
 unfold BX FT
 rw [map_map]
 rfl
theorem M6 {b c:UInt8}:∀{xs:List (List UInt8)},b ∈ Lib.join xs [c]→(∃x ∈ xs,b ∈ x)∨b=c
 |[],h=>by cases h
 |[x],h=>by rw [IR] at h;exact .inl ⟨x,by simp,h⟩
 |x::y::ys,h=>by
  rw [HV] at h
  rcases List.mem_append.1 h with h|h
  ·exact .inl ⟨x,by simp,h⟩
  ·rcases List.mem_cons.1 h with h|h
   ·exact .inr h
   ·rcases M6 h with ⟨z,a,k⟩|k
    ·exact .inl ⟨z,mem_cons_of_mem _ a,k⟩
    ·exact .inr k
theorem OA {n:Int} (h:0≤n) {c:UInt8} (b:c.toNat<48):c ∉ Lib.itoa n:=by
 obtain ⟨u,rfl⟩:∃u:Nat,n=(u:Int):=⟨n.toNat,by omega⟩
 rw [Lib.itoa_nonneg]
 intro a
 have:=(Kw u).1
 unfold MQ at this
 have:=List.all_eq_true.1 this c a
 simp only [Bool.and_eq_true,decide_eq_true_eq] at this
 omega
theorem T7:∀k:BitVec 8,((32:UInt8) ∉ (AZ k).word∧(10:UInt8) ∉ (AZ k).word)∧((32:UInt8) ∉ (AZ k).nxt∧(10:UInt8) ∉ (AZ k).nxt)∧((32:UInt8) ∉ (AZ k).last∧(10:UInt8) ∉ (AZ k).last):=by decide+kernel
theorem Me {x:N5} (h:EL x):∀y ∈ CM (AZ x.k) x,(32:UInt8) ∉ y∧(10:UInt8) ∉ y:=by
 obtain ⟨f,d,e⟩:=T7 x.k
 have c:∀{n:Int},0≤n→(32:UInt8) ∉ Lib.itoa n∧(10:UInt8) ∉ Lib.itoa n:=fun b=>⟨OA b (by decide),OA b (by decide)⟩
 unfold CM
 intro y a
 simp only [mem_append,mem_singleton] at a
 rcases a with (((rfl|a)|a)|a)|a
 ·exact f
 ·obtain ⟨n,b,rfl⟩:=List.mem_map.1 a
  exact c (h.ii n b).1
 ·split at a
  ·cases a
  ·rw [List.mem_singleton.1 a];exact d
 ·split at a
  ·obtain ⟨n,b,rfl⟩:=List.mem_map.1 a
   exact c (h.ss n b).1
  ·split at a
   ·cases a
   ·rw [List.mem_singleton.1 a];exact c h.nn.1
 ·split at a
  ·cases a
  ·rcases List.mem_cons.1 a with rfl|a
   ·exact e
   ·rw [List.mem_singleton.1 a];exact c h.pp.1
theorem Kc (r:Rw) (x:N5):∃t,CM r x=r.word::t:=⟨(CM r x).tail,rfl⟩
theorem Lh {x:N5} (h:EL x):CG 32 (HN x)=CM (AZ x.k) x:=by
 have a:=Me h
 unfold HN
 obtain ⟨t,e⟩:=Kc (AZ x.k) x
 rw [e] at a ⊢
 exact IW t _ (a _ (by simp)).1 fun y b=>(a y (by simp [b])).1
theorem QS {x:N5} (h:EL x):(10:UInt8) ∉ HN x:=fun a=>by
 rcases M6 a with ⟨y,b,k⟩|k
 ·exact (Me h y b).2 k
 ·exact absurd k (by decide)
theorem QT {x:N5} (h:EL x):HN x≠[]:=fun e=>by
 have b:=(Ou x.k h.kd).2.1
 have a:=Lh h
 rw [e] at a
 obtain ⟨t,c⟩:=Kc (AZ x.k) x
 rw [c] at a
 exact b (List.cons.inj a).1.symm
def ON (x:N5):Prop:=EL x∧((AZ x.k).shaped=true→x.s≠[])
theorem KP:∀(ls:List N5) (i:Nat),(∀x ∈ ls,ON x)→i+ls.length≤32→EU i (ls.map HN)= .inr (ls.map pn)
 |[],_,_,_=>rfl
 |x::ls,i,h,hi=>by
  have a:=h x (by simp)
  simp only [length_cons] at hi
  rw [map_cons,EU,if_neg (by omega),Lh a.1,QR a.1 a.2]
  simp only
  rw [KP ls (i+1) (fun y b=>h y (by simp [b])) (by omega)]
  rfl
theorem UA {k:BitVec 8} {n p:Int} {Rh:List (List Int)}:∀{s:List Int},Shapes.ok (Hu k s n p Rh)=true→(AZ k).shaped=true→s≠[]:=by
 intro s h u e
 subst e
 have key:∀k:BitVec 8,(AZ k).shaped=true→(k=1#8∨k=2#8∨k=10#8∨k=11#8∨CQ k=none):=by decide+kernel
 have a:Shapes.ok []=false:=by decide
 rcases key k u with rfl|rfl|rfl|rfl|o
 ·have e:Hu 1#8 [] n p Rh=[]:=by simp [Hu]
  rw [e,a] at h;cases h
 ·have e:Hu 2#8 [] n p Rh=[]:=by simp [Hu]
  rw [e,a] at h;cases h
 ·have e:Hu 10#8 [] n p Rh=[]:=by simp [Hu]
  rw [e,a] at h;cases h
 ·have e:Hu 11#8 [] n p Rh=[]:=by simp [Hu,Np]
  rw [e,a] at h;cases h
 ·have b:∀k:BitVec 8,CQ k=none→(k=0#8∨13#8<k):=by decide+kernel
  have e:Hu k [] n p Rh=[]:=by
   unfold Hu
   have:k≠1#8∧k≠2#8∧k≠3#8∧k≠4#8∧k≠5#8∧k≠6#8∧k≠7#8∧k≠8#8∧k≠9#8∧k≠10#8∧k≠11#8∧k≠12#8∧k≠13#8:=by
    rcases b k o with rfl|h
    ·decide
    ·refine ⟨?_, ?_, ?_, ?_, ?_, ?_, ?_, ?_, ?_, ?_, ?_, ?_, ?_⟩<;>intro e<;>subst e<;>exact absurd h (by decide)
   obtain ⟨i,v,q,w,r,t,l,j,m,c,d,f,g⟩:=this
   simp [i,v,q,w,r,t,l,j,m,c,d,f,g]
  rw [e,a] at h;cases h
theorem PE {ls:List N5} (h:(EK ls).isSome=true):1≤ls.length∧ls.length≤32∧∀x ∈ ls,ON x:=by
 obtain ⟨f,j⟩:=Kl h
 obtain ⟨d,b⟩:=Option.isSome_iff_exists.1 h
 have g:DX [] ls=some d∧1≤ls.length:=by
  unfold EK at b
  split at b
  ·cases b
  ·split at b
   ·split at b
    ·rename_i e _;cases b;exact ⟨e,by omega⟩
    ·cases b
   ·cases b
 have key:∀(l:List N5) (a:List (List Int)),(∃d,DX a l=some d)→∀x ∈ l,(AZ x.k).shaped=true→x.s≠[]:=by
  intro l
  induction l with
  |nil=>intro _ _ x c;cases c
  |cons y l ih=>
   rintro a ⟨d,h⟩ x c
   unfold DX at h
   cases e:KJ a y with
   |none=>rw [e] at h;cases h
   |some s=>
    rw [e] at h
    rcases List.mem_cons.1 c with rfl|c
    ·unfold KJ at e
     split at e
     ·rename_i i
      simp only [Bool.and_eq_true] at i
      exact UA i.2
     ·cases e
    ·exact ih (a++[s]) ⟨d,h⟩ x c
 exact ⟨g.2,f,fun x c=>⟨j x c,key ls [] ⟨d,g.1⟩ x c⟩⟩
theorem JP {ls:List N5} (h:(EK ls).isSome=true) {s:List UInt8} (b:s=BX ls∨s++[10]=BX ls):L6 s=ls.map pn∧IK s=0∧IL s=0:=by
 obtain ⟨o,l,g⟩:=PE h
 have n:=IH (ls:=ls) fun x f=>(g x f).1
 have a:¬65536<s.length:=by
  rcases b with rfl|b
  ·omega
  ·have:=cngA length b
   rw [length_append] at this
   omega
 have i:DV s=ls.map HN:=by
  have c:∀y ∈ ls.map HN,(10:UInt8) ∉ y:=fun y j=>by
   obtain ⟨x,f,rfl⟩:=List.mem_map.1 j
   exact QS (g x f).1
  rcases b with rfl|b
  ·rw [KG];exact ND c
  ·rw [KG] at b
   have d:∀y ∈ ls.map HN,y≠[]:=fun y j=>by
    obtain ⟨x,f,rfl⟩:=List.mem_map.1 j
    exact QT (g x f).1
   cases e:ls.map HN with
   |nil=>
    have:=cngA length e
    rw [length_map,length_nil] at this
    omega
   |cons y ys=>
    rw [e] at b c d
    rw [← KZ] at b
    rw [List.append_cancel_right b]
    exact NC c d
 have k:=KP ls 0 g (by omega)
 have m:MI (ls.map pn)=EK ls:=FN ls
 unfold L6 IK IL
 rw [if_neg a,if_neg a,if_neg a,i,k]
 simp only
 simp [m,h]
end Go.Proofs.YtblbopcaflaldaaGreatDoor

namespace Go.Proofs.YtblbopcaflaldaaGreatDoor
open Go Go.Dd Go.RowKit Go.Proofs.Tryz
open List hiding get
set_option maxRecDepth 100000
-- dd: text
theorem Pw.retCq {P:Program} {n:Nat} {E:BT} {w:World} {pv:Value} {e:TypeId} {f:Func} {R:Value→World→Prop} {K:World→Prop} {p b k:Nat} {T:TypeId} {cs:List Value} {d:TypeDesc} (l:f.results= #[.cell p e]) (i:get E p=some (.pointer (some ⟨b,0,none⟩))) (o:AP w b T cs)
  (m:P.underlying e=some d) (g:(match d with| .struct _| .array _ _=>true|_=>false)=true) (q:(P.info? e).map (·.size)=some k) (j:cs.length=k) (h:R (.agg cs.toArray) w):Pw n E (Ob P f pv R K .ret) w:=fun a c=>by
 subst j
 exact bodyPost_ret (v:= .agg cs.toArray) (results_cell_row l a.tmps w b T cs.toArray (0,0) d (by simp [Array.getD_eq_getD_getElem?,c.has _ _ i]) o m g (by simpa using q)) c.dfr (.inl ⟨_,rfl,h⟩)
def Ux {St:Type} (n:Nat) (Ei:St→BT) (I:St→World→Prop) (Q:BF):BF:=fun e a w=>match e with
 | .normal=>∃s,BK n (Ei s) a∧I s w
 |e=>Q e a w
section
variable {P : Program} {n : Nat} {E : BT} {w : World} {St : Type} {Ei : St → BT} {I : St → World → Prop} {Q : BF}
theorem Cw.midQ {c:Code} (Ei:St→BT) (I:St→World→Prop) {K:Act→World→Prop} (h:Cw P (Ux n Ei I Q) n c E w) (k:∀s w',I s w' →Pw n (Ei s) K w'):Cw P (BS K Q) n c E w:=fun a e=>
 Code.wp_mono (fun x f w' b=>by
  cases x with
  |normal=>
   obtain ⟨s,d,g⟩:=b
   exact k s w' g f d
  |_=>exact b) (h a e)
theorem Fi (s:St) (a:PU E (Ei s)) (c:I s w):Pw n E (Ux n Ei I Q .normal) w:=fun _ b=>⟨s,b.sub a,c⟩
theorem Fh {c:List PanicEntry} (h:Pw n E (Q (.panic c)) w):Pw n E (Ux n Ei I Q (.panic c)) w:=h
end
def Vc (k v:Value):Prop:=∃r ∈ HX,k=st r.word∧v=b8 (BitVec.ofNat 8 r.k)
theorem KF:∀r ∈ HX,∀q ∈ HX,r.word=q.word→r=q:=by decide+kernel
theorem MA {r:Rw} (h:r ∈ HX):DS r.word=BitVec.ofNat 8 r.k:=by
 revert r
 unfold DS
 decide+kernel
theorem QV {s:List UInt8} (h:∀r ∈ HX,r.word≠s):DS s=0#8:=by
 unfold DS
 rw [List.find?_eq_none.2 fun r a=>by simpa using h r a]
 rfl
section
variable {n : Nat} {E : BT} {w : World} {ty : TypeId} {x y : Operand}
theorem Ex.kindL {M:Nat} {s:List UInt8} (g:ev E x=some (.map (some M))) (f:ev E y=some (st s)) (h:BN w M .string Vc):Ex prog n E (.lookup 135 x y false) ty w (b8 (DS s)):=by
 by_cases a:∃r ∈ HX,r.word=s
 ·obtain ⟨r,a,rfl⟩:=a
  refine Fk underlying135 Mh g f trivial h ⟨_,_,(show Tryz.prog.info? 77=some Tryz.t77 by kernel_rfl),rfl⟩ ⟨r,a,rfl,by rw [MA a]⟩ ?_
  rintro v ⟨q,b,c,rfl⟩
  rw [KF r a q b (Ly c),MA b]
 ·rw [QV fun r d e=>a ⟨r,d,e⟩]
  refine Gb underlying135 Mh g f trivial h (show Tryz.prog.info? 77=some Tryz.t77 by kernel_rfl) O ?_
  rintro v ⟨q,b,c, -⟩
  exact a ⟨q,b,(Ly c).symm⟩
theorem Sj:∀k:BitVec 8,(∀r ∈ HX,¬r.k=k.toNat)→AZ k=⟨0,[],0,0,[],[]⟩:=by decide+kernel
theorem Sk:∀k:BitVec 8,(∃r ∈ HX,r.k=k.toNat)→AZ k ∈ HX∧(AZ k).k=k.toNat:=by decide+kernel
theorem Ex.rowL {M:Nat} {k:BitVec 8} (g:ev E x=some (.map (some M))) (d:ev E y=some (b8 k)) (h:BN w M (.int .u8) RD):Ex prog n E (.lookup 122 x y false) ty w (.agg (AZ k).cells.toArray):=by
 by_cases hr:∃r ∈ HX,r.k=k.toNat
 ·obtain ⟨f,i⟩:=Sk k hr
  refine Fk underlying122 BW g d O h ⟨_,_,(show Tryz.prog.info? 125=some Tryz.t125 by kernel_rfl),rfl⟩ ⟨_,f,by rw [i],rfl⟩ ?_
  rintro v ⟨q,a,b,rfl⟩
  have:(k.toNat:Int)=(q.k:Int):=by injection b
  rw [Mq (AZ k) f q a (by omega)]
 ·rw [Sj k fun r c e=>hr ⟨r,c,e⟩]
  refine Gb underlying122 BW g d O h (show Tryz.prog.info? 125=some Tryz.t125 by kernel_rfl) O ?_
  rintro v ⟨q,a,b, -⟩
  have:(k.toNat:Int)=(q.k:Int):=by injection b
  exact hr ⟨q,a,by omega⟩
end
theorem O6 {l:List (List UInt8)} {r:Rw} (a:r=AZ (DS (l.getD 0 default))) (h:r.word=[]∨EM r.word l=none):DJ l=none:=by
 have e:l.headD []=l.getD 0 default:=by cases l<;>rfl
 unfold DJ
 rw [e,← a]
 rcases h with h|h
 ·rw [if_pos h]
 ·split
  ·rfl
  ·rw [h];rfl
theorem Sx {l a:List (List UInt8)} {r:Rw} (b:r=AZ (DS (l.getD 0 default))) (c:¬r.word=[]) (h:EM r.word l=some a):DJ l=(NY r.least r.most a).bind fun q=>
 (EM r.nxt q.2).bind fun d=>(Jq r d).bind fun t=>(LK r t.2.2).bind fun e=>
 if e.2=[] then some (DS (l.getD 0 default),q.1,t.1,t.2.1,e.1) else none:=by
 have e:l.headD []=l.getD 0 default:=by cases l<;>rfl
 unfold DJ
 rw [e,← b,if_neg c,h]
 rfl
theorem Q1:∀k:BitVec 8,(AZ k).most≤65536:=by decide+kernel
set_option maxHeartbeats 2000000 in
theorem TK (W w:World) (A K M:Nat) (v:Value) (l:List (List UInt8)) (hG:Jv W) (h:LZ W w A v l) (hl:∀x ∈ l,x.length≤65536) (hn:l.length≤65537) (h0:0<l.length) (t:BN w K .string Vc) (hM:BN w M (.int .u8) RD) (hMA:M≠A):
  IE prog 127 [.pointer (some ⟨A,0,none⟩), .map (some K), .map (some M)] w NW
   (fun r w' =>∃c:N5,r=c.v∧DJ l=some (pn c)∧w.grownBy w' (some A)∧(∃v' l',LZ W w' A v' l')∧NK w' w.heap.size w'.heap.size c)
   (fun w' =>DJ l=none∧w.grownBy w' (some A)):=by
 obtain ⟨k,ek⟩:∃k,k=DS (l.getD 0 default):=⟨_,rfl⟩
 obtain ⟨r,hr⟩:∃r,r=AZ k:=⟨_,rfl⟩
 have U:=hr
 rw [ek] at U
 have zW:=h.bel.size
 have zA:=AW h.cell
 have lM:=hM.lt
 refine Dr (n:=77) func127 (by kernel_rfl) O O O<|Ai<|Da EE O ?_
 rintro C w1 eA_x a G zhn1
 have z1:=G.size
 have h:=h.bs G
 have t:=t.bs G
 have hM:=hM.bs G
 have X:=h.sl
 have s_v:=X.bs h.bel
 have b_A:=h.cell
 have j:=BC G (some A)
 refine A3<|Ad O<|Ad O<|Aa (Cp O) O<|A9 underlying139 O (EI _)<|Aa (Ao (Hz _) O ‹_› rfl) O ?_
 refine Aa (Bb CA O O ‹_› 0 O (by omega)) O ?_
 refine Aa (Bf (GV _) O ‹_› (by omega)) O ?_
 refine Aa (Ex.kindL O O t) O<|A9 underlying79 O (FK _) ?_
 rw [← ek]
 refine A6 (Cm (FK _) O O O a (show 0<5 by decide)) ?_
 rintro w2 ⟨a,Z,hz2⟩
 replace a:AP w2 C 79 [b8 k, .slice none 0 0, .slice none 0 0, .int .i64 0, .int .i64 0]:=a
 replace hM:=GB hM Z (by intro e;have:=Option.some.inj e;omega)
 have h:=h.grow Z (by rintro _ ⟨⟩;omega)
 replace j:=DI j Z (by rintro _ ⟨⟩;omega)
 clear G Z X s_v b_A t
 refine A3<|Ad O<|A9 underlying79 O (FK _)<|Aa (Ao (He _) O ‹_› rfl) O ?_
 refine Aa (Ex.rowL O O hM) O ?_
 rw [← hr]
 refine C2 (cs:=r.cells) NH O O O O (fun _=>rfl) (rfl) ?_
 rintro A_r w3 eA_r f J zhn3
 have z3:=J.size
 have a:=a.bs J
 have h:=h.bs J
 replace j:=AS j (BC J _)
 have lx:=AW a
 have lr:=AW f
 have xr:C<A_r:=by omega
 clear J hM
 refine A3<|Ad O<|A9 underlying125 O (Ie _)<|Aa (Ao (GV _) O ‹_› rfl) O ?_
 refine Cs O O (Nl W w3 A v l r.word h) (fun w' t=>Bg (Ct (⟨O6 U (.inr t.1),t.2 ▸ j⟩))) ?_
 rintro _ w4 ⟨l1,e1,Y,hz4,v1,hR1⟩
 have a:=a.by Y (fun e=>by have:=Option.some.inj e;omega)
 have f:=f.by Y (fun e=>by have:=Option.some.inj e;omega)
 replace j:=AS j Y
 have c1:=hR1
 clear h
 have k1:=IG e1
 have q1:∀x ∈ l1,x.length≤65536:=fun x S=>hl x (by rw [k1];exact mem_append_right _ S)
 have n1:l1.length≤65537:=by have:=cngA length k1;rw [length_append] at this;omega
 have hm:r.most≤65536:=by rw [hr];exact Q1 k
 refine A8<|A9 underlying125 O (Ie _)<|Aa (Ao (GV _) O ‹_› rfl) O ?_
 refine Aa (E2 O O) O<|Ak<|Am O ?_ ?_
 ·intro g
  have g:r.word=[]:=AE g
  refine A5<|Aa (Bi (vs:=[]) (cs:=[]) O (by kernel_rfl)) O<|Aa (D3 underlying106 O) O ?_
  refine Ed O (Bg (Ct (⟨O6 U (.inl g),j⟩)))
 intro g
 have g:¬r.word=[]:=AD g
 have D:=Sx U g e1
 rw [← ek] at D
 clear e1 g k1
 refine Ci<|Ad O<|A9 underlying125 O (BZ _)<|Aa (Ao (BD _) O ‹_› rfl) O ?_
 refine A9 underlying125 O (BZ _)<|Aa (Ao (BD _) O ‹_› rfl) O ?_
 refine Cs O O (H9 W w4 A r.least r.most v1 l1 hG hR1 q1 n1 hm) (fun w' t=>Bg (Ct (⟨by rw [D,t.1];rfl,AS j t.2⟩))) ?_
 rintro H w5 ⟨ns,l2,e2,N,d,v2,h⟩
 have a:=a.by N (fun e=>by have:=Option.some.inj e;omega)
 have f:=f.by N (fun e=>by have:=Option.some.inj e;omega)
 replace j:=AS j N
 rw [e2,Option.bind_some] at D
 dsimp only at D
 have k2:l1=ns.map Lib.itoa++l2:=(IA e2).1
 have q2:∀x ∈ l2,x.length≤65536:=fun x S=>q1 x (by rw [k2];exact mem_append_right _ S)
 have n2:l2.length≤65537:=by have:=cngA length k2;rw [length_append] at this;omega
 have z5:=N.size
 have i5:∀b,H.ownBlock=some b→b<w5.heap.size:=fun b e=>(d.lt b e).2
 clear hR1 e2 k2 c1
 refine A9 underlying79 O (BL _)<|A6 (Cm (BL _) O O d.sl.one' a (show 1<5 by decide)) ?_
 rintro w6 ⟨q,i,T⟩
 replace d:=AC d i (fun b e=>by cases e;exact ⟨_,a⟩) (by decide)
 replace a:AP w6 C 79 [b8 k,H, .slice none 0 0, .int .i64 0, .int .i64 0]:=q
 have h:=h.grow i (by rintro _ ⟨⟩;omega)
 have f:=f.by i (fun e=>by have:=Option.some.inj e;omega)
 replace j:=DI j i (by rintro _ ⟨⟩;omega)
 clear q
 refine A3<|Ad O<|A9 underlying125 O (Ie _)<|Aa (Ao (GV _) O ‹_› rfl) O ?_
 refine Cs O O (Nl W w6 A v2 l2 r.nxt h) (fun w' t=>Bg (Ct (⟨by rw [D,t.1];rfl,t.2 ▸ j⟩))) ?_
 rintro _ w7 ⟨l3,e3,B,hz7,v3,hR3⟩
 replace d:=AC d B (fun b e=>by cases e;exact ⟨_,h.cell⟩) (by decide)
 have a:=a.by B (fun e=>by have:=Option.some.inj e;omega)
 have f:=f.by B (fun e=>by have:=Option.some.inj e;omega)
 replace j:=AS j B
 rw [e3,Option.bind_some] at D
 have k3:=IG e3
 have q3:∀x ∈ l3,x.length≤65536:=fun x S=>q2 x (by rw [k3];exact mem_append_right _ S)
 have n3:l3.length≤65537:=by have:=cngA length k3;rw [length_append] at this;omega
 clear e3 k3 h
 refine Ak<|Ap ?_
 refine Cw.midQ (St:=(Value×List Int×Int×Value×List (List UInt8))) (fun z=>[(0, .pointer (some ⟨A,0,none⟩)),(6, .pointer (some ⟨C,0,none⟩)),(7, .pointer (some ⟨A_r,0,none⟩))]) (fun z w' =>Jq r l3=some (z.2.1,z.2.2.1,z.2.2.2.2)∧w.grownBy w' (some A)∧AP w' C 79 [b8 k,H,z.1, .int .i64 z.2.2.1, .int .i64 0]∧AP w' A_r 125 r.cells∧AQ w' w4.heap.size 3 1 H ns.length (ns.map (Value.int .i64))∧AQ w' w7.heap.size 3 1 z.1 z.2.1.length (z.2.1.map (Value.int .i64))∧LZ W w' A z.2.2.2.1 z.2.2.2.2) ?_ ?_
 ·refine Ar<|Ai<|Aa (Ce (RH _) (Qp _) O O ‹_›) O ?_
  refine Ah O O (Mm r w7) ?_
  rintro _ w8 ⟨rfl,F⟩
  have z8:=F.size
  have a:=a.bs F
  have f:=f.bs F
  have d:=d.bs F
  have h:=hR3.bs F
  replace j:=AS j (BC F _)
  clear hR3 F
  refine Ab O<|Ak<|Am O ?_ ?_
  ·intro e
   refine A5<|Ad O<|Cs O O (H9 W w8 A 1 65536 v3 l3 hG h q3 n3 (AU _)) (fun w' t=>C9 (Fh (Ct (⟨by rw [D,Jq,if_pos e,t.1];rfl,AS j t.2⟩)))) ?_
   rintro y w9 ⟨s,R,V,o,m,v4,hR4⟩
   replace d:=AC d o (fun b e=>by cases e;exact ⟨_,h.cell⟩) (by decide)
   have a:=a.by o (fun e=>by have:=Option.some.inj e;omega)
   have f:=f.by o (fun e=>by have:=Option.some.inj e;omega)
   replace j:=AS j o
   replace h:=hR4
   have z9:=o.size
   refine A9 underlying79 O (BL _)<|A6 (Cm (BL _) O O m.sl.one' a (show 2<5 by decide)) ?_
   rintro L ⟨q,i,T⟩
   replace d:=AC d i (fun b e=>by cases e;exact ⟨_,a⟩) (by decide)
   replace m:=AC m i (fun b e=>by cases e;exact ⟨_,a⟩) (by decide)
   replace a:AP L C 79 [b8 k,H,y, .int .i64 0, .int .i64 0]:=q
   have h:=h.grow i (by rintro _ ⟨⟩;omega)
   have f:=f.by i (fun e=>by have:=Option.some.inj e;omega)
   replace j:=DI j i (by rintro _ ⟨⟩;omega)
   refine A7<|Ba ?_
   exact Fi ((y,s,0,v4,R)) ⟨rfl,rfl,rfl,trivial⟩ (⟨by rw [Jq,if_pos e,V];rfl,j,a,f,d,m.mono (by omega),h⟩)
  intro e
  have e:¬r.shaped=true:=by rw [e];decide
  refine Ai<|A9 underlying125 O (Ie _)<|Aa (Ao (GV _) O ‹_› rfl) O ?_
  refine Aa (E0 O O) O<|Ab O<|Ak<|Am O ?_ ?_
  ·intro e9
   have e9:¬r.nxt=[]:=by simpa using e9
   refine A5<|Ad O<|Cs O O (H9 W w8 A 1 1 v3 l3 hG h q3 n3 (by decide)) (fun w' t=>C9 (Fh (Ct (⟨by rw [D,Jq,if_neg e,if_neg e9,t.1];rfl,AS j t.2⟩)))) ?_
   rintro y w9 ⟨s,R,V,o,m,v4,hR4⟩
   replace d:=AC d o (fun b e=>by cases e;exact ⟨_,h.cell⟩) (by decide)
   have a:=a.by o (fun e=>by have:=Option.some.inj e;omega)
   have f:=f.by o (fun e=>by have:=Option.some.inj e;omega)
   replace j:=AS j o
   replace h:=hR4
   have z9:=o.size
   have ls:1≤s.length:=(IA V).2.1
   have s_y:=m.slT
   have eh:s.getD 0 default=s.headD 0:=by cases s<;>rfl
   refine Aa (Bb AH O O ‹_› 0 O (by omega)) O ?_
   refine Aa (Bf (BD _) O ‹_› (by omega)) O ?_
   refine A9 underlying79 O (BZ _) ?_
   rw [eh]
   refine A6 (Cm (BZ _) O O O a (show 3<5 by decide)) ?_
   rintro L ⟨q,i,T⟩
   replace d:=AC d i (fun b e=>by cases e;exact ⟨_,a⟩) (by decide)
   replace a:AP L C 79 [b8 k,H, .slice none 0 0, .int .i64 (s.headD 0), .int .i64 0]:=q
   have h:=h.grow i (by rintro _ ⟨⟩;omega)
   have f:=f.by i (fun e=>by have:=Option.some.inj e;omega)
   replace j:=DI j i (by rintro _ ⟨⟩;omega)
   refine A7<|Ba ?_
   exact Fi ((.slice none 0 0,[],s.headD 0,v4,R)) ⟨rfl,rfl,rfl,trivial⟩ (⟨by rw [Jq,if_neg e,if_neg e9,V];rfl,j,a,f,d, .inl ⟨rfl, .inl ⟨rfl,rfl⟩⟩,h⟩)
  intro e9
  have e9:r.nxt=[]:=by simpa using e9
  exact Cj<|Ba<|Fi ((.slice none 0 0,[],0,v3,l3)) ⟨rfl,rfl,rfl,trivial⟩ (⟨by rw [Jq,if_neg e,if_pos e9],j,a,f,d, .inl ⟨rfl, .inl ⟨rfl,rfl⟩⟩,h⟩)
 have zg7:=j.size
 clear j a f d hR3 Y N i B
 rintro ⟨y,s,n,v4,R⟩ L ⟨V,j,a,f,d,m,h⟩
 dsimp only at V j a f d m h ⊢
 rw [V,Option.bind_some] at D
 dsimp only at D
 have k4:=QL V
 dsimp only at k4
 have q4:∀x ∈ R,x.length≤65536:=fun x S=>q3 x (by rw [k4];exact mem_append_right _ S)
 have n4:R.length≤65537:=by have:=cngA length k4;rw [length_append] at this;omega
 clear V k4
 refine B9<|Ap<|Ai<|A9 underlying125 O (Ie _)<|Aa (Ao (GV _) O ‹_› rfl) O ?_
 refine Aa (E0 O O) O<|Ak ?_
 refine Cw.midQ (St:=(Int×Value×List (List UInt8))) (fun z=>[(0, .pointer (some ⟨A,0,none⟩)),(6, .pointer (some ⟨C,0,none⟩))]) (fun z w' =>LK r R=some (z.1,z.2.2)∧w.grownBy w' (some A)∧AP w' C 79 [b8 k,H,y, .int .i64 n, .int .i64 z.1]∧AQ w' w4.heap.size 3 1 H ns.length (ns.map (Value.int .i64))∧AQ w' w7.heap.size 3 1 y s.length (s.map (Value.int .i64))∧LZ W w' A z.2.1 z.2.2) ?_ ?_
 ·refine Am O ?_ ?_
  ·intro e
   have e:¬r.last=[]:=by simpa using e
   refine Ai<|Ad O<|A9 underlying125 O (Ie _)<|Aa (Ao (GV _) O ‹_› rfl) O ?_
   refine Cs O O (Nl W L A v4 R r.last h) (fun w' t=>Bg (Fh (Ct (⟨by rw [D,LK,if_neg e,t.1];rfl,t.2 ▸ j⟩)))) ?_
   rintro _ w11 ⟨l5,e5,B,hz7,v5,hR5⟩
   replace d:=AC d B (fun b e=>by cases e;exact ⟨_,h.cell⟩) (by decide)
   replace m:=AC m B (fun b e=>by cases e;exact ⟨_,h.cell⟩) (by decide)
   have a:=a.by B (fun e=>by have:=Option.some.inj e;omega)
   have f:=f.by B (fun e=>by have:=Option.some.inj e;omega)
   replace j:=AS j B
   replace h:=hR5
   have k5:=IG e5
   have q5:∀x ∈ l5,x.length≤65536:=fun x S=>q4 x (by rw [k5];exact mem_append_right _ S)
   have n5:l5.length≤65537:=by have:=cngA length k5;rw [length_append] at this;omega
   refine Ak<|A5<|Ad O<|Cs O O (H9 W w11 A 1 1 v5 l5 hG h q5 n5 (by decide)) (fun w' t=>Fh (Ct (⟨by rw [D,LK,if_neg e,e5,Option.bind_some,t.1];rfl,AS j t.2⟩))) ?_
   rintro u w12 ⟨ps,l6,e6,o,o_u,v6,hR6⟩
   replace d:=AC d o (fun b e=>by cases e;exact ⟨_,h.cell⟩) (by decide)
   replace m:=AC m o (fun b e=>by cases e;exact ⟨_,h.cell⟩) (by decide)
   have a:=a.by o (fun e=>by have:=Option.some.inj e;omega)
   have f:=f.by o (fun e=>by have:=Option.some.inj e;omega)
   replace j:=AS j o
   replace h:=hR6
   have ls:1≤ps.length:=(IA e6).2.1
   have s_y:=o_u.slT
   have eh:ps.getD 0 default=ps.headD 0:=by cases ps<;>rfl
   refine Aa (Bb AH O O ‹_› 0 O (by omega)) O ?_
   refine Aa (Bf (BD _) O ‹_› (by omega)) O ?_
   refine A9 underlying79 O (BZ _) ?_
   rw [eh]
   refine A6 (Cm (BZ _) O O O a (show 4<5 by decide)) ?_
   rintro w13 ⟨q,i,T⟩
   replace d:=AC d i (fun b e=>by cases e;exact ⟨_,a⟩) (by decide)
   replace m:=AC m i (fun b e=>by cases e;exact ⟨_,a⟩) (by decide)
   replace a:AP w13 C 79 [b8 k,H,y, .int .i64 n, .int .i64 (ps.headD 0)]:=q
   have h:=h.grow i (by rintro _ ⟨⟩;omega)
   have f:=f.by i (fun e=>by have:=Option.some.inj e;omega)
   replace j:=DI j i (by rintro _ ⟨⟩;omega)
   refine A7 ?_
   exact Fi ((ps.headD 0,v6,l6)) ⟨rfl,rfl,trivial⟩ (⟨by rw [LK,if_neg e,e5,Option.bind_some,e6];rfl,j,a,d,m,h⟩)
  intro e
  have e:r.last=[]:=by simpa using e
  exact Cj<|Fi ((0,v4,R)) ⟨rfl,rfl,trivial⟩ (⟨by rw [LK,if_pos e],j,a,d,m,h⟩)
 clear j a f d m h
 rintro ⟨p,v5,l5⟩ w11 ⟨e5,j,a,d,m,h⟩
 dsimp only at e5 j a d m h ⊢
 rw [e5,Option.bind_some] at D
 dsimp only at D
 refine B9 ?_
 have X:=h.sl
 have s_v:=X.bs h.bel
 have b_A:=h.cell
 refine Ap<|Ai<|Ad O<|Aa (Cp O) O<|A9 underlying139 O (EI _)<|Aa (Ao (Hz _) O ‹_› rfl) O ?_
 refine Aa (Aq CA O ‹_›) O ?_
 refine Aa (C7 O O) O<|Ak<|Am O ?_ ?_
 ·intro g
  have g:¬l5=[]:=fun e=>by rw [e] at g;exact absurd (AE g) (by decide)
  refine A5<|Aa (Bi (vs:=[]) (cs:=[]) O (by kernel_rfl)) O<|Aa (D3 underlying106 O) O ?_
  refine Ed O (Bg (Ct (⟨by rw [D];exact if_neg g,j⟩)))
 intro g
 have g:l5=[]:=eq_nil_of_length_eq_zero (by have:=AD g;omega)
 rw [if_pos g] at D
 have one:[b8 k,H,y, .int .i64 n, .int .i64 p].all (·.oneCell')=true:=by
  rw [all_cons,all_cons,all_cons,d.sl.one',m.sl.one'];rfl
 have zz:=j.size
 refine Ci<|Aa (Ce (Hc _) (GY _) O O ‹_›) O ?_
 refine A6 (Ck (cs:=[b8 k,H,y, .int .i64 n, .int .i64 p]) (k:=5) (by kernel_rfl) O O O one a O) ?_
 rintro w12 ⟨q,i,T⟩
 replace d:=AC d i (fun b e=>by cases e;exact ⟨_,a⟩) (by decide)
 replace m:=AC m i (fun b e=>by cases e;exact ⟨_,a⟩) (by decide)
 have h:=h.grow i (by rintro _ ⟨⟩;omega)
 replace j:=DI j i (by rintro _ ⟨⟩;omega)
 clear a
 refine As<|Pw.retCq O O ‹_› underlying79 O O O ?_
 refine ⟨⟨k,H,y,ns,s,n,p⟩,rfl,D,j,⟨_,_,h⟩,d.mono (by omega),m.mono (by omega),fun b e=> ?_,fun b e=> ?_,fun b h1 h2=> ?_⟩
 ·have:=d.lt b e;omega
 ·have:=m.lt b e;omega
 ·have:=i5 b h1
  have:=(m.lt b h2).1
  omega
end Go.Proofs.YtblbopcaflaldaaGreatDoor

namespace Go.Proofs.YtblbopcaflaldaaGreatDoor
open Go Go.Dd Go.RowKit List Go.Proofs.Tryz
set_option maxRecDepth 100000
-- dd: text
structure Ng (w:World) (B Ag:Nat) (ls:List N5) (vn:Value):Prop where
 g:AP w Ag 24 [vn]
 o:w.ownsRow B 79 5 vn ls.length (GI N5.cells ls)
 lay:GK w B w.heap.size ls
theorem Ng.bs {w w' :World} {B b:Nat} {ls:List N5} {a:Value} (h:Ng w B b ls a) (g:Below w.heap.size w w'):Ng w' B b ls a:=⟨h.g.bs g,AF h.o g,(h.lay.bs g).top g.size⟩
theorem Ng.ob {w w' :World} {B c X:Nat} {ls:List N5} {a:Value} {T:TypeId} {cs:List Value} (h:Ng w B c ls a) (g:w.grownBy w' (some X)) (f:AP w X T cs) (j:3≠T) (i:24≠T) (k:79≠T):Ng w' B c ls a:=by
 have d:∀b,some X=some b→∃cs,AP w b T cs:=fun b e=>by cases e;exact ⟨_,f⟩
 refine ⟨h.g.by g fun e=> ?_,CH h.o g d k,(h.lay.other g d j).top g.size⟩
 have e:=Option.some.inj e
 subst e
 exact i (AX h.g f)
theorem Ng.gn {w:World} {B c:Nat} {ls:List N5} {b:Value} (h:Ng w B c ls b):GN w b ls:=⟨AG h.o,fun a d=>(h.lay.each a d).at⟩
theorem FV {w w' :World} {X Y:Nat} {T U:TypeId} {cs ds:List Value} (h:AP w X T cs) (g:w.grownBy w' (some Y)) (k:AP w Y U ds) (a:T≠U):AP w' X T cs:=h.by g fun e=>by
 have e:=Option.some.inj e
 subst e
 exact a (AX h k)
theorem J6 {w w' :World} {X:Nat} {T U:TypeId} {cs:List Value} {r:Option Nat} (h:AP w X T cs) (g:w.grownBy w' r) (k:∀b,r=some b→∃ds,AP w b U ds) (a:T≠U):AP w' X T cs:=h.by g fun e=>by
 obtain ⟨ds,k⟩:=k X e.symm
 exact a (AX h k)
set_option maxHeartbeats 1000000 in
theorem QB (W w:World) (A t Ac X V K M B:Nat) (v H:Value) (l:List (List UInt8)) (ls:List N5) (hG:Jv W) (E:LZ W w A v l) (hl:∀x ∈ l,x.length≤65536) (hn:l.length≤65537) (h0:0<l.length) (R:BN w K .string Vc) (T:BN w M (.int .u8) RD) (Z:M≠A)
  (s:Ng w B t ls H) (h32:ls.length≤32) (f:AP w Ac 137 [.pointer (some ⟨A,0,none⟩)]) (k:AP w X 135 [.map (some K)]) (h:AP w V 122 [.map (some M)]) (hB:B≤w.heap.size) (hgB:t<B):
  IE prog 126 [.pointer (some ⟨t,0,none⟩), .pointer (some ⟨Ac,0,none⟩), .pointer (some ⟨X,0,none⟩), .pointer (some ⟨V,0,none⟩)] w NW
   (fun r w' =>r= .tuple #[]∧∃c Y,DJ l=some (pn c)∧FW (fun b=>b=A∨b=t∨H.ownBlock=some b) w w' ∧Ng w' B t (ls++[c]) Y)
   (fun w' =>DJ l=none∧FW (fun b=>b=A∨b=t∨H.ownBlock=some b) w w' ∧Ng w' B t ls H):=by
 refine Dr (n:=13) func126 (by kernel_rfl) O O O ?_
 refine Cw.any mixed (fun J F _=> ?_)
 have d:FW (fun b=>b=A∨b=t∨H.ownBlock=some b) w J:=FW.of_below F
 have E:=E.bs F
 have s:=s.bs F
 have f:=f.bs F
 have k:=k.bs F
 have h:=h.bs F
 have R:=R.bs F
 have T:=T.bs F
 have zd:=F.size
 have j:=s.g
 clear F
 refine Aw.seg (St:=(N5×Value×Value)) (g:=1) [0,1,2,3,4,5,6,7,8] 9 (fun z=>[(11,z.2.1),(12, .pointer (some ⟨t,0,none⟩))]) (fun z w' =>DJ l=some (pn z.1)∧FW (fun b=>b=A∨b=t∨H.ownBlock=some b) w w' ∧AP w' t 24 [H]∧w'.ownsRow B 79 5 z.2.1 (ls++[z.1]).length (GI N5.cells (ls++[z.1]))∧GK w' B w'.heap.size (ls++[z.1])) (by kernel_rfl) O ?_ ?_
 ·refine C5 (fun x=>AP x t 24 [H]∧AP x Ac 137 [.pointer (some ⟨A,0,none⟩)]∧AP x X 135 [.map (some K)]∧AP x V 122 [.map (some M)]) (fun hC=> ?_) (⟨j,f,k,h⟩)
  refine Bz (Av Dm)<|Af 0 O (fun J a=>Ch underlying24 O (CB _)) O<|Af 1 O (fun J a=>Ao (DQ _) O (by first|exact a.1|exact a.2.1|exact a.2.2.1|exact a.2.2.2) O) O<|Af 2 O (fun J a=>Ao (Ur _) O (by first|exact a.1|exact a.2.1|exact a.2.2.1|exact a.2.2.2) O) O<|Af 3 O (fun J a=>Ao (RG _) O (by first|exact a.1|exact a.2.1|exact a.2.2.1|exact a.2.2.2) O) O<|Af 4 O (fun J a=>Ao (RI _) O (by first|exact a.1|exact a.2.1|exact a.2.2.1|exact a.2.2.2) O) O<|Bj ?_
  refine AK.only ((by refine ⟨?_, ?_, ?_, ?_⟩<;>assumption)) (i:=5) (by kernel_rfl) O ?_
  refine Cs O O (TK W J A K M v l hG E hl hn h0 R T Z) (fun w' hK=>Bg (Bg (Ct (⟨hK.1,d.grown hK.2 (fun b e=>by cases e;exact .inl (.inl rfl)),s.ob hK.2 E.cell (by decide) (by decide) (by decide)⟩)))) ?_
  rintro _ w2 ⟨c,rfl,U,G, -,a⟩
  have d:=d.grown G (fun b e=>by cases e;exact .inl (.inl rfl))
  have m:=GK.snoc a G.size (s.lay.other G (fun b e=>by cases e;exact ⟨_,E.cell⟩) (by decide)) (AU _)
  have s:=s.ob G E.cell (by decide) (by decide) (by decide)
  replace j:=s.g
  replace f:=FV f G E.cell (by decide)
  replace k:=FV k G E.cell (by decide)
  replace h:=FV h G E.cell (by decide)
  have z2:=G.size
  have oc:=a.at.ones
  clear E R T G
  refine AK.back ?_
  refine AK.only ((by refine ⟨?_, ?_, ?_, ?_⟩<;>assumption)) (i:=6) (by kernel_rfl) O ?_
  refine An (Eb (cs:=c.cells) BM EE O O (by decide) (by decide)) O ?_
  rintro q w3 ⟨N, -,o, -⟩
  have z3:=o.size
  have d:=d.below o
  have s:=s.bs o
  replace j:=s.g
  have f:=f.bs o
  have k:=k.bs o
  have h:=h.bs o
  replace m:=(m.bs o).top o.size
  refine AK.back ?_
  refine AK.only ((by refine ⟨?_, ?_, ?_, ?_⟩<;>assumption)) (i:=7) (by kernel_rfl) O ?_
  refine An (Bv (base:=B) BM EE O (by decide) O O s.o (AG N) oc (by omega) (by omega) (by omega)) O ?_
  rintro y w4 ⟨D, -,p, -⟩
  have C:∀b,H.ownBlock=some b→∃cs,AP w3 b 79 cs:=fun b e=>AQ.ty (.inl s.o) e
  have d:=d.grown p (fun b e=> .inl (.inr (.inr e)))
  replace j:=J6 j p C (by decide)
  replace f:=J6 f p C (by decide)
  replace k:=J6 k p C (by decide)
  replace h:=J6 h p C (by decide)
  replace m:=(m.other p C (by decide)).top p.size
  clear s N
  refine AK.back<|Bz (Av Dm)<|Af 8 O (fun J a=>Ch underlying24 O (CB _)) O<|Bj ?_
  refine AK.done ((by refine ⟨?_, ?_, ?_, ?_⟩<;>assumption)) (by kernel_rfl) ?_
  exact Ay (Pw.seg ((c,y,y)) ⟨rfl,rfl,trivial⟩ (⟨U,d,j,by rw [length_append,MM];exact D,m⟩))
 clear E s f k h R T j d
 rintro ⟨c,y,y2⟩ w4 ⟨U,d,j,D,S⟩
 dsimp only at U D S ⊢
 refine Aw.only (i:=9) (by kernel_rfl) O<|A6 (Cm (u:=y) (CB _) O O (AG D).one' j (show 0<1 by decide)) ?_
 rintro w5 ⟨Q,I, -⟩
 have L:∀b,some t=some b→∃cs,AP w4 b 24 cs:=fun b e=>by cases e;exact ⟨_,j⟩
 refine Aw.back<|Aw.done (by kernel_rfl)<|Fz O ?_
 exact ⟨rfl,c,y,U,d.grown I (fun b e=>by cases e;exact .inl (.inr (.inl rfl))),Q,CH D I L (by decide),(S.other I L (by decide)).top I.size⟩

theorem J5 (u:Value) (n:Nat) (xs:List Value) (w:World) (a:Sl w 5 u n xs):AN prog 58 [u] w (fun r w' =>r=clip u∧Below w.heap.size w w'):=by
 refine A4 (n:=9) func58 O<|Ai<|Ab O<|A3<|Ad O<|Ad O<|Aa (Aq BM O ‹_›) O ?_
 refine Ad O<|Aa (Aq BM O ‹_›) O ?_
 exact Aa (Fq BM rfl rfl rfl a.shp) rfl<|Ab rfl<|As<|Al rfl rfl<|⟨rfl,Below.refl _ _⟩
theorem LO (u:Value) (n:Nat) (xs:List Value) (w:World) (a:Sl w 2 u n xs):AN prog 59 [u] w (fun r w' =>r=clip u∧Below w.heap.size w w'):=by
 refine A4 (n:=9) func59 O<|Ai<|Ab O<|A3<|Ad O<|Ad O<|Aa (Aq BY O ‹_›) O ?_
 refine Ad O<|Aa (Aq BY O ‹_›) O ?_
 exact Aa (Fq BY rfl rfl rfl a.shp) rfl<|Ab rfl<|As<|Al rfl rfl<|⟨rfl,Below.refl _ _⟩
theorem RB (a:Value) (c:a.cells=[a].toArray):Tryz.prog.built 99 [(0,a)]=some [a].toArray:=by
 have b:Tryz.prog.info? 99=some Tryz.t99:=by kernel_rfl
 have d:Tryz.prog.info? 28=some Tryz.t28:=by kernel_rfl
 simp [Program.built,b,underlying99,d,Instr.fill,c]
 rfl
theorem Q4 {l:Bs} {ns:List PN} {ws:List PV} {r:Bs} (h:DO l=some (ns,ws,r)):∃d,ET (Ls ns) d=some (ws,r):=by
 unfold DO at h
 cases h1:HT l with
 |none=>rw [h1] at h;cases h
 |some q=>
  obtain ⟨b,c⟩:=q
  rw [h1] at h
  simp only at h
  cases h2:CP b.toNat c with
  |none=>rw [h2] at h;cases h
  |some q2=>
   obtain ⟨a,l2⟩:=q2
   rw [h2] at h
   simp only at h
   cases h3:ET (Ls a) l2 with
   |none=>rw [h3] at h;cases h
   |some q3=>
    obtain ⟨e,f⟩:=q3
    rw [h3] at h
    cases h
    exact ⟨l2,h3⟩
def Ve (W w:World) (r:Value) (l:Bs):Prop:=∃vn vw ls ts,r= .tuple #[.agg [vn,vw].toArray, .int .i64 (KE l)]∧(ls.map pn,ts.map pv)=(NP l).getD ([],[])∧Od w W.heap.size w.heap.size vn vw ls ts
theorem QN (w:World) {b a:Nat} (h:b≤a):Od w b a (.slice none 0 0) (.slice none 0 0) [] []:=⟨⟨a,h,AU _⟩, .inl ⟨rfl, .inl ⟨rfl,rfl⟩⟩, .inl ⟨rfl, .inl ⟨rfl,rfl⟩⟩⟩
theorem Iz {W w:World} {l:Bs} {e:Int} (c:W.heap.size≤w.heap.size) (a:KE l=e) (b:NP l=none):Ve W w (.tuple #[.agg [.slice none 0 0, .slice none 0 0].toArray, .int .i64 e]) l:=
 ⟨_,_,[],[],by rw [a],by rw [b];rfl,QN w c⟩
set_option maxHeartbeats 1000000 in
theorem NB (v:Value) (l:Bs) (W:World) (hv:BE b8 W v l):AN prog 14 [v] W (fun r w' =>Below W.heap.size W w' ∧Ve W w' r l):=by
 have hle:=hv.le
 refine A4 (n:=63) func14 O<|Ai<|Da La O ?_
 rintro o w eA_m B I zhB
 have zm:=I.size
 have ym:=AW B
 have K:=hv.bs I
 refine Ab O<|A3<|Ad O<|Aa (Aq AO O ‹_›) O ?_
 refine Aa (Ek O O (by omega)) O<|Ab O<|A8<|Ad O<|B8 O<|Ak<|Am O ?_ ?_
 ·intro g
  have g:l.length<4:=by have:=AE g;omega
  refine Ai<|Aa (Ce (FG _) (FB _) O O ‹_›) O ?_
  refine A6 (Ck (cs:=[.slice none 0 0, .slice none 0 0]) O O O O O B O) ?_
  rintro w2 ⟨B,V,hz⟩
  have I:=I.grown V zm (by rintro _ ⟨⟩;omega)
  refine Ab O<|Bw<|Dl O O O ‹_› underlying27 O O O ?_
  exact ⟨I,Iz (AA I) (by simp [KE,g]) (by simp [NP,g])⟩
 intro g
 have g:4≤l.length:=by have:=AD g;omega
 obtain ⟨n,s⟩:∃n,n=l.length - 4:=⟨_,rfl⟩
 have nE:KE l=if gf (l.drop n)≠Crc.of (l.take n) then 11 else if (GZ (l.take n)).isSome then 0 else 4:=by rw [KE,if_neg (by omega),← s]
 have nR:NP l=if gf (l.drop n)≠Crc.of (l.take n) then none else GZ (l.take n):=by rw [NP,if_neg (by omega),← s]
 have X:n≤l.length:=by omega
 refine Ey 4 (v' := .int .i64 (n:Int)) O (cngA (Value.int .i64) (by omega))<|B1<|Ap<|Ai<|Ad O<|Ad O<|Aa (Fo (i:=n) AO O O K X) O ?_
 have l4:¬(l.drop n).length<4:=by rw [length_drop];omega
 refine Ah O O (Ld (cut v 1 n l.length) (l.drop n) w (BE.drop K X)) ?_
 rintro _ w2 ⟨rfl,hn2⟩
 rw [if_neg l4,if_neg l4]
 replace I:=bt I hn2
 have B:=B.bs hn2
 have K:=K.bs hn2
 refine Ad O<|Aa (Az (i:=0) O O) O<|Aa (Az (i:=1) O O) O<|Ab O<|Ab O<|A3<|Ad O<|Ad O<|Ad O<|Aa (El (j:=n) AO O O K X) O<|Ah O O (TI (cut v 1 0 n) (l.take n) w2 (BE.take K X)) ?_
 rintro _ w3 ⟨rfl,hn3⟩
 replace I:=bt I hn3
 have B:=B.bs hn3
 have K:=K.bs hn3
 have z3:=AA I
 have y3:o<w3.heap.size:=AW B
 clear hn2 hn3 l4
 refine Aa (Ex.neq32 O O) O<|Ak<|Am O ?_ ?_
 ·intro g2
  have g2:gf (l.drop n)≠Crc.of (l.take n):=by simpa using g2
  rw [if_pos g2] at nE nR
  refine Ai<|Aa (Ce (FG _) (FB _) O O ‹_›) O ?_
  refine A6 (Ck (cs:=[.slice none 0 0, .slice none 0 0]) O O O O O B O) ?_
  rintro w4 ⟨B,V,hz⟩
  have I:=I.grown V z3 (by rintro _ ⟨⟩;omega)
  refine Ab O<|Bw<|Dl O O O ‹_› underlying27 O O O ?_
  exact ⟨I,Iz (AA I) nE nR⟩
 intro g2
 have g2:¬gf (l.drop n)≠Crc.of (l.take n):=by simpa using g2
 rw [if_neg g2] at nE nR
 have s_t:=BE.take K X
 refine Ci<|Ad O<|Ad O<|Aa (El (j:=n) AO O O K X) O<|Aa (Bi (vs:=[(0,cut v 1 0 n)]) (cs:=[cut v 1 0 n]) O (RB _ s_t.one)) O<|An (Xw.box (cs:=[cut v 1 0 n]) O O) O ?_
 rintro _ w4 ⟨rfl,b_A,hn4,hz4⟩
 replace I:=bt I hn4
 have B:=B.bs hn4
 refine Ga (u:= .pointer (some ⟨w3.heap.size,0,none⟩)) UV U7 O (fun _=>rfl) (rfl) ?_
 rintro M w5 eA_c b_c hn5 zhn5
 replace I:=bt I hn5
 have B:=B.bs hn5
 have b_A:=b_A.bs hn5
 have y5:=AW b_c
 have z5:=hn5.size
 obtain ⟨lt,hlt⟩:∃t,t=l.take n:=⟨_,rfl⟩
 have s_t0:BE b8 W (cut v 1 0 n) lt:=by rw [hlt];exact BE.take hv X
 rw [← hlt] at nE nR
 have hp:∀N A,N=w5.heap.size→Below w5.heap.size w5 A→AP A N 4 [.bool false]→
   IE prog 51 [.pointer (some ⟨M,0,none⟩), .pointer (some ⟨o,0,none⟩)] A NW
    (fun r w' =>r= .tuple #[]∧AP w' N 4 [.bool false]∧∃A z ls ts D E,Below w5.heap.size w5 A∧N<A.heap.size∧AP w' N 4 [.bool false]∧DO lt=some (ls.map pn,ts.map pv,z)∧Gt W A w' M w3.heap.size o w'.heap.size z ls D ts E)
    (fun w' =>AP w' N 4 [.bool false]∧DO lt=none∧∃A,Below w5.heap.size w5 A∧N<A.heap.size∧Kt A w' w3.heap.size o):=fun N A eA' hk b_k=>by
  have zk:=hk.size
  have L:Ti W A M w3.heap.size o:=⟨by omega,by omega,by omega,by omega,by omega,by omega⟩
  have hG:Gt W A A M w3.heap.size o A.heap.size lt [] (.slice none 0 0) [] (.slice none 0 0):=
   ⟨FW.refl _ _,b_c.bs hk,B.bs hk,⟨_,s_t0,bt I hk,z3,b_A.bs hk⟩,⟨rfl, .inl ⟨rfl,rfl⟩⟩,⟨rfl, .inl ⟨rfl,rfl⟩⟩,⟨A.heap.size,AU _,AU _⟩,AU _⟩
  have nS:¬(N=w3.heap.size∨N=o):=by omega
  exact (Ui W A M w3.heap.size o lt L hG).mono (fun r w' ⟨h1,z,ls,ts,D,E,h2,h3⟩=>⟨h1,b_k.chg h3.chg nS,A,z,ls,ts,D,E,hk,AW b_k,b_k.chg h3.chg nS,h2,h3⟩) fun w' ⟨h1,h2⟩=>⟨b_k.chg h2.1 nS,h1,A,hk,AW b_k,h2⟩
 refine A3<|Aa (Ew (vs:=[]) (us:=[.pointer (some ⟨M,0,none⟩), .pointer (some ⟨o,0,none⟩)]) O O) O<|Ah O O (KM 51 [.pointer (some ⟨M,0,none⟩), .pointer (some ⟨o,0,none⟩)] w5 (fun N w' =>∃A z ls ts D E,Below w5.heap.size w5 A∧N<A.heap.size∧AP w' N 4 [.bool false]∧DO lt=some (ls.map pn,ts.map pv,z)∧Gt W A w' M w3.heap.size o w'.heap.size z ls D ts E) (fun N w' =>DO lt=none∧∃A,Below w5.heap.size w5 A∧N<A.heap.size∧Kt A w' w3.heap.size o) hp) ?_
 rintro _ w6 ⟨N,w0,eA',V,⟨rfl,A,z,ls,ts,D,E,hk,hAk,b_k0,hrd,h⟩|⟨rfl,hrd,A,hk,hAk,hK⟩⟩
 ·have zk:=hk.size
  have L:Ti W A M w3.heap.size o:=⟨by omega,by omega,by omega,by omega,by omega,by omega⟩
  obtain ⟨vr,hr⟩:=h.r
  obtain ⟨mid,J,l2⟩:=h.lay
  have ltA:N<w0.heap.size:=by have:=h.chg.size;omega
  have hB0:Below W.heap.size W w0:=(bt I hk).trans (h.chg.to_below (by rintro k (rfl|rfl)<;>omega) (by omega))
  have d:=hB0.grown V (AA hB0) (by rintro _ ⟨⟩;omega)
  have c6:=h.c.by V (fun e=>by have:=Option.some.inj e;omega)
  have c:=h.m.by V (fun e=>by have:=Option.some.inj e;omega)
  have r6:=hr.grow V (fun b e=>by cases e;omega)
  have H:=AR h.o fun b e=>V.block b (AB h.o b e).2 fun e2=>by have:=Option.some.inj e2;have:=(AB h.o b e).1;omega
  have G:=AR h.u fun b e=>V.block b (AB h.u b e).2 fun e2=>by have:=Option.some.inj e2;have:=(AB h.u b e).1;omega
  have tk:∀b,some N=some b→∃cs,AP w0 b 4 cs:=fun b e=>by cases e;exact ⟨_,b_k0⟩
  have J:=J.other V tk (by decide)
  have l2:=l2.other V tk (by decide) (by decide)
  have s_r:=r6.sl.bs d
  have b_A6:=r6.cell
  have h_g:GN w6 D ls:=⟨AG H,fun a ha=>(J.each a ha).at⟩
  have h_w:DR w6 E ts:=⟨AG G,fun a ha=>(l2.each a ha).at⟩
  have eB:GZ lt=if z=[]∧(EK ls).isSome=true then some (ls.map pn,ts.map pv) else none:=by rw [GZ,hrd];simp only [FN]
  have z6:=V.size
  have z60:=AA d
  clear h hr b_k0 tk
  refine Ab O<|A8<|Ad O<|Aa (Cz O) O<|Ad O<|Cx 38 (v' := .bool false) O (cngA Value.bool (rfl))<|Aj (dj:=38) O O<|Aa (Ao (Jn _) O ‹_› rfl) O ?_
  refine Aj (dj:=38) O O<|Aa (Cp O) O<|Aj (dj:=38) O O<|A9 underlying99 O (KI _)<|Aj (dj:=38) O O<|Aa (Ao (HO _) O ‹_› rfl) O ?_
  refine Aj (dj:=38) O O<|Aa (Aq AO O ‹_›) O ?_
  refine Aj (dj:=38) O O<|Aa (C7 O O) O<|Co O<|Ad O ?_
  refine Cc 46 O ?_ ?_
  ·intro g3
   have g3:0<z.length:=by simpa using g3
   have eN:GZ lt=none:=by rw [eB];exact if_neg fun ⟨q,_⟩=>by rw [q] at g3;exact absurd g3 (by decide)
   refine Ae (dj:=46) O O O O<|Ae (dj:=46) O O O O<|Ae (dj:=46) O O O O<|Bt O<|Ak<|B6 O<|Ai<|Lw.z2 O<|A6 (Ck (cs:=[.slice none 0 0, .slice none 0 0]) (k:=2) (by kernel_rfl) O O O O c O) ?_
   rintro w9 ⟨S,m, -⟩
   have C:=d.grown m (AA d) (by rintro _ ⟨⟩;omega)
   refine Ab O<|Bw<|Dl O O O ‹_› underlying27 O O O ?_
   exact ⟨C,Iz (AA C) (by rw [nE,eN];rfl) (by rw [nR,eN])⟩
  intro g3
  have g3:z=[]:=eq_nil_of_length_eq_zero (by have:¬0<z.length:=(by simpa using g3);omega)
  rw [g3] at eB
  refine Aj (dj:=46) O O<|Aa (Ce (k:=2) (FG _) (FB _) O O c) O<|Aj (dj:=46) O O<|Ah O O (SX D E ls ts w6 h_g h_w) ?_
  rintro _ w7 ⟨rfl,U⟩
  obtain ⟨l',hw'⟩:=Q4 hrd
  have hmay:=QP hw'
  rw [hmay]
  replace d:=bt d U
  have c:=c.bs U
  replace H:=AF H U
  replace G:=AF G U
  have J:=J.bs U
  have l2:=l2.bs U
  have z7:=U.size
  clear U h_g h_w s_r b_A6 r6 c6
  refine Aj (dj:=46) O O<|Aa (Cz O) O<|Co O<|Ak<|Am O ?_ ?_
  ·intro g4
   have g4:(EK ls).isSome=false:=by simpa using g4
   have eN:GZ lt=none:=by rw [eB];exact if_neg fun ⟨_,q⟩=>by rw [g4] at q;cases q
   refine Ai<|Lw.z2 O<|A6 (Ck (cs:=[.slice none 0 0, .slice none 0 0]) (k:=2) (by kernel_rfl) O O O O c O) ?_
   rintro w9 ⟨S,m, -⟩
   have C:=d.grown m (AA d) (by rintro _ ⟨⟩;omega)
   refine Ab O<|Bw<|Dl O O O ‹_› underlying27 O O O ?_
   exact ⟨C,Iz (AA C) (by rw [nE,eN];rfl) (by rw [nR,eN])⟩
  intro g4
  have g4:(EK ls).isSome=true:=by simpa using g4
  rw [if_pos ⟨rfl,g4⟩] at eB
  refine B1<|Ap ?_
  refine Cw.any mixed (fun w8 hd _=> ?_)
  replace d:=bt d hd
  have c:=c.bs hd
  replace H:=AF H hd
  replace G:=AF G hd
  have J:=J.bs hd
  have l2:=l2.bs hd
  have z8:=hd.size
  clear hd
  refine Aw.take (i:=0) (Av Bh) O (by kernel_rfl) (by kernel_rfl) (by kernel_rfl) (fun _=>Ch underlying27 O (BP _)) O<|Aw.take (i:=1) (Av Bh) O (by kernel_rfl) (by kernel_rfl) (by kernel_rfl) (fun _=>Ch underlying24 O (CB _)) O<|Aw.take (i:=4) (Av Bh) O (by kernel_rfl) (by kernel_rfl) (by kernel_rfl) (fun _=>Ch underlying27 O (CZ _)) O ?_
  refine Gp (i:=2) (j:=5) (by kernel_rfl) O O ?_ ?_
  refine Aa (Ao (DQ _) O ‹_› rfl) O ?_
  refine Aw.back ?_
  refine Gp (i:=3) (j:=5) (by kernel_rfl) O O ?_ ?_
  refine Ah O O (J5 D _ _ _ (AG H)) ?_
  rintro _ w ⟨rfl,s⟩
  have zn:=s.size
  replace d:=bt d s
  have c:=c.bs s
  replace H:=AF H s
  replace G:=AF G s
  have J:=J.bs s
  have l2:=l2.bs s
  refine Aw.back<|Aw.only (i:=5) (by kernel_rfl) O<|Aa (Ao (FH _) O ‹_› rfl) O ?_
  refine Aw.back<|Aw.take (i:=7) (Av Bh) O (by kernel_rfl) (by kernel_rfl) (by kernel_rfl) (fun _=>Ch underlying27 O (BP _)) O<|Aw.take (i:=8) (Av Bh) O (by kernel_rfl) (by kernel_rfl) (by kernel_rfl) (fun _=>Ch underlying24 O (CB _)) O<|Aw.only (i:=6) (by kernel_rfl) O<|Ah O O (LO E _ _ _ (AG G)) ?_
  rintro _ w ⟨rfl,s⟩
  have zn2:=s.size
  replace d:=bt d s
  have c:=c.bs s
  replace H:=AF H s
  replace G:=AF G s
  have J:=J.bs s
  have l2:=l2.bs s
  refine Aw.back<|Aw.only (i:=9) (by kernel_rfl) O ?_
  have k6:=AQ.clip H
  have j6:=AQ.clip G
  refine A6 (Cm (u:=clip D) (CB _) O O k6.sl.one' c (show 0<2 by decide)) ?_
  rintro w9 ⟨F,x, -⟩
  have Y:∀b,some o=some b→∃cs,AP _ b 27 cs:=fun b e=>by cases e;exact ⟨_,c⟩
  have k7:=AC k6 x Y (by decide)
  have j7:=AC j6 x Y (by decide)
  have l17:=J.other x Y (by decide)
  have l27:=l2.other x Y (by decide) (by decide)
  have zg7:=x.size
  have T:=d.grown x (AA d) (by rintro _ ⟨⟩;omega)
  refine Aw.back<|Aw.take (i:=10) (Av Bh) O (by kernel_rfl) (by kernel_rfl) (by kernel_rfl) (fun _=>Ch underlying27 O (CZ _)) O<|Aw.only (i:=11) (by kernel_rfl) O<|A6 (Cm (u:=clip E) (CZ _) O O j7.sl.one' F (show 1<2 by decide)) ?_
  rintro wA ⟨f,y, -⟩
  have Z:∀b,some o=some b→∃cs,AP w9 b 27 cs:=fun b e=>by cases e;exact ⟨_,F⟩
  have k8:=AC k7 y Z (by decide)
  have j8:=AC j7 y Z (by decide)
  have l18:=l17.other y Z (by decide)
  have l28:=l27.other y Z (by decide) (by decide)
  have zg8:=y.size
  have R:=T.grown y (AA T) (by rintro _ ⟨⟩;omega)
  have Q:[clip D,clip E].all (·.oneCell')=true:=by simp [k8.sl.one',j8.sl.one']
  replace f:AP wA o 27 [clip D,clip E]:=f
  refine Aw.back<|Aw.done (by kernel_rfl)<|Cf<|Aa (Ce (k:=2) (FG _) (FB _) O O f) O<|A6 (Ck (cs:=[clip D,clip E]) (k:=2) (by kernel_rfl) O O O Q f O) ?_
  rintro wB ⟨S,m, -⟩
  have t9:∀b,some o=some b→∃cs,AP wA b 27 cs:=fun b e=>by cases e;exact ⟨_,f⟩
  have k9:=AC k8 m t9 (by decide)
  have j9:=AC j8 m t9 (by decide)
  have l19:=l18.other m t9 (by decide)
  have l29:=l28.other m t9 (by decide) (by decide)
  have zg9:=m.size
  have C:=R.grown m (AA R) (by rintro _ ⟨⟩;omega)
  refine Ab O<|As<|Dl O O O ‹_› underlying27 O O O ?_
  exact ⟨C,clip D,clip E,ls,ts,by rw [nE,eB];rfl,by rw [nR,eB];rfl,⟨mid,GK.low l19 (by omega),l29.topM (by omega)⟩,k9.mono (by omega),j9.mono (by omega)⟩
  refine Aa (Ao (FH _) O ‹_› rfl) O ?_
  refine Aw.back<|Aw.only (i:=3) (by kernel_rfl) O<|Ah O O (J5 D _ _ _ (AG H)) ?_
  rintro _ w ⟨rfl,s⟩
  have zn:=s.size
  replace d:=bt d s
  have c:=c.bs s
  replace H:=AF H s
  replace G:=AF G s
  have J:=J.bs s
  have l2:=l2.bs s
  refine Aw.back<|Aw.take (i:=7) (Av Bh) O (by kernel_rfl) (by kernel_rfl) (by kernel_rfl) (fun _=>Ch underlying27 O (BP _)) O<|Aw.take (i:=8) (Av Bh) O (by kernel_rfl) (by kernel_rfl) (by kernel_rfl) (fun _=>Ch underlying24 O (CB _)) O<|Aw.only (i:=6) (by kernel_rfl) O<|Ah O O (LO E _ _ _ (AG G)) ?_
  rintro _ w ⟨rfl,s⟩
  have zn2:=s.size
  replace d:=bt d s
  have c:=c.bs s
  replace H:=AF H s
  replace G:=AF G s
  have J:=J.bs s
  have l2:=l2.bs s
  refine Aw.back<|Aw.only (i:=9) (by kernel_rfl) O ?_
  have k6:=AQ.clip H
  have j6:=AQ.clip G
  refine A6 (Cm (u:=clip D) (CB _) O O k6.sl.one' c (show 0<2 by decide)) ?_
  rintro w9 ⟨F,x, -⟩
  have Y:∀b,some o=some b→∃cs,AP _ b 27 cs:=fun b e=>by cases e;exact ⟨_,c⟩
  have k7:=AC k6 x Y (by decide)
  have j7:=AC j6 x Y (by decide)
  have l17:=J.other x Y (by decide)
  have l27:=l2.other x Y (by decide) (by decide)
  have zg7:=x.size
  have T:=d.grown x (AA d) (by rintro _ ⟨⟩;omega)
  refine Aw.back<|Aw.take (i:=10) (Av Bh) O (by kernel_rfl) (by kernel_rfl) (by kernel_rfl) (fun _=>Ch underlying27 O (CZ _)) O<|Aw.only (i:=11) (by kernel_rfl) O<|A6 (Cm (u:=clip E) (CZ _) O O j7.sl.one' F (show 1<2 by decide)) ?_
  rintro wA ⟨f,y, -⟩
  have Z:∀b,some o=some b→∃cs,AP w9 b 27 cs:=fun b e=>by cases e;exact ⟨_,F⟩
  have k8:=AC k7 y Z (by decide)
  have j8:=AC j7 y Z (by decide)
  have l18:=l17.other y Z (by decide)
  have l28:=l27.other y Z (by decide) (by decide)
  have zg8:=y.size
  have R:=T.grown y (AA T) (by rintro _ ⟨⟩;omega)
  have Q:[clip D,clip E].all (·.oneCell')=true:=by simp [k8.sl.one',j8.sl.one']
  replace f:AP wA o 27 [clip D,clip E]:=f
  refine Aw.back<|Aw.done (by kernel_rfl)<|Cf<|Aa (Ce (k:=2) (FG _) (FB _) O O f) O<|A6 (Ck (cs:=[clip D,clip E]) (k:=2) (by kernel_rfl) O O O Q f O) ?_
  rintro wB ⟨S,m, -⟩
  have t9:∀b,some o=some b→∃cs,AP wA b 27 cs:=fun b e=>by cases e;exact ⟨_,f⟩
  have k9:=AC k8 m t9 (by decide)
  have j9:=AC j8 m t9 (by decide)
  have l19:=l18.other m t9 (by decide)
  have l29:=l28.other m t9 (by decide) (by decide)
  have zg9:=m.size
  have C:=R.grown m (AA R) (by rintro _ ⟨⟩;omega)
  refine Ab O<|As<|Dl O O O ‹_› underlying27 O O O ?_
  exact ⟨C,clip D,clip E,ls,ts,by rw [nE,eB];rfl,by rw [nR,eB];rfl,⟨mid,GK.low l19 (by omega),l29.topM (by omega)⟩,k9.mono (by omega),j9.mono (by omega)⟩
  refine Aa (Ao (FH _) O ‹_› rfl) O ?_
  refine Aw.back<|Aw.only (i:=2) (by kernel_rfl) O<|Aa (Ao (DQ _) O ‹_› rfl) O ?_
  refine Aw.back<|Aw.only (i:=3) (by kernel_rfl) O<|Ah O O (J5 D _ _ _ (AG H)) ?_
  rintro _ w ⟨rfl,s⟩
  have zn:=s.size
  replace d:=bt d s
  have c:=c.bs s
  replace H:=AF H s
  replace G:=AF G s
  have J:=J.bs s
  have l2:=l2.bs s
  refine Aw.back<|Aw.take (i:=7) (Av Bh) O (by kernel_rfl) (by kernel_rfl) (by kernel_rfl) (fun _=>Ch underlying27 O (BP _)) O<|Aw.take (i:=8) (Av Bh) O (by kernel_rfl) (by kernel_rfl) (by kernel_rfl) (fun _=>Ch underlying24 O (CB _)) O<|Aw.only (i:=6) (by kernel_rfl) O<|Ah O O (LO E _ _ _ (AG G)) ?_
  rintro _ w ⟨rfl,s⟩
  have zn2:=s.size
  replace d:=bt d s
  have c:=c.bs s
  replace H:=AF H s
  replace G:=AF G s
  have J:=J.bs s
  have l2:=l2.bs s
  refine Aw.back<|Aw.only (i:=9) (by kernel_rfl) O ?_
  have k6:=AQ.clip H
  have j6:=AQ.clip G
  refine A6 (Cm (u:=clip D) (CB _) O O k6.sl.one' c (show 0<2 by decide)) ?_
  rintro w9 ⟨F,x, -⟩
  have Y:∀b,some o=some b→∃cs,AP _ b 27 cs:=fun b e=>by cases e;exact ⟨_,c⟩
  have k7:=AC k6 x Y (by decide)
  have j7:=AC j6 x Y (by decide)
  have l17:=J.other x Y (by decide)
  have l27:=l2.other x Y (by decide) (by decide)
  have zg7:=x.size
  have T:=d.grown x (AA d) (by rintro _ ⟨⟩;omega)
  refine Aw.back<|Aw.take (i:=10) (Av Bh) O (by kernel_rfl) (by kernel_rfl) (by kernel_rfl) (fun _=>Ch underlying27 O (CZ _)) O<|Aw.only (i:=11) (by kernel_rfl) O<|A6 (Cm (u:=clip E) (CZ _) O O j7.sl.one' F (show 1<2 by decide)) ?_
  rintro wA ⟨f,y, -⟩
  have Z:∀b,some o=some b→∃cs,AP w9 b 27 cs:=fun b e=>by cases e;exact ⟨_,F⟩
  have k8:=AC k7 y Z (by decide)
  have j8:=AC j7 y Z (by decide)
  have l18:=l17.other y Z (by decide)
  have l28:=l27.other y Z (by decide) (by decide)
  have zg8:=y.size
  have R:=T.grown y (AA T) (by rintro _ ⟨⟩;omega)
  have Q:[clip D,clip E].all (·.oneCell')=true:=by simp [k8.sl.one',j8.sl.one']
  replace f:AP wA o 27 [clip D,clip E]:=f
  refine Aw.back<|Aw.done (by kernel_rfl)<|Cf<|Aa (Ce (k:=2) (FG _) (FB _) O O f) O<|A6 (Ck (cs:=[clip D,clip E]) (k:=2) (by kernel_rfl) O O O Q f O) ?_
  rintro wB ⟨S,m, -⟩
  have t9:∀b,some o=some b→∃cs,AP wA b 27 cs:=fun b e=>by cases e;exact ⟨_,f⟩
  have k9:=AC k8 m t9 (by decide)
  have j9:=AC j8 m t9 (by decide)
  have l19:=l18.other m t9 (by decide)
  have l29:=l28.other m t9 (by decide) (by decide)
  have zg9:=m.size
  have C:=R.grown m (AA R) (by rintro _ ⟨⟩;omega)
  refine Ab O<|As<|Dl O O O ‹_› underlying27 O O O ?_
  exact ⟨C,clip D,clip E,ls,ts,by rw [nE,eB];rfl,by rw [nR,eB];rfl,⟨mid,GK.low l19 (by omega),l29.topM (by omega)⟩,k9.mono (by omega),j9.mono (by omega)⟩
 have zk:=hk.size
 obtain ⟨hC,p,q,b_m0⟩:=hK
 have hB0:Below W.heap.size W w0:=(bt I hk).trans (hC.to_below (by rintro k (rfl|rfl)<;>omega) (by omega))
 have d:=hB0.grown V (AA hB0) (by rintro _ ⟨⟩;omega)
 have c:=b_m0.by V (fun e=>by have:=Option.some.inj e;omega)
 have eN:GZ lt=none:=by rw [GZ,hrd]
 refine Ab O<|A8<|Ad O<|Aa (Cz O) O<|Ad O<|Cx 38 (v' := .bool true) O (cngA Value.bool (rfl))<|Ae (dj:=38) O O O O<|Ae (dj:=38) O O O O<|Ae (dj:=38) O O O O<|Ae (dj:=38) O O O O<|Ae (dj:=38) O O O O<|Ae (dj:=38) O O O O<|Bt O<|Ad O<|Ae (dj:=46) O O O O<|Ae (dj:=46) O O O O<|Ae (dj:=46) O O O O<|Bt O<|Ak<|B6 O<|Ai<|Lw.z2 O<|A6 (Ck (cs:=[.slice none 0 0, .slice none 0 0]) (k:=2) (by kernel_rfl) O O O O c O) ?_
 rintro w9 ⟨S,m, -⟩
 have C:=d.grown m (AA d) (by rintro _ ⟨⟩;omega)
 refine Ab O<|Bw<|Dl O O O ‹_› underlying27 O O O ?_
 exact ⟨C,Iz (AA C) (by rw [nE,eN];rfl) (by rw [nR,eN])⟩

-- dd: text
def Vh (ds:List Rw) (k v:Value):Prop:=∃r ∈ ds,k= .int .u8 (r.k:Int)∧v= .agg r.cells.toArray
def Vi (ds:List Rw) (k v:Value):Prop:=∃r ∈ ds,k=st r.word∧v=b8 (BitVec.ofNat 8 r.k)
def L2 (ds:List Rw):Nat:=(HX.filter fun r=>decide (r ∉ ds)).length
theorem Pb {ds:List Rw} {r:Rw} (h:r ∈ HX) (a:r ∉ ds):L2 (ds++[r])<L2 ds:=by
 unfold L2
 have e:(HX.filter fun q=>decide (q ∉ ds++[r]))=(HX.filter fun q=>decide (q ∉ ds)).filter fun q=>decide (q≠r):=by
  rw [List.filter_filter]
  refine filter_congr fun q _=> ?_
  simp only [mem_append,mem_singleton,not_or,ne_eq]
  by_cases h1:q ∈ ds<;>by_cases h2:q=r<;>simp [h1,h2]
 rw [e]
 refine List.length_filter_lt_length_iff_exists.2 ⟨r,List.mem_filter.2 ⟨h,by simpa using a⟩,by simp⟩
theorem P2:∀r ∈ HX,(BitVec.ofNat 8 r.k).toNat=r.k:=by decide
theorem Sm:∀r ∈ HX,∀q ∈ HX,r.k=q.k→r=q:=by decide
theorem QM {ds:List Rw} {r:Rw} (h:∀q ∈ ds,q ∈ HX) (b:r ∈ HX):∀q ∈ ds++[r],q ∈ HX:=fun q a=>by
 rcases List.mem_append.1 a with a|a
 ·exact h q a
 ·rw [List.mem_singleton.1 a];exact b
theorem OG {ds:List Rw} {r:Rw} {p:Rw→Prop}:((∃q ∈ ds,p q)∨p r)↔∃q ∈ ds++[r],p q:=by
 constructor
 ·rintro (⟨q,a,e⟩|e)
  ·exact ⟨q,by simp [a],e⟩
  ·exact ⟨r,by simp,e⟩
 ·rintro ⟨q,a,e⟩
  rcases List.mem_append.1 a with h|h
  ·exact .inl ⟨q,h,e⟩
  ·rw [List.mem_singleton.1 h] at e;exact .inr e
theorem Q5 (ds:List Rw) (r:Rw) (k v:Value):(Vh ds k v∨(k= .int .u8 (r.k:Int)∧v= .agg r.cells.toArray))↔Vh (ds++[r]) k v:=OG (p:=fun r=>k= .int .u8 (r.k:Int)∧v= .agg r.cells.toArray)
theorem QU (ds:List Rw) {r:Rw} (a:r ∈ HX) (k v:Value):(Vi ds k v∨(k=st r.word∧v= .int .u8 (r.k:Int)))↔Vi (ds++[r]) k v:=by
 rw [show Value.int .u8 (r.k:Int)=b8 (BitVec.ofNat 8 r.k) by rw [b8,P2 r a]]
 exact OG (p:=fun r=>k=st r.word∧v=b8 (BitVec.ofNat 8 r.k))
theorem SI (a:Value) (c:a.cells=[a].toArray):Tryz.prog.built 139 [(0,a)]=some [a].toArray:=by
 have b:Tryz.prog.info? 139=some Tryz.t139:=by kernel_rfl
 have d:Tryz.prog.info? 126=some Tryz.t126:=by kernel_rfl
 simp [Program.built,b,underlying139,d,Instr.fill,c]
 rfl
theorem Kx (c:UInt8):∀s:List UInt8,(CG c s).length≤s.length+1∧∀x ∈ CG c s,x.length≤s.length
 |[]=>⟨AU 1,fun x a=>by rw [List.mem_singleton.1 a];exact AU _⟩
 |b::l=>by
  obtain ⟨g,f⟩:=Kx c l
  obtain ⟨y,d,e⟩:∃y d,CG c l=y::d:=by
   cases h:CG c l with
   |nil=>exact absurd h (LN c l)
   |cons y d=>exact ⟨y,d,rfl⟩
  rw [e] at g f
  unfold CG
  rw [e]
  split
  ·refine ⟨by simp at g ⊢;omega,fun x a=> ?_⟩
   rcases List.mem_cons.1 a with rfl|a
   ·exact Nat.zero_le _
   ·have:=f x a;simp only [length_cons];omega
  ·refine ⟨by simp at g ⊢;omega,fun x a=> ?_⟩
   rcases List.mem_cons.1 a with rfl|a
   ·have:=f y (by simp);simp only [List.headD_cons,length_cons];omega
   ·have:=f x (mem_cons_of_mem _ a);simp only [length_cons];omega
theorem R1 (v:Value) (n:Nat):∀b,(cut v 1 0 n).ownBlock=some b→v.ownBlock=some b:=fun b h=>SE h
theorem KX {w w' :World} {M:Nat} {d:TypeDesc} {S:Value→Value→Prop} {T:Nat→Prop} (h:BN w M d S) (g:FW T w w') (f:¬T M):BN w' M d S:=by
 have a:=h.lt
 obtain ⟨i,c,e,b⟩:=h
 exact ⟨i,c,by rw [g.block M a f];exact e,b⟩
def ES (ts:List (List UInt8)) (i:Nat) (pre:List PN):Prop:=EU 0 ts=match EU i (ts.drop i) with
 | .inl j=> .inl j
 | .inr ns=> .inr (pre++ns)
theorem Gv (ts:List (List UInt8)):ES ts 0 []:=by
 unfold ES
 rw [drop_zero]
 cases EU 0 ts<;>rfl
theorem ES.step {ts:List (List UInt8)} {i:Nat} {a:List PN} {t:List UInt8} {p:PN} (h:ES ts i a) (b:ts.drop i=t::ts.drop (i+1)) (d:i<32) (c:DJ (CG 32 t)=some p):ES ts (i+1) (a++[p]):=by
 unfold ES at h ⊢
 rw [b] at h
 exact QC h d c
theorem ES.no {ts:List (List UInt8)} {i:Nat} {a:List PN} {t:List UInt8} (h:ES ts i a) (b:ts.drop i=t::ts.drop (i+1)) (c:32≤i∨DJ (CG 32 t)=none):EU 0 ts= .inl i:=by
 unfold ES at h
 rw [b] at h
 exact TC h c
theorem ES.done {ts:List (List UInt8)} {i:Nat} {a:List PN} (h:ES ts i a) (b:i=ts.length):EU 0 ts= .inr a:=by
 unfold ES at h
 rw [b,drop_length] at h
 rw [h]
 simp [EU]
theorem TD {s:List UInt8} (h:¬65536<s.length):(∀i,EU 0 (DV s)= .inl i→IL s=(i:Int)∧IK s=4∧L6 s=[])∧∀ns,EU 0 (DV s)= .inr ns→IL s=0∧IK s=(if (MI ns).isSome then 0 else 1)∧L6 s=if (MI ns).isSome then ns else []:=by
 unfold IL IK L6
 rw [if_neg h,if_neg h,if_neg h]
 exact ⟨fun i e=>by rw [e];exact ⟨rfl,rfl,rfl⟩,fun ns e=>by rw [e];exact ⟨rfl,rfl,rfl⟩⟩
def Va (W w:World) (r:Value) (s:List UInt8):Prop:=∃vn ls,r= .tuple #[.agg [vn].toArray, .int .i64 (IL s), .int .i64 (IK s)]∧ls.map pn=L6 s∧GK w W.heap.size w.heap.size ls∧AQ w W.heap.size 79 5 vn ls.length (GI N5.cells ls)
theorem Jz {W w:World} {s:List UInt8} {a e:Int} (f:W.heap.size≤w.heap.size) (c:IL s=a) (b:IK s=e) (d:L6 s=[]):Va W w (.tuple #[.agg [.slice none 0 0].toArray, .int .i64 a, .int .i64 e]) s:=
 ⟨_,[],by rw [c,b],by rw [d];rfl,f, .inl ⟨rfl, .inl ⟨rfl,rfl⟩⟩⟩
set_option maxHeartbeats 4000000 in
theorem Oz (s:List UInt8) (W:World) (hG:Jv W):AN prog 27 [st s] W (fun r w' =>Below W.heap.size W w' ∧Va W w' r s):=by
 refine A4 (n:=74) func27 O<|Ai<|Da MD O ?_
 rintro o w1 eA_g a m zhB
 have z1:=m.size
 refine Ab O<|Ab O<|A8<|Ad O<|Aa (Gc Mh O) O<|Aa (C7 O O) O<|Ak<|Am O ?_ ?_
 ·intro g
  have g:65536<s.length:=by have:=AE g;omega
  refine Ai<|Aa (Ce (ER _) (BP _) O O ‹_›) O ?_
  refine A6 (Ck (cs:=[.slice none 0 0]) (k:=1) (by kernel_rfl) O O O O a O) ?_
  rintro w2 ⟨a,hg,hz⟩
  have m:=m.grown hg (by omega) (by rintro _ ⟨⟩;omega)
  refine Ab O<|Ab O<|Bw<|Eu O O O O ‹_› underlying24 O O O ?_
  exact ⟨m,Jz (AA m) (by rw [IL,if_pos g]) (by rw [IK,if_pos g]) (by rw [L6,if_pos g])⟩
 intro g
 have hs:¬65536<s.length:=by have:=AD g;omega
 clear g
 refine Ci<|Ah O O (Q0 w1) ?_
 rintro _ w2 ⟨hn2,M,rfl,zM,mM⟩
 have z2:=hn2.size
 have lM0:=mM.lt
 replace m:=bt m hn2
 have a:=a.bs hn2
 refine An (Fv (d:= .string)) O ?_
 rintro _ w3 ⟨rfl,E,hn3,zK⟩
 obtain ⟨K,hK⟩:∃K,K=w2.heap.size:=⟨_,rfl⟩
 rw [← hK] at E ⊢
 replace m:=bt m hn3
 have a:=a.bs hn3
 have mM:=mM.bs hn3
 refine Da TZ O ?_
 rintro Q w4 eA_a f hn4 zhn4
 have z4:=hn4.size
 replace m:=bt m hn4
 have a:=a.bs hn4
 have mM:=mM.bs hn4
 have E:=E.bs hn4
 refine Da TY O ?_
 rintro N w5 eA_k l hn5 zhn5
 have z5:=hn5.size
 replace m:=bt m hn5
 have a:=a.bs hn5
 have f:=f.bs hn5
 have mM:=mM.bs hn5
 have E:=E.bs hn5
 have lM:=mM.lt
 have lK:=E.lt
 refine A6 (Cm (u:= .map (some M)) (T1 _) O O O f (show 0<1 by decide)) ?_
 rintro w6 ⟨b_a6,hg6,hz6⟩
 have m:=m.grown hg6 (AA m) (by rintro _ ⟨⟩;omega)
 replace a:=FV a hg6 f (by decide)
 replace l:=FV l hg6 f (by decide)
 have l4:∀{X:Nat},X<w3.heap.size→some X≠some Q:=fun h e=>by have:=Option.some.inj e;omega
 have mM:=mM.keep (hg6.block M lM (l4 (by omega)))
 have E:=E.keep (hg6.block K lK (l4 (by omega)))
 replace f:AP w6 Q 122 [.map (some M)]:=b_a6
 clear hg6 b_a6
 refine A6 (Cm (u:= .map (some K)) (Tz _) O O O l (show 0<1 by decide)) ?_
 rintro w7 ⟨b_k7,hg7,hz7⟩
 have m:=m.grown hg7 (AA m) (by rintro _ ⟨⟩;omega)
 replace a:=FV a hg7 l (by decide)
 replace f:=FV f hg7 l (by decide)
 have l5:∀{X:Nat},X<w3.heap.size→some X≠some N:=fun h e=>by have:=Option.some.inj e;omega
 have mM:=mM.keep (hg7.block M mM.lt (l5 (by omega)))
 have E:=E.keep (hg7.block K E.lt (l5 (by omega)))
 replace l:AP w7 N 135 [.map (some K)]:=b_k7
 clear hg7 b_k7 l4 l5
 refine A8<|Aa (Ao (RI _) O ‹_› rfl) O ?_
 refine An (Xw.rangeM underlying122 O mM) O ?_
 rintro _ w8 ⟨rfl,mI,hn8,z8⟩
 obtain ⟨I,hI⟩:∃I,I=w7.heap.size:=⟨_,rfl⟩
 rw [← hI] at mI ⊢
 replace m:=bt m hn8
 have a:=a.bs hn8
 have f:=f.bs hn8
 have l:=l.bs hn8
 have E:=E.bs hn8
 have zz:=AA m
 clear mM hn8
 refine Ak<|Ar ?_
 refine Bu (S:=List Rw) (fun ds=>[(0,st s),(2, .pointer (some ⟨o,0,none⟩)),(5, .pointer (some ⟨Q,0,none⟩)),(6, .pointer (some ⟨N,0,none⟩)),(21, .pointer (some ⟨I,0,none⟩))]) (fun ds w' =>(∀r ∈ ds,r ∈ HX)∧Below W.heap.size W w' ∧w8.heap.size≤w'.heap.size∧AP w' o 24 [.slice none 0 0]∧AP w' Q 122 [.map (some M)]∧AP w' N 135 [.map (some K)]∧LX w' I M (.int .u8) RD (Vh ds)∧EX w' K .string (Vi ds)) (fun ds=>L2 ds) ([]) ⟨rfl,rfl,rfl,rfl,rfl,trivial⟩ ?_ ?_
 ·exact ⟨by simp,m,AU _,a,f,l,mI.congr fun k v=>by simp [Vh],E.congr fun k v=>by simp [Vi]⟩
 clear m a f l mI E zz
 rintro ds w9 ⟨hds,m,z9,a,f,l,mI,E⟩
 refine Ai<|An (Xw.nextM O mI) O ?_
 rintro x w10 hx
 rcases hx.symm with ⟨k,u,rfl,L,hno,mI2,hcur,hg,hz⟩|⟨rfl,rfl,hall⟩
 ·obtain ⟨r,hr,rfl,rfl⟩:=L
  have hrd:r ∉ ds:=fun h=>hno _ ⟨r,h,rfl,rfl⟩
  have hKI:K≠I:=by omega
  have m:=m.grown hg (AA m) (by rintro _ ⟨⟩;omega)
  have tI:∀{X:Nat},X<w7.heap.size→some X≠some I:=fun h e=>by have:=Option.some.inj e;omega
  have a:=a.by hg (tI (by omega))
  have f:=f.by hg (tI (by omega))
  have l:=l.by hg (tI (by omega))
  have E:=E.keep (hg.block K E.lt (tI (by omega)))
  refine Aa (Az (i:=0) O O) O<|Ak<|Ap<|Cq O true (rfl)<|B1<|Ar<|Ai<|Aa (Ex.entryM O hcur) O<|Aa (Az (i:=0) O O) O<|Aa (Az (i:=1) O O) O<|Da NH O ?_
  rintro A_r w11 eA_r T F zhn11
  have z11:=F.size
  replace m:=bt m F
  have a:=a.bs F
  have f:=f.bs F
  have l:=l.bs F
  have E:=E.bs F
  have mI2:=mI2.bs F
  clear hcur mI F
  refine Ab O<|A6 (Ck (cs:=r.cells) (k:=5) (by kernel_rfl) O O O O T O) ?_
  rintro w12 ⟨b_r12,R,hz12⟩
  have m:=m.grown R (AA m) (by rintro _ ⟨⟩;omega)
  replace a:=FV a R T (by decide)
  replace f:=FV f R T (by decide)
  replace l:=FV l R T (by decide)
  have tr:∀{X:Nat},X<w10.heap.size→some X≠some A_r:=fun h e=>by have:=Option.some.inj e;omega
  have E:=E.keep (R.block K E.lt (tr (by omega)))
  have lI:=mI2.lt
  have mI2:=mI2.keep (R.block I lI.1 (tr (by omega))) (R.block M lI.2 (tr (by omega)))
  clear T tr
  refine Ak<|A5<|Aa (Ao (RG _) O ‹_› rfl) O ?_
  refine A9 underlying125 O (Ie _)<|Aa (Ao (GV _) O b_r12 (rfl:r.cells[0]? =some (st r.word))) O<|Ad O<|A6 (G7 (d:= .string) (u:= .int .u8 (r.k:Int)) underlying135 Mh O O O trivial E (by rintro v ⟨q,hq,e1, -⟩;exact hrd (KF r hr q (hds q hq) (Ly e1) ▸ hq))) ?_
  rintro w13 ⟨mK13,Y,hz13⟩
  have tK:∀{X:Nat},X≠K→some X≠some K:=fun h e=>h (Option.some.inj e)
  have m:=m.grown Y (AA m) (by rintro _ ⟨⟩;omega)
  have a:=a.by Y (tK (by omega))
  have f:=f.by Y (tK (by omega))
  have l:=l.by Y (tK (by omega))
  have mI2:=mI2.keep (Y.block I (by omega) (tK (by omega))) (Y.block M (by omega) (tK (by omega)))
  exact A7<|Ba<|Ay (Br (ds++[r]) ⟨rfl,rfl,rfl,rfl,rfl,trivial⟩ (⟨QM hds hr,m,by omega,a,f,l,mI2.congr (Q5 ds r),mK13.congr (QU ds hr)⟩) (Pb hr hrd))
 have hall2:∀r ∈ HX,r ∈ ds:=fun r hr=>by
  obtain ⟨q,hq,e, -⟩:=hall _ _ ⟨r,hr,rfl,rfl⟩
  have:(r.k:Int)=(q.k:Int):=by injection e
  rwa [Sm r hr q (hds q hq) (by omega)]
 have jK:BN w10 K .string Vc:=(E.congr fun k v=>⟨fun ⟨r,h,e⟩=>⟨r,hds r h,e⟩,fun ⟨r,h,e⟩=>⟨r,hall2 r h,e⟩⟩).in
 have jM:BN w10 M (.int .u8) RD:=mI.map.in
 have zk:=jK.lt
 have zm:=jM.lt
 clear E mI hall hall2 hds
 refine Aa (Az (i:=0) O O) O<|Ak<|Ap<|Cq O false (rfl)<|Bq<|Au<|Au<|Bc<|Cf<|Ad O<|Ah O O (Oq s 10 w10 (hG.bs m) (by omega)) ?_
 rintro y w11 ⟨hn,o_y⟩
 replace m:=bt m hn
 have a:=a.bs hn
 have f:=f.bs hn
 have l:=l.bs hn
 have jK:=jK.bs hn
 have jM:=jM.bs hn
 have z11:=hn.size
 have s_y:=AL o_y
 have sh_y:=s_y.shp
 obtain ⟨c1,c2⟩:=Kx 10 s
 have c0:=LN 10 s
 have e0:(CG 10 s).getLastD []=(CG 10 s).getD ((CG 10 s).length - 1) default:=by
  rw [List.getLastD_eq_getLast?,List.getLast?_eq_getElem?,getD_eq_getElem?_getD];rfl
 obtain ⟨cs,hcs⟩:∃cs,cs=CG 10 s:=⟨_,rfl⟩
 have hlT:DV s=if cs.getD (cs.length - 1) default=[] then cs.dropLast else cs:=by rw [DV,e0,hcs]
 rw [← hcs] at c0 c1 c2 s_y sh_y
 have cp:0<cs.length:=List.length_pos_iff.2 c0
 obtain ⟨n,hn⟩:∃n,n=cs.length - 1:=⟨_,rfl⟩
 rw [← hn] at hlT
 refine Ab O<|A8<|Ad O<|Aa (Aq CA O ‹_›) O ?_
 refine Aa (Ek O O (by omega)) O<|Ab O<|Ak<|Ap<|Ey 10 (v' := .int .i64 (n:Int)) O (cngA (Value.int .i64) (by omega))<|A5<|Ad O<|Ad O<|Aa (Bb CA O O ‹_› _ O (by omega)) O ?_
 refine Aa (Bf (GV _) O ‹_› (by omega)) O ?_
 refine Aa (E2 O O) O<|Ak ?_
 refine D6 (St:=(Value×List (List UInt8))) (fun z=>[(2, .pointer (some ⟨o,0,none⟩)),(5, .pointer (some ⟨Q,0,none⟩)),(6, .pointer (some ⟨N,0,none⟩)),(9,z.1)]) (fun z w' =>w' =w11∧z.2=DV s∧BE st w' z.1 z.2∧(∀x ∈ z.2,x ∈ cs)∧z.2.length≤cs.length∧∀b,z.1.ownBlock=some b→y.ownBlock=some b) ?_ ?_
 ·refine Am O ?_ ?_
  ·intro e
   have e:cs.getD n default=[]:=AE e
   refine A5<|Ad O<|Ad O<|Aa (El (j:=n) CA O O s_y (by omega)) O<|Ab O<|A7 ?_
   exact B4 ((cut y 1 0 n,cs.take n)) ⟨rfl,rfl,rfl,rfl,trivial⟩ (⟨rfl,by rw [hlT,if_pos e,List.dropLast_eq_take,hn],BE.take s_y (by omega),fun x hx=>mem_of_mem_take hx,by rw [length_take];omega,R1 y n⟩)
  intro e
  have e:¬cs.getD n default=[]:=AD e
  exact Cj<|B4 ((y,cs)) ⟨rfl,rfl,rfl,rfl,trivial⟩ (⟨rfl,by rw [hlT,if_neg e],s_y,fun x hx=>hx,AU _,fun b e=>e⟩)
 rintro ⟨yl,ts⟩ w12 ⟨rfl,hts,D,m1,m2,m3⟩
 dsimp only at hts D m1 m2 m3 ⊢
 have yo:∀b,yl.ownBlock=some b→w10.heap.size≤b∧b<w12.heap.size:=fun b e=>AB o_y b (m3 b e)
 have tl:∀x ∈ ts,x.length≤65536:=fun x hx=>by have:=c2 x (m1 x hx);omega
 obtain ⟨r1,r2⟩:=TD hs
 rw [← hts] at r1 r2
 clear s_y sh_y o_y hlT c0 c2 e0 hts m1 m3
 obtain ⟨B,eB⟩:∃B,B=w12.heap.size:=⟨_,rfl⟩
 rw [← eB] at yo
 refine B9<|Ap<|Ai<|Ad O<|Aa (Aq CA O ‹_›) O ?_
 refine Ad O<|Ak<|Ar ?_
 refine Bu (S:=(Nat×List N5×Value)) (fun z=>[(2, .pointer (some ⟨o,0,none⟩)),(5, .pointer (some ⟨Q,0,none⟩)),(6, .pointer (some ⟨N,0,none⟩)),(44,yl),(45, .int .i64 (ts.length:Int)),(46, .int .i64 (z.1:Int))]) (fun z w' =>z.1≤ts.length∧z.2.1.length=z.1∧z.1≤32∧ES ts z.1 (z.2.1.map pn)∧Below W.heap.size W w' ∧Ng w' B o z.2.1 z.2.2∧AP w' Q 122 [.map (some M)]∧AP w' N 135 [.map (some K)]∧BN w' K .string Vc∧BN w' M (.int .u8) RD∧BE st w' yl ts) (fun z=>ts.length - z.1) ((0,[], .slice none 0 0)) ⟨rfl,rfl,rfl,rfl,rfl,rfl,trivial⟩ ?_ ?_
 ·exact ⟨Nat.zero_le _,rfl,Nat.zero_le _,Gv ts,m,⟨a,World.ownsRow_nil _ _ _ _,Nat.le_of_eq eB⟩,f,l,jK,jM,D⟩
 clear m a f l jK jM D
 rintro ⟨i,ls,vn⟩ w13 ⟨hi,hl,h32,hA,m,L,f,l,jK,jM,D⟩
 dsimp only at hi hl h32 hA m L f l jK jM D ⊢
 have zB:B≤w13.heap.size:=L.lay.le
 refine Ai<|B8 O<|Ak<|Ap<|Am O ?_ ?_
 ·intro gi
  have gi:i<ts.length:=by have:=AE gi;omega
  obtain ⟨t,ht⟩:∃t,t=ts.getD i default:=⟨_,rfl⟩
  have hd:ts.drop i=t::ts.drop (i+1):=by
   rw [ht,getD_eq_getElem?_getD,getElem?_eq_getElem gi]
   exact drop_eq_getElem_cons gi
  have lt:t.length≤65536:=tl t (by
   rw [ht,getD_eq_getElem?_getD,getElem?_eq_getElem gi]
   exact getElem_mem gi)
  refine B1<|Ap<|Ar<|Ai<|Ad O<|Aa (Bb CA O O ‹_› _ O (by omega)) O ?_
  refine Aa (Bf (GV _) O ‹_› (by omega)) O ?_
  refine Ab O<|Ab O<|A3<|Ad O ?_
  rw [← ht]
  refine Ah O O (Oq t 32 w13 (hG.bs m) (by omega)) ?_
  rintro q w14 ⟨J,o_q⟩
  have z14:=J.size
  replace m:=bt m J
  have L:=L.bs J
  have f:=f.bs J
  have l:=l.bs J
  have jK:=jK.bs J
  have jM:=jM.bs J
  have D:=D.bs J
  have hG14:=hG.bs m
  have s_q:=AL o_q
  obtain ⟨q1,q2⟩:=Kx 32 t
  have q0:=List.length_pos_iff.2 (LN 32 t)
  refine Aa (Bi (vs:=[(0,q)]) (cs:=[q]) O (SI _ s_q.one)) O<|An (Xw.box (cs:=[q]) O O) O ?_
  rintro _ w15 ⟨rfl,T,G,z15⟩
  obtain ⟨A,eA⟩:∃A,A=w14.heap.size:=⟨_,rfl⟩
  rw [← eA] at T ⊢
  replace m:=bt m G
  have L:=L.bs G
  have f:=f.bs G
  have l:=l.bs G
  have jK:=jK.bs G
  have jM:=jM.bs G
  have D:=D.bs G
  refine Ga (u:= .pointer (some ⟨A,0,none⟩)) TX Ty O (fun _=>rfl) (rfl) ?_
  rintro A_c w eA_c b_c C zhn16
  have z16:=C.size
  have hn1416:Below w14.heap.size w14 w:=bt G C
  replace m:=bt m C
  have L:=L.bs C
  have f:=f.bs C
  have l:=l.bs C
  have jK:=jK.bs C
  have jM:=jM.bs C
  have D:=D.bs C
  have T:=T.bs C
  refine A3<|Ad O<|Aa (E8 O O) O<|Ad O ?_
  refine Cc 57 O ?_ ?_
  ·intro g
   have g:32≤i:=by have:=AE g;omega
   have eP:=hA.no hd (.inl g)
   have a:=L.g
   refine Ae (dj:=57) O O O O<|Ae (dj:=57) O O O O<|Ae (dj:=57) O O O O<|Bt O<|Ak<|B6 O<|Ai<|Aa (Bi (vs:=[]) (cs:=[.slice none 0 0]) O (by kernel_rfl)) O<|Ad O<|A6 (Ck (cs:=[.slice none 0 0]) (k:=1) (by kernel_rfl) O O O O a O) ?_
   rintro wb ⟨b_gb,hgb,hzb⟩
   have hBb:=m.grown hgb (AA m) (by rintro _ ⟨⟩;omega)
   refine Ab O<|Ab O<|As<|Bd<|A0<|A0<|Bd<|A0<|Eu O O O O ‹_› underlying24 O O O ?_
   exact ⟨hBb,Jz (AA hBb) (r1 _ eP).1 (r1 _ eP).2.1 (r1 _ eP).2.2⟩
  intro g
  have g:i<32:=by have:=AD g;omega
  have vo:∀b,vn.ownBlock=some b→B≤b∧b<w.heap.size:=fun b e=>AB L.o b e
  have hp:∀Z H,Z=w.heap.size→Below w.heap.size w H→AP H Z 4 [.bool false]→
    IE prog 126 [.pointer (some ⟨o,0,none⟩), .pointer (some ⟨A_c,0,none⟩), .pointer (some ⟨N,0,none⟩), .pointer (some ⟨Q,0,none⟩)] H NW
     (fun r w' =>r= .tuple #[]∧AP w' Z 4 [.bool false]∧∃H c vn',Below w.heap.size w H∧Z<H.heap.size∧AP w' Z 4 [.bool false]∧DJ (CG 32 t)=some (pn c)∧FW (fun b=>b=A∨b=o∨vn.ownBlock=some b) H w' ∧Ng w' B o (ls++[c]) vn')
     (fun w' =>AP w' Z 4 [.bool false]∧DJ (CG 32 t)=none∧∃H,Below w.heap.size w H∧Z<H.heap.size∧AP w' Z 4 [.bool false]∧FW (fun b=>b=A∨b=o∨vn.ownBlock=some b) H w' ∧Ng w' B o ls vn):=fun Z H eA' U p=>by
   have zk:=U.size
   have nS:¬(Z=A∨Z=o∨vn.ownBlock=some Z):=by
    rintro (e|e|e)
    ·omega
    ·omega
    ·have:=vo _ e;omega
   have hR:LZ w14 H A q (CG 32 t):=⟨s_q,bt hn1416 U,Nat.le_of_eq eA.symm,T.bs U⟩
   exact (QB w14 H A o A_c N Q K M B q vn (CG 32 t) ls hG14 hR (fun x hx=>by have:=q2 x hx;omega) (by omega) q0 (jK.bs U) (jM.bs U) (by omega) (L.bs U) (by omega) (b_c.bs U) (l.bs U) (f.bs U) (by omega) (by omega)).mono
    (fun r w' ⟨h1,c,vn',h2,h3,h4⟩=>⟨h1,p.chg h3 nS,H,c,vn',U,AW p,p.chg h3 nS,h2,h3,h4⟩)
    fun w' ⟨h1,h2,h3⟩=>⟨p.chg h2 nS,h1,H,U,AW p,p.chg h2 nS,h2,h3⟩
  refine Aj (dj:=57) O O<|Aa (Ew (vs:=[]) (us:=[.pointer (some ⟨o,0,none⟩), .pointer (some ⟨A_c,0,none⟩), .pointer (some ⟨N,0,none⟩), .pointer (some ⟨Q,0,none⟩)]) O O) O<|Aj (dj:=57) O O<|Ah O O (KM 126 [.pointer (some ⟨o,0,none⟩), .pointer (some ⟨A_c,0,none⟩), .pointer (some ⟨N,0,none⟩), .pointer (some ⟨Q,0,none⟩)] w (fun Z w' =>∃H c vn',Below w.heap.size w H∧Z<H.heap.size∧AP w' Z 4 [.bool false]∧DJ (CG 32 t)=some (pn c)∧FW (fun b=>b=A∨b=o∨vn.ownBlock=some b) H w' ∧Ng w' B o (ls++[c]) vn') (fun Z w' =>DJ (CG 32 t)=none∧∃H,Below w.heap.size w H∧Z<H.heap.size∧AP w' Z 4 [.bool false]∧FW (fun b=>b=A∨b=o∨vn.ownBlock=some b) H w' ∧Ng w' B o ls vn) hp) ?_
  rintro _ w17 ⟨Z,w0,eA',hg,⟨rfl,H,c,vn',U,hAk,p,eN,V,hS2⟩|⟨rfl,eN,H,U,hAk,p,V,hS2⟩⟩
  ·have zk:=U.size
   have zc:=V.size
   have nS:∀{X:Nat},X<B→X≠o→¬(X=A∨X=o∨vn.ownBlock=some X):=fun h1 h2=>by
    rintro (e|e|e)
    ·omega
    ·exact h2 e
    ·have:=vo _ e;omega
   have hB0:Below W.heap.size W w0:=(bt m U).trans (V.to_below (by rintro k (rfl|rfl|e);omega;omega;have:=vo _ e;omega) (by omega))
   replace m:=hB0.grown hg (AA hB0) (by rintro _ ⟨⟩;omega)
   have tA:∀{X:Nat},X<B→some X≠some Z:=fun h e=>by have:=Option.some.inj e;omega
   replace f:=((f.bs U).chg V (nS (by omega) (by omega))).by hg (tA (by omega))
   replace l:=((l.bs U).chg V (nS (by omega) (by omega))).by hg (tA (by omega))
   replace jK:=GB (KX (jK.bs U) V (nS (by omega) (by omega))) hg (tA (by omega))
   replace jM:=GB (KX (jM.bs U) V (nS (by omega) (by omega))) hg (tA (by omega))
   replace D:=((D.bs U).chg V (fun b e _=>nS (yo b e).2 (by have:=yo b e;omega))).by hg (.inr fun e=>by have:=yo _ e;omega)
   replace L:=hS2.ob hg p (by decide) (by decide) (by decide)
   clear hp V p hS2 hB0 U b_c T o_q s_q
   have hN:ES ts (i+1) ((ls++[c]).map pn):=by
    rw [map_append]
    exact hA.step hd g eN
   refine Aj (dj:=57) O O<|Aa (Cz O) O<|Co O<|Ak<|Cq O false (rfl)<|Cj<|Ba<|Cr<|Ca O (by omega)<|Ad O<|A7 ?_
   exact Ay (Br ((i+1,ls++[c],vn')) ⟨rfl,rfl,rfl,rfl,rfl,rfl,trivial⟩ (⟨gi,by rw [length_append,hl];rfl,g,hN,m,L,f,l,jK,jM,D⟩) (by simp only;omega))
  have zk:=U.size
  have zc:=V.size
  have hB0:Below W.heap.size W w0:=(bt m U).trans (V.to_below (by rintro k (rfl|rfl|e);omega;omega;have:=vo _ e;omega) (by omega))
  replace m:=hB0.grown hg (AA hB0) (by rintro _ ⟨⟩;omega)
  replace L:=hS2.ob hg p (by decide) (by decide) (by decide)
  have a:=L.g
  have eP:=hA.no hd (.inr eN)
  refine Aj (dj:=57) O O<|Aa (Cz O) O<|Co O<|Ak<|Cq O true (rfl)<|Ai<|Aa (Bi (vs:=[]) (cs:=[.slice none 0 0]) O (by kernel_rfl)) O<|Ad O<|A6 (Ck (cs:=[.slice none 0 0]) (k:=1) (by kernel_rfl) O O O O a O) ?_
  rintro wb ⟨b_gb,hgb,hzb⟩
  have hBb:=m.grown hgb (AA m) (by rintro _ ⟨⟩;omega)
  refine Ab O<|Ab O<|As<|Bd<|A0<|A0<|Bd<|A0<|Eu O O O O ‹_› underlying24 O O O ?_
  exact ⟨hBb,Jz (AA hBb) (r1 _ eP).1 (r1 _ eP).2.1 (r1 _ eP).2.2⟩
 intro gi
 have gi:i=ts.length:=by have:=AD gi;omega
 have eP:=hA.done gi
 obtain ⟨rA,rE,rR⟩:=r2 _ eP
 rw [FN] at rE rR
 have a:=L.g
 clear f l jK jM D hA eP
 refine Bq<|Au<|Au<|Bc<|Ay<|B9<|Ap<|Ai<|Aa (Ce (ER _) (BP _) O O ‹_›) O ?_
 refine Ah O O (Kn vn ls w13 L.gn) ?_
 rintro _ w14 ⟨hn,rfl⟩
 have z14:=hn.size
 replace m:=bt m hn
 have L:=L.bs hn
 have a:=a.bs hn
 refine Aa (Cz O) O<|Ak<|Am O ?_ ?_
 ·intro g
  have g:(EK ls).isSome=false:=by simpa using g
  refine Ai<|Aa (Bi (vs:=[]) (cs:=[.slice none 0 0]) O (by kernel_rfl)) O<|A6 (Ck (cs:=[.slice none 0 0]) (k:=1) (by kernel_rfl) O O O O a O) ?_
  rintro wb ⟨b_gb,hgb,hzb⟩
  have hBb:=m.grown hgb (AA m) (by rintro _ ⟨⟩;omega)
  refine Ab O<|Ab O<|Bw<|Eu O O O O ‹_› underlying24 O O O ?_
  exact ⟨hBb,Jz (AA hBb) rA (by rw [rE,g];rfl) (by rw [rR,g];rfl)⟩
 intro g
 have g:(EK ls).isSome=true:=by simpa using g
 rw [g] at rE rR
 refine Ci<|A9 underlying24 O (CB _)<|Aa (Ao (DQ _) O ‹_› rfl) O ?_
 refine Ah O O (J5 vn _ _ _ (AG L.o)) ?_
 rintro _ w15 ⟨rfl,hn⟩
 have z15:=hn.size
 replace m:=bt m hn
 have L:=L.bs hn
 have a:=a.bs hn
 have k6:=AQ.clip L.o
 refine A9 underlying24 O (CB _)<|A6 (Cm (u:=clip vn) (CB _) O O k6.sl.one' a (show 0<1 by decide)) ?_
 rintro w ⟨b_g16,hg16,hz16⟩
 have t6:∀b,some o=some b→∃cs,AP w15 b 24 cs:=fun b e=>by cases e;exact ⟨_,a⟩
 have k7:=AC k6 hg16 t6 (by decide)
 have l7:=L.lay.other hg16 t6 (by decide)
 have m:=m.grown hg16 (AA m) (by rintro _ ⟨⟩;omega)
 replace a:AP w o 24 [clip vn]:=b_g16
 have one7:[clip vn].all (·.oneCell')=true:=by simp [k7.sl.one']
 clear b_g16
 refine A3<|Aa (Ce (ER _) (BP _) O O ‹_›) O ?_
 refine A6 (Ck (cs:=[clip vn]) (k:=1) (by kernel_rfl) O O O one7 a O) ?_
 rintro w17 ⟨b_g17,hg17,hz17⟩
 have t7:∀b,some o=some b→∃cs,AP w b 24 cs:=fun b e=>by cases e;exact ⟨_,a⟩
 have k8:=AC k7 hg17 t7 (by decide)
 have l8:=l7.other hg17 t7 (by decide)
 have m:=m.grown hg17 (AA m) (by rintro _ ⟨⟩;omega)
 refine Ab O<|Ab O<|As<|Eu O O O O ‹_› underlying24 O O O ?_
 exact ⟨m,clip vn,ls,by rw [rA,rE];rfl,by rw [rR];rfl,GK.low (l8.top (by omega)) (by omega),k8.mono (by omega)⟩

-- dd: text
theorem FF {w:World} {n p m i k o:Nat} {c d:TypeId} {u v:Value} {xs h:List Value} (l:w.ownsRow n c m u k xs) (j:w.ownsRow p d i v o h) (a:c≠d):u.ownBlock=none∨u.ownBlock≠v.ownBlock:=by
 cases hu:u.ownBlock with
 |none=>exact .inl rfl
 |some b=>
  refine .inr fun e=> ?_
  obtain ⟨cs,f⟩:=AQ.ty (.inl l) hu
  obtain ⟨ds,g⟩:=AQ.ty (.inl j) e.symm
  exact a (AX f g)
set_option maxHeartbeats 1000000 in
theorem LC (v:Value) (ls:List N5) (W:World) (Q:Jv W) (h:GN W v ls):AN prog 25 [.agg [v].toArray] W (fun r w' =>Below W.heap.size W w' ∧r= .tuple #[st (GX ls), .int .i64 (JE ls)]):=by
 have A:=Below.refl W.heap.size W
 have zG:=Q.sz
 have hG0:=Q
 have h0:=h
 have N:=h.sl
 refine A4 (n:=73) func25 O<|Ai<|Cl (cs:=[v]) O O O ?_
 rintro A_g w eA_g F b -
 have A:=A.bs b
 have Q:=Q.bs b
 have h:=h.bs b
 have N:=N.bs b
 refine Ab O<|Ab O<|A8<|Aa (Ce (ER _) (BP _) O O ‹_›) O ?_
 refine Ah O O (Kn v ls _ h) ?_
 rintro _ w ⟨b,rfl⟩
 have A:=A.bs b
 have Q:=Q.bs b
 have h:=h.bs b
 have N:=N.bs b
 have F:=F.bs b
 refine Aa (Cz O) O<|Ak<|Am O ?_ ?_
 ·intro g
  have g:(EK ls).isSome=false:=by simpa using g
  refine Ai<|Ab O<|Ab O<|Bw<|B2 O O O ?_
  exact ⟨A,by unfold GX JE;rw [g];rfl⟩
 intro g
 have g:(EK ls).isSome=true:=by simpa using g
 obtain ⟨h32,hL⟩:=Kl g
 rw [show GX ls=BX ls by unfold GX;rw [g];rfl,show JE ls=0 by unfold JE;rw [g];rfl]
 clear g
 have z0:=AA A
 refine Ci<|Da Ua O ?_
 rintro G w eA_b b_b b zhn
 have zb:=b.size
 have yb:=AW b_b
 have A:=A.bs b
 have Q:=Q.bs b
 have h:=h.bs b
 have N:=N.bs b
 have F:=F.bs b
 have u:=SJ b_b
 refine A3<|Ah O O (Q0 w) ?_
 rintro _ w ⟨b,M,rfl,zM,K⟩
 have K:=K.in
 have zr:=b.size
 have A:=A.bs b
 have Q:=Q.bs b
 have h:=h.bs b
 have N:=N.bs b
 have F:=F.bs b
 have u:=u.bs b
 refine Ab O<|A8<|A9 underlying24 O (CB _)<|Aa (Ao (DQ _) O ‹_› rfl) O ?_
 refine Aa (Aq BM O ‹_›) O ?_
 refine Ad O<|Ak<|Ar ?_
 refine Bu (S:=Nat) (fun i=>[(4, .pointer (some ⟨G,0,none⟩)),(5, .map (some M)),(15,v),(16, .int .i64 (ls.length:Int)),(17, .int .i64 (i:Int))]) (fun i w' =>i≤ls.length∧Below W.heap.size W w' ∧Tl w' G (BX (ls.take i))∧BN w' M (.int .u8) RD) (fun i=>ls.length - i) (0) ⟨rfl,rfl,rfl,rfl,rfl,trivial⟩ ?_ ?_
 ·exact ⟨Nat.zero_le _,A,u,K⟩
 clear u K A Q h N F
 rintro i w ⟨hi,A,u,K⟩
 have D:=hG0.bs A
 have hw:=h0.bs A
 have N:=hw.sl
 refine Ai<|B8 O<|Ak<|Ap<|Am O ?_ ?_
 ·intro gi
  have E:i<ls.length:=by have:=AE gi;omega
  obtain ⟨x,hx⟩:∃x,x=ls[i]:=⟨_,rfl⟩
  have hxm:x ∈ ls:=hx ▸ getElem_mem E
  have J:=hw.each x hxm
  have hcl:=hw.cells E
  rw [← hx] at hcl
  have L:=hL x hxm
  obtain ⟨r1,r2⟩:=Q2 L.kd
  obtain ⟨l1,l2⟩:=KY L
  obtain ⟨r,hr⟩:∃r,r=AZ x.k:=⟨_,rfl⟩
  rw [← hr] at r1 r2 l1 l2
  refine B1<|Ap<|Ar<|Ai<|Aa (C6 BM O O N i O E) O<|Aa (Dx (cs:=x.cells) (Hc _) (GY _) O N O (by decide) hcl) O<|C2 (cs:=x.cells) EE O O O O (fun _=>rfl) (J.ones) ?_
  rintro A_x w eA_x s b zhn
  have A:=A.bs b
  have D:=D.bs b
  have u:=u.bs b
  have K:=K.bs b
  have J:=J.bs b
  refine A3<|Ad O<|A9 underlying79 O (FK _)<|Aa (Ao (He _) O ‹_› rfl) O ?_
  refine Aa (Fk underlying122 BW O O O K ⟨_,_,(show Tryz.prog.info? 125=some Tryz.t125 by kernel_rfl),rfl⟩ r1 r2) O<|C2 (cs:=r.cells) NH O O O O (fun _=>rfl) (rfl) ?_
  rintro A_r z eA_r t b zhn
  have A:=A.bs b
  have D:=D.bs b
  have u:=u.bs b
  have K:=K.bs b
  have J:=J.bs b
  have s:=s.bs b
  have zw:=A.size
  have hx0:=J
  have R:=s
  have U:=t
  have a:=Below.refl z.heap.size z
  obtain ⟨A1,hA1⟩:∃A1,A1=[r.word]++x.i.map Lib.itoa:=⟨_,rfl⟩
  obtain ⟨A2,V⟩:∃A2,A2=A1++(if r.nxt=[] then [] else [r.nxt]):=⟨_,rfl⟩
  obtain ⟨C,T⟩:∃C,C=A2++(if r.shaped then x.s.map Lib.itoa else if r.nxt=[] then [] else [Lib.itoa x.n]):=⟨_,rfl⟩
  have eW:CM r x=C++(if r.last=[] then [] else [r.last,Lib.itoa x.p]):=by rw [T,V,hA1];rfl
  have n3:C.length≤12:=by have:=cngA length eW;rw [length_append] at this;omega
  have n2:A2.length≤12:=by have:=cngA length T;rw [length_append] at this;omega
  have n1:A1.length≤12:=by have:=cngA length V;rw [length_append] at this;omega
  have b64:∀{l:List Int},(∀d ∈ l,0≤d∧d≤65536)→∀d ∈ l, -9223372036854775808≤d∧d≤9223372036854775807:=fun hl d H=>by have:=hl d H;omega
  refine A3<|A9 underlying125 O (Ie _)<|Aa (Ao (GV _) O ‹_› rfl) O ?_
  refine An (B7 (vs:=[r.word].map st) CA KC O O O O O) O ?_
  rintro y w ⟨c, -,b, -⟩
  have a:=a.trans b
  have s:=R.bs a
  have t:=U.bs a
  have c:w.ownsRow z.heap.size 9 1 y ([r.word]:List (List UInt8)).length (([r.word]:List (List UInt8)).map st):=c
  refine A9 underlying79 O (BL _)<|Aa (Ao (AY _) O ‹_› rfl) O ?_
  refine Ah O O (H2 y x.x [r.word] x.i z _ D a c (fun w' g _=>hx0.i.bs g) (b64 L.ii) (by have:=L.il;simp only [length_singleton];omega)) ?_
  rintro y w ⟨a,c, -⟩
  rw [← hA1] at c
  have s:=R.bs a
  have t:=U.bs a
  refine Ab O<|A8<|A9 underlying125 O (Ie _)<|Aa (Ao (GV _) O ‹_› rfl) O ?_
  refine Aa (E0 O O) O<|Ak ?_
  refine D6 (St:=Value) (fun y=>[(4, .pointer (some ⟨G,0,none⟩)),(5, .map (some M)),(7, .pointer (some ⟨A_x,0,none⟩)),(8, .pointer (some ⟨A_r,0,none⟩)),(9,y),(15,v),(16, .int .i64 (ls.length:Int)),(17, .int .i64 (i:Int))]) (fun y w' =>Below z.heap.size z w' ∧w'.ownsRow z.heap.size 9 1 y A2.length (A2.map st)) ?_ ?_
  ·refine Am O ?_ ?_
   ·intro e
    have e:¬r.nxt=[]:=by simpa using e
    refine A5<|Ad O<|A9 underlying125 O (Ie _)<|Aa (Ao (GV _) O ‹_› rfl) O ?_
    refine An (B7 (vs:=[r.nxt].map st) CA KC O O O O O) O ?_
    rintro q w2 ⟨m, -,b, -⟩
    replace c:=AF c b
    have o:=a.size
    have a:=a.trans (b.mono o)
    have z2:=a.size
    refine An (Bv (base:=z.heap.size) CA KC O (by decide) O O c (AG m) (JH _) (by omega) (by omega) z2) O ?_
    rintro y w3 ⟨c,I, -, -⟩
    have a:=a.trans I
    rw [← map_append,show A1.length+1=(A1++[r.nxt]).length by rw [length_append];rfl] at c
    refine Ab O<|A7 ?_
    exact B4 (y) ⟨rfl,rfl,rfl,rfl,rfl,rfl,rfl,rfl,trivial⟩ (⟨a,by rw [V,if_neg e];exact c⟩)
   intro e
   have e:r.nxt=[]:=by simpa using e
   refine Cj ?_
   exact B4 (y) ⟨rfl,rfl,rfl,rfl,rfl,rfl,rfl,rfl,trivial⟩ (⟨a,by rw [V,if_pos e,append_nil];exact c⟩)
  clear a c s t
  rintro y w ⟨a,c⟩
  have s:=R.bs a
  have t:=U.bs a
  refine Ap ?_
  refine D6 (St:=Value) (fun y=>[(4, .pointer (some ⟨G,0,none⟩)),(5, .map (some M)),(7, .pointer (some ⟨A_x,0,none⟩)),(8, .pointer (some ⟨A_r,0,none⟩)),(9,y),(15,v),(16, .int .i64 (ls.length:Int)),(17, .int .i64 (i:Int))]) (fun y w' =>Below z.heap.size z w' ∧w'.ownsRow z.heap.size 9 1 y C.length (C.map st)) ?_ ?_
  ·refine Ar<|Ai<|Aa (Ce (k:=5) (RH _) (Qp _) O O t) O<|Ah O O (Mm r w) ?_
   rintro _ w2 ⟨rfl,b⟩
   replace c:=AF c b
   have o:=a.size
   have a:=a.trans (b.mono o)
   have s:=R.bs a
   have t:=U.bs a
   refine Ab O<|Ak<|Am O ?_ ?_
   ·intro e
    refine A5<|Ad O<|A9 underlying79 O (BL _)<|Aa (Ao (AY _) O ‹_› rfl) O ?_
    refine Ah O O (H2 y x.y A2 x.s z _ D a c (fun w' g _=>hx0.s.bs g) (b64 L.ss) (by have:=L.sl;omega)) ?_
    rintro y w3 ⟨a,c, -⟩
    refine Ab O<|A7<|Ba ?_
    exact B4 (y) ⟨rfl,rfl,rfl,rfl,rfl,rfl,rfl,rfl,trivial⟩ (⟨a,by rw [T,if_pos e];exact c⟩)
   intro e
   refine Ai<|A9 underlying125 O (Ie _)<|Aa (Ao (GV _) O ‹_› rfl) O ?_
   refine Aa (E0 O O) O<|Ab O<|Ak<|Am O ?_ ?_
   ·intro e2
    have e2:¬r.nxt=[]:=by simpa using e2
    refine A5<|Ad O<|A9 underlying79 O (BZ _)<|Aa (Ao (BD _) O ‹_› rfl) O ?_
    refine An (B7 (vs:=[x.n].map (Value.int .i64)) AH DH O O O O O) O ?_
    rintro q w3 ⟨m, -,I, -⟩
    replace c:=AF c I
    have z2:=a.size
    have a:=a.trans (I.mono z2)
    have m:w3.ownsRow w2.heap.size 3 1 q ([x.n]:List Int).length (([x.n]:List Int).map (Value.int .i64)):=m
    refine Ah O O (H2 y q A2 [x.n] z _ D a c (fun w' _ g=>(AL m).by g (FF m c (by decide))) (fun d H=>by rw [List.mem_singleton.1 H];have:=L.nn;omega) (by simp only [length_singleton];omega)) ?_
    rintro y w4 ⟨a,c, -⟩
    refine Ab O<|A7<|Ba ?_
    exact B4 (y) ⟨rfl,rfl,rfl,rfl,rfl,rfl,rfl,rfl,trivial⟩ (⟨a,by rw [T,if_neg (by rw [e];decide),if_neg e2];exact c⟩)
   intro e2
   have e2:r.nxt=[]:=by simpa using e2
   refine Cj<|Ba ?_
   exact B4 (y) ⟨rfl,rfl,rfl,rfl,rfl,rfl,rfl,rfl,trivial⟩ (⟨a,by rw [T,if_neg (by rw [e];decide),if_pos e2,append_nil];exact c⟩)
  clear a c s t
  rintro y w ⟨a,c⟩
  have s:=R.bs a
  have t:=U.bs a
  refine Ap<|Ai<|A9 underlying125 O (Ie _)<|Aa (Ao (GV _) O ‹_› rfl) O ?_
  refine Aa (E0 O O) O<|Ak ?_
  refine D6 (St:=Value) (fun y=>[(4, .pointer (some ⟨G,0,none⟩)),(5, .map (some M)),(9,y),(15,v),(16, .int .i64 (ls.length:Int)),(17, .int .i64 (i:Int))]) (fun y w' =>Below z.heap.size z w' ∧w'.ownsRow z.heap.size 9 1 y (CM r x).length ((CM r x).map st)) ?_ ?_
  ·refine Am O ?_ ?_
   ·intro e
    have e:¬r.last=[]:=by simpa using e
    refine Cw.any mixed (fun w2 H _=> ?_)
    replace c:=AF c H
    have o:=a.size
    have a:=a.trans (H.mono o)
    have s:=s.bs H
    have t:=t.bs H
    clear H o
    refine C5 (fun w' =>Below z.heap.size z w') (fun hC=> ?_) (a)
    refine Bz Bo<|Af 0 O (fun w1 X=>Bl O) O<|Af 1 O (fun w1 X=>Ch underlying125 O (Ie _)) O<|Af 2 O (fun w1 X=>Ao (GV _) O (AP.bs ‹_› X) O) O<|Af 5 O (fun w1 X=>Ch underlying79 O (BZ _)) O<|Af 6 O (fun w1 X=>Ao (BD _) O (AP.bs ‹_› X) O) O<|Bj ?_
    refine E5 ‹_› (i:=3) (j:=7) (by kernel_rfl) O O ?_ ?_
    refine An (B7 (vs:=[r.last].map st) CA KC O O O O O) O ?_
    rintro q w ⟨m, -,b, -⟩
    have o:=a.size
    have a:=a.trans (b.mono o)
    replace c:=AF c b
    try replace f:=AF f b
    clear o b
    refine AK.back ?_
    refine E5 ‹_› (i:=4) (j:=7) (by kernel_rfl) O O ?_ ?_
    have o:=a.size
    refine An (Bv (base:=z.heap.size) CA KC O (by decide) O O c (AG m) (JH _) (by omega) (by omega) o) O ?_
    rintro y w ⟨B,b,Y, -⟩
    try replace f:=f.kept Y (FF f c (by decide))
    have a:=a.trans b
    rw [← map_append,show C.length+1=(C++[r.last]).length by rw [length_append];rfl] at B
    replace c:=B
    clear o b Y m B
    refine AK.back<|AK.only ‹_› (i:=7) (by kernel_rfl) O ?_
    refine An (B7 (vs:=[x.p].map (Value.int .i64)) AH DH O O O O O) O ?_
    rintro p w ⟨f, -,b, -⟩
    have o:=a.size
    have a:=a.trans (b.mono o)
    replace c:=AF c b
    try replace m:=AF m b
    clear o b
    refine AK.back<|AK.only ‹_› (i:=8) (by kernel_rfl) O ?_
    refine Ah O O (H2 y p (C++[r.last]) [x.p] z _ D a c (fun w' _ g=>(show BE (Value.int .i64) _ p [x.p] from AL f).by g (FF f c (by decide))) (fun d H=>by rw [List.mem_singleton.1 H];have:=L.pp;omega) (by simp only [length_append,length_singleton];omega)) ?_
    rintro y w ⟨a,c, -⟩
    refine AK.back<|Bz Bo<|Af 9 O (fun w1 X=>Bx O) O<|Bj<|AK.done ‹_› (by kernel_rfl) ?_
    exact B4 (y) ⟨rfl,rfl,rfl,rfl,rfl,rfl,trivial⟩ (⟨a,by rw [eW,if_neg e,show C++[r.last,Lib.itoa x.p]=C++[r.last]++[x.p].map Lib.itoa by simp];exact c⟩)
    refine An (B7 (vs:=[x.p].map (Value.int .i64)) AH DH O O O O O) O ?_
    rintro p w ⟨f, -,b, -⟩
    have o:=a.size
    have a:=a.trans (b.mono o)
    replace c:=AF c b
    try replace m:=AF m b
    clear o b
    refine AK.back<|AK.only ‹_› (i:=4) (by kernel_rfl) O ?_
    have o:=a.size
    refine An (Bv (base:=z.heap.size) CA KC O (by decide) O O c (AG m) (JH _) (by omega) (by omega) o) O ?_
    rintro y w ⟨B,b,Y, -⟩
    try replace f:=f.kept Y (FF f c (by decide))
    have a:=a.trans b
    rw [← map_append,show C.length+1=(C++[r.last]).length by rw [length_append];rfl] at B
    replace c:=B
    clear o b Y m B
    refine AK.back<|AK.only ‹_› (i:=8) (by kernel_rfl) O ?_
    refine Ah O O (H2 y p (C++[r.last]) [x.p] z _ D a c (fun w' _ g=>(show BE (Value.int .i64) _ p [x.p] from AL f).by g (FF f c (by decide))) (fun d H=>by rw [List.mem_singleton.1 H];have:=L.pp;omega) (by simp only [length_append,length_singleton];omega)) ?_
    rintro y w ⟨a,c, -⟩
    refine AK.back<|Bz Bo<|Af 9 O (fun w1 X=>Bx O) O<|Bj<|AK.done ‹_› (by kernel_rfl) ?_
    exact B4 (y) ⟨rfl,rfl,rfl,rfl,rfl,rfl,trivial⟩ (⟨a,by rw [eW,if_neg e,show C++[r.last,Lib.itoa x.p]=C++[r.last]++[x.p].map Lib.itoa by simp];exact c⟩)
    refine An (B7 (vs:=[x.p].map (Value.int .i64)) AH DH O O O O O) O ?_
    rintro p w ⟨f, -,b, -⟩
    have o:=a.size
    have a:=a.trans (b.mono o)
    replace c:=AF c b
    try replace m:=AF m b
    clear o b
    refine AK.back<|AK.only ‹_› (i:=3) (by kernel_rfl) O ?_
    refine An (B7 (vs:=[r.last].map st) CA KC O O O O O) O ?_
    rintro q w ⟨m, -,b, -⟩
    have o:=a.size
    have a:=a.trans (b.mono o)
    replace c:=AF c b
    try replace f:=AF f b
    clear o b
    refine AK.back<|AK.only ‹_› (i:=4) (by kernel_rfl) O ?_
    have o:=a.size
    refine An (Bv (base:=z.heap.size) CA KC O (by decide) O O c (AG m) (JH _) (by omega) (by omega) o) O ?_
    rintro y w ⟨B,b,Y, -⟩
    try replace f:=f.kept Y (FF f c (by decide))
    have a:=a.trans b
    rw [← map_append,show C.length+1=(C++[r.last]).length by rw [length_append];rfl] at B
    replace c:=B
    clear o b Y m B
    refine AK.back<|AK.only ‹_› (i:=8) (by kernel_rfl) O ?_
    refine Ah O O (H2 y p (C++[r.last]) [x.p] z _ D a c (fun w' _ g=>(show BE (Value.int .i64) _ p [x.p] from AL f).by g (FF f c (by decide))) (fun d H=>by rw [List.mem_singleton.1 H];have:=L.pp;omega) (by simp only [length_append,length_singleton];omega)) ?_
    rintro y w ⟨a,c, -⟩
    refine AK.back<|Bz Bo<|Af 9 O (fun w1 X=>Bx O) O<|Bj<|AK.done ‹_› (by kernel_rfl) ?_
    exact B4 (y) ⟨rfl,rfl,rfl,rfl,rfl,rfl,trivial⟩ (⟨a,by rw [eW,if_neg e,show C++[r.last,Lib.itoa x.p]=C++[r.last]++[x.p].map Lib.itoa by simp];exact c⟩)
   intro e
   have e:r.last=[]:=by simpa using e
   refine Cj ?_
   exact B4 (y) ⟨rfl,rfl,rfl,rfl,rfl,rfl,trivial⟩ (⟨a,by rw [eW,if_pos e,append_nil];exact c⟩)
  clear a c s t
  rintro y w ⟨a,c⟩
  have l3:=MB 32 (CM r x)
  have l4:=Nu l2
  have eT:BX (ls.take (i+1))=BX (ls.take i)++(Lib.join (CM r x) [32]++[10]):=by
   rw [take_succ_eq_append_getElem E,OZ,← hx,hr]
   simp [BX,Jj]
  have lT:=IH (ls:=ls.take i) fun y hy=>hL y (mem_of_mem_take hy)
  have lk:(ls.take i).length≤32:=by rw [length_take];omega
  have hne:0<(CM r x).length:=by unfold CM;simp only [length_append,length_singleton];omega
  refine A5<|Ad O<|Ah O O (TS y (CM r x) [32] _ _ c hne (by omega) (by omega)) ?_
  rintro _ w2 ⟨rfl,b⟩
  have o:=a.size
  have a:=a.trans (b.mono o)
  have hbl2:=u.bs a
  have hM2:=K.bs a
  have zM2:=hM2.lt
  have z2:=a.size
  refine Aa (Ex.addT O O (by simp only [length_singleton];omega)) O<|Ah O O (RR G (BX (ls.take i)) (Lib.join (CM r x) [32]++[10]) _ hbl2 (by omega) (by simp only [length_append,length_singleton];omega)) ?_
  rintro _ w3 ⟨Z,I,hk3⟩
  rw [← eT] at Z
  have hM3:=hM2.oth hk3 (by omega)
  have hB3:=(A.trans (a.mono zw)).trans (I.mono (by omega))
  refine A7<|Ba<|Cr<|Ca O (by omega)<|Ad O<|A7 ?_
  exact Ay (Br (i+1) ⟨rfl,rfl,rfl,rfl,rfl,trivial⟩ (⟨E,hB3,Z,hM3⟩) (by omega))
 intro gi
 have E:i=ls.length:=by have:=AD gi;omega
 subst E
 rw [take_length] at u
 have zz:=A.size
 have zM2:=K.lt
 refine Bq<|Au<|Au<|Bc<|Cf<|Ah O O (Qr G (BX ls) _ u (by omega)) ?_
 rintro _ w2 ⟨rfl,b⟩
 exact Ab rfl<|Ab rfl<|As<|B2 rfl rfl rfl<|⟨A.trans (b.mono (by omega)),rfl⟩

-- dd: text
theorem Sy (n:BitVec 32) (W:World):AN prog 38 [u32 n] W (fun r w' =>Below W.heap.size W w' ∧w'.ownsRow W.heap.size 5 1 r (Crc.four n).length ((Crc.four n).map b8)):=by
 refine A4 (n:=15) func38 O<|Ai<|Ab O<|A3<|Ad O<|Aa (C8 GW HC O) O<|Ad O<|Aa (D7 (j:=8) O O (by decide)) O<|Aa (C8 GW HC O) O<|Ad O<|Aa (D7 (j:=16) O O (by decide)) O<|Aa (C8 GW HC O) O<|Ad O<|Aa (D7 (j:=24) O O (by decide)) O<|Aa (C8 GW HC O) O<|An (B7 (vs:=(Crc.four n).map b8) AO DD O O O O O) O ?_
 rintro q w ⟨a, -,b, -⟩
 exact Ab rfl<|As<|Al rfl rfl<|⟨b,a⟩
def Sb (l:Bs):Bs:=l++Crc.four (Crc.of l)
theorem Qq (v:Value) (l:Bs) (W:World) (i:BE b8 W v l) (B:l.length≤16777216):AN prog 37 [v] W (fun r w' =>Below W.heap.size W w' ∧w'.ownsRow W.heap.size 5 1 r (Sb l).length ((Sb l).map b8)):=by
 have s:v.cells=[v].toArray:=i.one
 refine A4 (n:=9) func37 O<|Ai<|Ab O<|A3<|Ad O<|An (C1 (k:=0) (xs:=[]) (base:=W.heap.size) AO DD O (by decide) O O (World.ownsRow_nil _ _ _ _) i (BI (fun _=>rfl) _) (by omega) (by omega) (AU _)) O ?_
 rintro y o ⟨b,m, -⟩
 rw [nil_append,Nat.zero_add] at b
 have e:=i.bs m
 refine Ad O<|Ah O O (TI v l o e) ?_
 rintro _ u ⟨rfl,c⟩
 have g:=bt m c
 have p:=AF b c
 refine Ah O O (Sy (Crc.of l) u) ?_
 rintro q x ⟨a,f⟩
 have d:=bt g a
 have t:=AF p a
 have A:(Crc.four (Crc.of l)).length=4:=rfl
 refine An (C1 (base:=W.heap.size) AO DD O (by decide) O O t (AG f) (BI (fun _=>rfl) _) (by omega) (by omega) (AA d)) O ?_
 rintro z w ⟨j,h, -⟩
 rw [← map_append,← length_append] at j
 exact Ab rfl<|As<|Al rfl rfl<|⟨d.trans h,j⟩
theorem Ka (s:List UInt8) (W:World) (h:Jv W):AN prog 134 [st s] W (fun r w' =>Below W.heap.size W w' ∧r= .tuple #[.int .i64 (IL s), .int .i64 (IK s)]):=by
 refine A4 (n:=15) func134 O<|Ai<|Ab O<|Ab O<|A3<|Ad O<|Ah O O (Oz s W h) ?_
 rintro _ w ⟨e,a,ls,rfl, -,m,c⟩
 have k:[a].all (·.oneCell')=true:=by rw [all_cons,c.sl.one'];rfl
 refine Ad O<|Aa (Az (i:=0) O O) O<|Aa (Az (i:=1) O O) O<|Aa (Az (i:=2) O O) O<|C2 (cs:=[a]) MD O O O O (fun _=>rfl) (k) ?_
 rintro g l b f d j
 exact Ab rfl<|Ab rfl<|A3<|Ad rfl<|Ad rfl<|Ab rfl<|Ab rfl<|As<|B2 rfl rfl rfl<|⟨bt e d,rfl⟩
def ID:List PN:=[(1#8,[],[2,3],0,0),(2#8,[],[3,2],0,0),(7#8,[0,1],[],0,0),(5#8,[2],[],0,0)]
theorem MU (k:BitVec 8) (v:Value) (a:v.cells=[v].toArray):Tryz.prog.built 79 [(0,b8 k),(2,v)]=some [b8 k, .slice none 0 0,v, .int .i64 0, .int .i64 0].toArray:=by
 have d:Tryz.prog.info? 79=some Tryz.t79:=by kernel_rfl
 have b:Tryz.prog.info? 3=some Tryz.t3:=by kernel_rfl
 have e:Tryz.prog.info? 77=some Tryz.t77:=by kernel_rfl
 have c:Tryz.prog.info? 70=some Tryz.t70:=by kernel_rfl
 simp [Program.built,d,underlying79,b,e,c,Instr.fill,a]
 rfl
theorem MV (k:BitVec 8) (v:Value) (a:v.cells=[v].toArray):Tryz.prog.built 79 [(0,b8 k),(1,v)]=some [b8 k,v, .slice none 0 0, .int .i64 0, .int .i64 0].toArray:=by
 have d:Tryz.prog.info? 79=some Tryz.t79:=by kernel_rfl
 have b:Tryz.prog.info? 3=some Tryz.t3:=by kernel_rfl
 have e:Tryz.prog.info? 77=some Tryz.t77:=by kernel_rfl
 have c:Tryz.prog.info? 70=some Tryz.t70:=by kernel_rfl
 simp [Program.built,d,underlying79,b,e,c,Instr.fill,a]
 rfl
theorem MW (v:Value) (b:v.cells=[v].toArray):Tryz.prog.built 24 [(0,v)]=some [v].toArray:=by
 have a:Tryz.prog.info? 24=some Tryz.t24:=by kernel_rfl
 have c:Tryz.prog.info? 22=some Tryz.t22:=by kernel_rfl
 simp [Program.built,a,underlying24,c,Instr.fill,b]
 rfl
theorem Sz (W:World):AN prog 133 [] W (fun r w' =>Below W.heap.size W w' ∧∃N ls,r= .agg [N].toArray∧GN w' N ls∧ls.map pn=ID):=by
 refine A4 (n:=11) func133 O<|Ai<|Da MD O ?_
 rintro J w0 L E Q V
 refine A3<|An (B7 (vs:=([2,3]:List Int).map (Value.int .i64)) AH DH O O O O O) O ?_
 rintro a R ⟨D, -,m, -⟩
 have t:BE (Value.int .i64) R a [2,3]:=AL D
 refine Aa (Bi (cs:=[b8 1#8, .slice none 0 0,a, .int .i64 0, .int .i64 0]) O (MU 1#8 a t.one)) O<|An (B7 (vs:=([3,2]:List Int).map (Value.int .i64)) AH DH O O O O O) O ?_
 rintro b Y ⟨G, -,j, -⟩
 have o:BE (Value.int .i64) Y b [3,2]:=AL G
 refine Aa (Bi (cs:=[b8 2#8, .slice none 0 0,b, .int .i64 0, .int .i64 0]) O (MU 2#8 b o.one)) O<|An (B7 (vs:=([0,1]:List Int).map (Value.int .i64)) AH DH O O O O O) O ?_
 rintro c U ⟨w, -,i, -⟩
 have q:BE (Value.int .i64) U c [0,1]:=AL w
 refine Aa (Bi (cs:=[b8 7#8,c, .slice none 0 0, .int .i64 0, .int .i64 0]) O (MV 7#8 c q.one)) O<|An (B7 (vs:=([2]:List Int).map (Value.int .i64)) AH DH O O O O O) O ?_
 rintro d S ⟨A, -,h, -⟩
 have p:BE (Value.int .i64) S d [2]:=AL A
 refine Aa (Bi (cs:=[b8 5#8,d, .slice none 0 0, .int .i64 0, .int .i64 0]) O (MV 5#8 d p.one)) O ?_
 obtain ⟨ls,g⟩:∃ls:List N5,ls=[⟨1#8, .slice none 0 0,a,[],[2,3],0,0⟩,⟨2#8, .slice none 0 0,b,[],[3,2],0,0⟩,⟨7#8,c, .slice none 0 0,[0,1],[],0,0⟩,⟨5#8,d, .slice none 0 0,[2],[],0,0⟩]:=⟨_,rfl⟩
 refine An (Xw.litA (cs:=GI N5.cells ls) (k:=4) (vs:=[(0, .agg [b8 1#8, .slice none 0 0,a, .int .i64 0, .int .i64 0].toArray),(1, .agg [b8 2#8, .slice none 0 0,b, .int .i64 0, .int .i64 0].toArray),(2, .agg [b8 7#8,c, .slice none 0 0, .int .i64 0, .int .i64 0].toArray),(3, .agg [b8 5#8,d, .slice none 0 0, .int .i64 0, .int .i64 0].toArray)]) BM EE O (by decide) (by decide) (by decide) (by rw [g];kernel_rfl) (by rw [g];rfl)) O ?_
 rintro v K ⟨z, -,f, -⟩
 have C:=bt (bt (bt (bt (bt Q m) j) i) h) f
 have l:=((((E.bs m).bs j).bs i).bs h).bs f
 have s:=bt (bt i h) f
 have B:=bt j s
 have y:GN K v ls:=by
  refine ⟨by have:=AG z;rw [g] at this ⊢;exact this, ?_⟩
  rw [g]
  intro x F
  simp only [mem_cons,not_mem_nil,or_false] at F
  rcases F with rfl|rfl|rfl|rfl
  ·exact ⟨Cv _ _,t.bs B⟩
  ·exact ⟨Cv _ _,o.bs s⟩
  ·exact ⟨q.bs (bt h f),Cv _ _⟩
  ·exact ⟨p.bs f,Cv _ _⟩
 have H:ls.map pn=ID:=by rw [g];rfl
 refine Aa (Bi (cs:=[v]) O (MW v y.sl.one)) O ?_
 have I:[v].all (·.oneCell')=true:=by rw [all_cons,y.sl.one'];rfl
 refine A6 (Ck (cs:=[v]) (k:=1) (by kernel_rfl) O O O I l O) ?_
 rintro Z ⟨M,u,hz⟩
 have zB:=AA Q
 have X:∀b,some J=some b→∃cs,AP K b 24 cs:=fun b e=>by cases e;exact ⟨_,l⟩
 refine As<|D9 O O ‹_› underlying24 O O O ?_
 refine ⟨C.grown u (AA C) (by rintro _ ⟨⟩;omega),v,ls,rfl, ?_,H⟩
 have T:=CH z u X (by decide)
 refine ⟨by have:=AG T;rw [g] at this ⊢;exact this, ?_⟩
 have n0:=m.size
 have n1:=j.size
 have n2:=i.size
 have n3:=h.size
 have n4:=f.size
 have lg:=AW E
 rw [g]
 intro x F
 simp only [mem_cons,not_mem_nil,or_false] at F
 rcases F with rfl|rfl|rfl|rfl
 ·exact ⟨Cv _ _,(t.bs B).by u (.inr fun e=>by have:=(AB D _ e).1;omega)⟩
 ·exact ⟨Cv _ _,(o.bs s).by u (.inr fun e=>by have:=(AB G _ e).1;omega)⟩
 ·exact ⟨(q.bs (bt h f)).by u (.inr fun e=>by have:=(AB w _ e).1;omega),Cv _ _⟩
 ·exact ⟨(p.bs f).by u (.inr fun e=>by have:=(AB A _ e).1;omega),Cv _ _⟩
theorem Iw {d:Nat} (h:d<10):Lib.itoa (d:Int)=[UInt8.ofNat (48+d)]:=by rw [Lib.itoa_nonneg,Lib.decDigits_one h]
theorem P1:(EK (ID.map un)).isSome=true:=by decide+kernel
theorem NF:BX (ID.map un)=[105,110,112,117,116,32,50,32,51,10,119,101,105,103,104,116,32,51,32,50,10,112,114,111,100,117,99,116,32,48,32,49,10,114,101,108,117,32,50,10]:=by
 have f:AZ 1#8=⟨1,[105,110,112,117,116],0,0,[],[]⟩:=rfl
 have i:AZ 2#8=⟨2,[119,101,105,103,104,116],0,0,[],[]⟩:=rfl
 have h:AZ 7#8=⟨7,[112,114,111,100,117,99,116],2,2,[],[]⟩:=rfl
 have c:AZ 5#8=⟨5,[114,101,108,117],1,1,[],[]⟩:=rfl
 have a:Lib.itoa 0=[48]:=Iw (d:=0) (by decide)
 have g:Lib.itoa 1=[49]:=Iw (d:=1) (by decide)
 have b:Lib.itoa 2=[50]:=Iw (d:=2) (by decide)
 have e:Lib.itoa 3=[51]:=Iw (d:=3) (by decide)
 simp [ID,un,BX,Jj,CM,f,i,h,c,a,g,b,e,Rw.shaped,Lib.join,Lib.joinTail]
theorem Qx:IL [105,110,112,117,116,32,52,10,114,101,108,117,32,48]=0∧IK [105,110,112,117,116,32,52,10,114,101,108,117,32,48]=0∧(L6 [105,110,112,117,116,32,52,10,114,101,108,117,32,48]).length=2:=by decide+kernel
theorem SV:IL [105,110,112,117,116,32,52,10,114,101,108,117]=1∧IK [105,110,112,117,116,32,52,10,114,101,108,117]=4:=by decide+kernel
theorem SU:IL [105,110,112,117,116,32,52,10,114,101,108,117,32,49]=0∧IK [105,110,112,117,116,32,52,10,114,101,108,117,32,49]=1:=by decide+kernel
theorem SS:IL [105,110,112,117,116,32,48,52]=0∧IK [105,110,112,117,116,32,48,52]=4:=by decide+kernel
theorem UE:KE [1#8,2#8,3#8]=5:=by decide+kernel
theorem UD:KE [0#8,0#8,0#8,0#8]=4:=by decide+kernel
theorem UC:KE (Sb [7#8])=4:=by decide+kernel
theorem LV (W:World) (c:Jv W):AN prog 32 [] W (fun r w' =>r= .bool true∧Below W.heap.size W w'):=by
 have d:=Below.refl W.heap.size W
 refine A4 (n:=108) func32 O<|Ai<|Ab O<|A3<|Ah O O (Sz W) ?_
 rintro _ w ⟨a,L,ls,rfl,v,t⟩
 have d:=d.bs a
 have c:=c.bs a
 have B:GX ls=[105,110,112,117,116,32,50,32,51,10,119,101,105,103,104,116,32,51,32,50,10,112,114,111,100,117,99,116,32,48,32,49,10,114,101,108,117,32,50,10]∧JE ls=0:=by
  have E:(ID.map un).map pn=ls.map pn:=by rw [t];rfl
  have I:EK ls=EK (ID.map un):=by rw [← FN,← FN,E]
  have M:BX ls=BX (ID.map un):=by
   have k:∀l:List N5,BX l=((l.map pn).map fun p=>Jj (un p)).flatten:=fun l=>by
    unfold BX
    rw [map_map]
    rfl
   rw [k,k (ID.map un),E]
  unfold GX JE
  rw [I,P1,M,NF]
  exact ⟨rfl,rfl⟩
 refine Ah O O (LC L ls w c v) ?_
 rintro _ w ⟨a,rfl⟩
 have d:=d.bs a
 have c:=c.bs a
 clear a v
 rw [B.1,B.2]
 clear B t
 refine Ad O<|Aa (Az (i:=0) O O) O<|Aa (Az (i:=1) O O) O<|Ab O<|Ab O<|A3<|Ah O O (Oz [105,110,112,117,116,32,52,10,114,101,108,117,32,48] w c) ?_
 rintro _ w ⟨a,C,xs,rfl,D, -,A⟩
 have d:=d.bs a
 have c:=c.bs a
 have J:xs.length=2:=by rw [← Qx.2.2,← D,length_map]
 rw [Qx.1,Qx.2.1]
 have N:[C].all (·.oneCell')=true:=by rw [all_cons,A.sl.one'];rfl
 have R:=A.sl.shp
 clear A D
 refine Ad O<|Aa (Az (i:=0) O O) O<|Aa (Az (i:=1) O O) O<|Aa (Az (i:=2) O O) O<|C2 (cs:=[C]) MD O O O O (fun _=>rfl) (N) ?_
 rintro G w F b a -
 have d:=d.bs a
 have c:=c.bs a
 refine Ab O<|Ab O<|A3<|Ah O O (Ka [105,110,112,117,116,32,52,10,114,101,108,117] w c) ?_
 rintro _ w ⟨a,rfl⟩
 have d:=d.bs a
 have c:=c.bs a
 have b:=b.bs a
 rw [SV.1,SV.2]
 refine Ad O<|Aa (Az (i:=0) O O) O<|Aa (Az (i:=1) O O) O<|Ab O<|Ab O<|A3<|Ah O O (Ka [105,110,112,117,116,32,52,10,114,101,108,117,32,49] w c) ?_
 rintro _ w ⟨a,rfl⟩
 have d:=d.bs a
 have c:=c.bs a
 have b:=b.bs a
 rw [SU.1,SU.2]
 refine Ad O<|Aa (Az (i:=0) O O) O<|Aa (Az (i:=1) O O) O<|Ab O<|Ab O<|A3<|Ah O O (Ka [105,110,112,117,116,32,48,52] w c) ?_
 rintro _ w ⟨a,rfl⟩
 have d:=d.bs a
 have c:=c.bs a
 have b:=b.bs a
 rw [SS.1,SS.2]
 refine Ad O<|Aa (Az (i:=0) O O) O<|Aa (Az (i:=1) O O) O<|Ab O<|Ab O<|A3<|An (B7 (vs:=[1#8,2#8,3#8].map b8) AO DD O O O O O) O ?_
 rintro q w ⟨h, -,a, -⟩
 have d:=d.bs a
 have c:=c.bs a
 have b:=b.bs a
 refine Ah O O (NB q [1#8,2#8,3#8] w (AL h)) ?_
 rintro _ w ⟨a,e,f,x,y,rfl, -,j⟩
 have d:=d.bs a
 have c:=c.bs a
 have b:=b.bs a
 have m:[e,f].all (·.oneCell')=true:=by rw [all_cons,all_cons,j.nv.sl.one',j.wv.sl.one'];rfl
 clear j
 rw [UE]
 refine Ad O<|Aa (Az (i:=0) O O) O<|Aa (Az (i:=1) O O) O<|C2 (cs:=[e,f]) La O O O O (fun _=>rfl) (m) ?_
 rintro z w o g a u
 have d:=d.bs a
 have c:=c.bs a
 have b:=b.bs a
 clear a g m
 refine Ab O<|A3<|An (B7 (vs:=[0#8,0#8,0#8,0#8].map b8) AO DD O O O O O) O ?_
 rintro Q w ⟨h, -,a, -⟩
 have d:=d.bs a
 have c:=c.bs a
 have b:=b.bs a
 refine Ah O O (NB Q [0#8,0#8,0#8,0#8] w (AL h)) ?_
 rintro _ w ⟨a,e,f,x,y,rfl, -,j⟩
 have d:=d.bs a
 have c:=c.bs a
 have b:=b.bs a
 have m:[e,f].all (·.oneCell')=true:=by rw [all_cons,all_cons,j.nv.sl.one',j.wv.sl.one'];rfl
 clear j
 rw [UD]
 refine Ad O<|Aa (Az (i:=0) O O) O<|Aa (Az (i:=1) O O) O<|C2 (cs:=[e,f]) La O O O O (fun _=>rfl) (m) ?_
 rintro z w o g a u
 have d:=d.bs a
 have c:=c.bs a
 have b:=b.bs a
 clear a g m
 refine Ab O<|A3<|An (B7 (vs:=[7#8].map b8) AO DD O O O O O) O ?_
 rintro H w ⟨h, -,a, -⟩
 have d:=d.bs a
 have c:=c.bs a
 have b:=b.bs a
 refine Ah O O (Qq H [7#8] w (AL h) (by decide)) ?_
 rintro K w ⟨a,s⟩
 have d:=d.bs a
 have c:=c.bs a
 have b:=b.bs a
 refine Ah O O (NB K (Sb [7#8]) w (AL s)) ?_
 rintro _ w ⟨a,e,f,x,y,rfl, -,j⟩
 have d:=d.bs a
 have c:=c.bs a
 have b:=b.bs a
 have m:[e,f].all (·.oneCell')=true:=by rw [all_cons,all_cons,j.nv.sl.one',j.wv.sl.one'];rfl
 clear j
 rw [UC]
 refine Ad O<|Aa (Az (i:=0) O O) O<|Aa (Az (i:=1) O O) O<|C2 (cs:=[e,f]) La O O O O (fun _=>rfl) (m) ?_
 rintro z w o g a u
 have d:=d.bs a
 have c:=c.bs a
 have b:=b.bs a
 clear a g m
 refine Ab O<|A3<|Ad O<|Aa (E2 O O) O<|Ad O<|Cx 58 (v' := .bool true) O (cngA Value.bool ((by decide)))<|Aj (dj:=58) O O<|Ad O<|Aj (dj:=58) O O<|Aa (Cn O O) O<|Bt O<|Ad O<|Cx 62 (v' := .bool true) O (cngA Value.bool ((by decide)))<|Aj (dj:=62) O O<|A9 underlying24 O (CB _)<|Aj (dj:=62) O O<|Aa (Ao (DQ _) O ‹_› rfl) O ?_
 refine Aj (dj:=62) O O<|Aa (D5 BM O R) O<|Aj (dj:=62) O O<|Aa (Cn O O) O<|Bt O<|Ad O<|Cx 68 (v' := .bool true) O (cngA Value.bool ((by rw [J];rfl)))<|Aj (dj:=68) O O<|Ad O<|Aj (dj:=68) O O<|Aa (Cn O O) O<|Bt O<|Ad O<|Cx 72 (v' := .bool true) O (cngA Value.bool ((by decide)))<|Aj (dj:=72) O O<|Ad O<|Aj (dj:=72) O O<|Aa (Cn O O) O<|Bt O<|Ad O<|Cx 76 (v' := .bool true) O (cngA Value.bool ((by decide)))<|Aj (dj:=76) O O<|Ad O<|Aj (dj:=76) O O<|Aa (Cn O O) O<|Bt O<|Ad O<|Cx 80 (v' := .bool true) O (cngA Value.bool ((by decide)))<|Aj (dj:=80) O O<|Ad O<|Aj (dj:=80) O O<|Aa (Cn O O) O<|Bt O<|Ad O<|Cx 84 (v' := .bool true) O (cngA Value.bool ((by decide)))<|Aj (dj:=84) O O<|Ad O<|Aj (dj:=84) O O<|Aa (Cn O O) O<|Bt O<|Ad O<|Cx 88 (v' := .bool true) O (cngA Value.bool ((by decide)))<|Aj (dj:=88) O O<|Ad O<|Aj (dj:=88) O O<|Aa (Cn O O) O<|Bt O ?_
 refine Ad O<|Cx 92 (v' := .bool true) O (cngA Value.bool ((by decide)))<|Aj (dj:=92) O O<|Ad O<|Aj (dj:=92) O O<|Aa (Cn O O) O<|Bt O<|Ad O<|Cx 96 (v' := .bool true) O (cngA Value.bool ((by decide)))<|Aj (dj:=96) O O<|Ad O<|Aj (dj:=96) O O<|Aa (Cn O O) O<|Bt O<|Ad O<|Cx 100 (v' := .bool true) O (cngA Value.bool ((by decide)))<|Aj (dj:=100) O O<|Ad O<|Aj (dj:=100) O O<|Aa (Cn O O) O<|Bt O<|Ad O<|Cx 104 (v' := .bool true) O (cngA Value.bool ((by decide)))<|Aj (dj:=104) O O<|Ad O<|Aj (dj:=104) O O<|Aa (Cn O O) O<|Bt O<|Ab O<|As<|Al O O ?_
 exact ⟨rfl,d⟩
end Go.Proofs.YtblbopcaflaldaaGreatDoor

namespace Go.Dd
open Go Go.RowKit List
section
variable {H : Type} {enc : TypeId × Value → H} {P : Program} {w : World}
def In (enc:TypeId×Value→H) (P:Program) (w:World) (t:TypeId) (cs:List Value):Prop:=
 ∃fuel d ps,DataW.trod enc P w 0 (fun _=>true) true fuel t cs=some (d,ps)∧∀x ∈ d.weights P t,x≤reachBytes
theorem In.int {t:TypeId} {k:IntKind} {cs:List Value} (b:P.underlying t=some (.int k)) (h:In enc P w t cs):∃m,cs=[.int k m]∧(Lit.int k m).wf=true:=by
 obtain ⟨a,d,ps,h,_⟩:=h
 cases a with
 |zero=>simp [DataW.trod] at h
 |succ a=>
  unfold DataW.trod at h
  rw [b] at h
  split at h<;>simp_all
theorem In.bool {t:TypeId} {cs:List Value} (c:P.underlying t=some .bool) (h:In enc P w t cs):∃b,cs=[.bool b]:=by
 obtain ⟨a,d,ps,h,_⟩:=h
 cases a with
 |zero=>simp [DataW.trod] at h
 |succ a=>
  unfold DataW.trod at h
  rw [c] at h
  split at h<;>simp_all
theorem Iu {α β:Type} {f:α→Option β}:∀{l:List α} {r:List β},l.mapM f=some r→∀(i:Nat) (a:α),l[i]? =some a→∃b,f a=some b∧r[i]? =some b
 |[],r,h,i,a,hi=>by simp at hi
 |x::l,r,h,i,a,hi=>by
  simp only [mapM_cons,Option.bind_eq_bind,Option.pure_def] at h
  cases hx:f x with
  |none=>simp [hx] at h
  |some b=>
   cases hl:l.mapM f with
   |none=>simp [hx,hl] at h
   |some r' =>
    simp only [hx,hl,Option.bind_some,Option.some.injEq] at h
    subst h
    cases i with
    |zero=>simp at hi;subst hi;exact ⟨b,hx,by simp⟩
    |succ i=>simpa using Iu hl i a (by simpa using hi)
theorem It {α β:Type} {f:α→Option β}:∀{l:List α} {r:List β},l.mapM f=some r→r.length=l.length
 |[],r,h=>by simp at h;simp [← h]
 |x::l,r,h=>by
  simp only [mapM_cons,Option.bind_eq_bind,Option.pure_def] at h
  cases hx:f x with
  |none=>simp [hx] at h
  |some b=>
   cases hl:l.mapM f with
   |none=>simp [hx,hl] at h
   |some r' =>
    simp only [hx,hl,Option.bind_some,Option.some.injEq] at h
    subst h
    simpa using It hl
theorem Lk {base n:Nat} {a:Addr} {cs:List Value} (h:w.cells? base a n=some cs):cs.length=n∧∀j u,cs[j]? =some u→w.cell? (a.add j)=some u:=by
 unfold World.cells? at h
 split at h
 ·refine ⟨by simpa using It h,fun j u c=> ?_⟩
  have e:j<n:=by
   have:=It h
   have d:j<cs.length:=by
    rcases Nat.lt_or_ge j cs.length with h|h
    ·exact h
    ·simp [getElem?_eq_none h] at c
   simp at this;omega
  obtain ⟨b,g,f⟩:=Iu h j j (by simp [e])
  rw [f] at c
  simp only [Option.some.injEq] at c
  rw [g,c]
 ·cases h
theorem Hk {e:TypeId}:∀{ds:List (DataW H)} {i:Nat} {d:DataW H},ds[i]? =some d→∀x ∈ d.weights P e,x ∈ DataW.weightsAll P e ds
 |d0::ds,0,d,hd,x,hx=>by
  simp only [getElem?_cons_zero,Option.some.injEq] at hd
  subst hd
  simp only [DataW.weightsAll,mem_append];exact .inl hx
 |d0::ds,i+1,d,hd,x,hx=>by
  simp only [getElem?_cons_succ] at hd
  simp only [DataW.weightsAll,mem_append];exact .inr (Hk hd x hx)
 |[],_,_,hd,_,_=>by simp at hd
theorem Kr {sz:Nat}:∀{a:List (List Value)} (_:∀c ∈ a,c.length=sz) (i:Nat) (c:List Value),a[i]? =some c→(a.flatten.drop (i*sz)).take sz=c
 |c0::a,hl,0,c,b=>by
  simp only [getElem?_cons_zero,Option.some.injEq] at b
  subst b
  have:=hl c0 (by simp)
  simp [flatten_cons,← this]
 |c0::a,hl,i+1,c,b=>by
  simp only [getElem?_cons_succ] at b
  have e:=hl c0 (by simp)
  have d:=Kr (fun c b=>hl c (by simp [b])) i c b
  rw [flatten_cons,show (i+1)*sz=c0.length+i*sz by rw [e,Nat.succ_mul];omega,← drop_drop,drop_left]
  exact d
 |[],_,_,_,b=>by simp at b
theorem Jk {sz:Nat}:∀{a:List (List Value)} (_:∀c ∈ a,c.length=sz) (j:Nat) (u:Value),a.flatten[j]? =some u→∃i c,a[i]? =some c∧c[j - i*sz]? =some u∧i*sz≤j
 |[],_,j,u,h=>by simp at h
 |c0::a,hl,j,u,h=>by
  have f:=hl c0 (by simp)
  rw [flatten_cons,getElem?_append] at h
  split at h
  ·exact ⟨0,c0,by simp,by simpa using h,by simp⟩
  ·obtain ⟨i,c,d,b,g⟩:=Jk (fun c e=>hl c (by simp [e])) (j - c0.length) u h
   refine ⟨i+1,c,by simpa using d, ?_,by rw [Nat.succ_mul];omega⟩
   rw [← b];congr 1;rw [Nat.succ_mul];omega
theorem In.slice {t e:TypeId} {sz:Nat} {cs:List Value} (I:P.underlying t=some (.slice e)) (E:P.cellsOf e=sz) (h:In enc P w t cs):
  ∃v n xs,cs=[v]∧Sl w sz v n xs∧n*P.bytesOf e≤reachBytes∧∀i,i<n→In enc P w e ((xs.drop (i*sz)).take sz):=by
 obtain ⟨g,d,ps,h,Q⟩:=h
 cases g with
 |zero=>simp [DataW.trod] at h
 |succ g=>
  unfold DataW.trod at h
  rw [I] at h
  split at h<;>try (simp_all;done)
  ·exact ⟨_,0,[],rfl,Cv w sz,by simp,fun i o=>by omega⟩
  ·rename_i W a len cap s
   simp only [Option.some.injEq,TypeDesc.slice.injEq] at s
   subst s
   simp only at h
   split at h
   ·rename_i k
    obtain ⟨_,L,C⟩:=k
    cases hel:(List.range len).mapM (fun i=>(w.cells? 0 (a.add (i*P.cellsOf e)) (P.cellsOf e)).bind (DataW.trod enc P w 0 (fun _=>true) true g e)) with
    |none=>simp [hel] at h
    |some elems=>
     rw [hel] at h
     simp only [Option.bind_some,Option.map_eq_some_iff] at h
     obtain ⟨A,M,h⟩:=h
     simp only [Prod.mk.injEq] at h
     obtain ⟨h,_⟩:=h
     subst h
     rw [E] at hel
     have z:elems.length=len:=by simpa using It hel
     have CY:∀i,i<len→∃c,w.cells? 0 (a.add (i*sz)) sz=some c∧∃b,DataW.trod enc P w 0 (fun _=>true) true g e c=some b∧elems[i]? =some b:=by
      intro i o
      obtain ⟨b,r,G⟩:=Iu hel i i (by simp [o])
      cases hcc:w.cells? 0 (a.add (i*sz)) sz with
      |none=>simp [hcc] at r
      |some c=>rw [hcc] at r;exact ⟨c,rfl,b,r,G⟩
     have J:∃f:List (List Value),f.length=len∧∀i c,f[i]? =some c→w.cells? 0 (a.add (i*sz)) sz=some c:=by
      refine ⟨(List.range len).map (fun i=>(w.cells? 0 (a.add (i*sz)) sz).getD []),by simp,fun i c k=> ?_⟩
      have o:i<len:=by
       rcases Nat.lt_or_ge i len with h|h
       ·exact h
       ·rw [getElem?_eq_none (by simpa using h)] at k;cases k
      obtain ⟨U,y,_⟩:=CY i o
      simp [o,y] at k
      rw [y,k]
     obtain ⟨f,N,p⟩:=J
     have m:∀c ∈ f,c.length=sz:=fun c k=>by
      obtain ⟨i,o⟩:=List.mem_iff_getElem?.1 k
      exact (Lk (p i c o)).1
     have F:∀(l:List (List Value)),(∀c ∈ l,c.length=sz)→l.flatten.length=l.length*sz:=by
      intro l
      induction l with
      |nil=>intro _;simp
      |cons c l ih=>intro h;rw [flatten_cons,length_append,ih (fun c k=>h c (by simp [k])),h c (by simp),length_cons,Nat.succ_mul];omega
     refine ⟨_,len,f.flatten,rfl,⟨by rw [F f m,N],some a,cap,rfl,L,C,(fun h=>by cases h),fun V T j u D=> ?_⟩, ?_,fun i o=> ?_⟩
     ·cases T
      obtain ⟨i,c,B,R,X⟩:=Jk m j u D
      have:=(Lk (p i c B)).2 _ _ R
      rw [H0] at this
      rwa [show i*sz+(j - i*sz)=j by omega] at this
     ·have:=Q ((elems.length+A.length)*P.bytesOf e) (by simp [DataW.weights,I])
      rw [z] at this
      exact Nat.le_trans (Nat.mul_le_mul_right _ (Nat.le_add_right _ _)) this
     ·obtain ⟨c,k,b,r,G⟩:=CY i o
      have K:f[i]? =some c:=by
       have q:i<f.length:=by omega
       have B:=p i f[i] (getElem?_eq_getElem q)
       rw [k] at B
       rw [getElem?_eq_getElem q]
       exact B.symm
      rw [Kr m i c K]
      refine ⟨g,b.1,b.2,by simpa using r,fun x S=>Q x ?_⟩
      simp only [DataW.weights,I,mem_cons,mem_append]
      right;left
      exact Hk (i:=i) (d:=b.1) (by simp [G]) x S
   ·cases h
theorem In.struct {t:TypeId} {l:Array Field} {cs:List Value} (k:P.underlying t=some (.struct l)) (h:In enc P w t cs):
  cs.length=P.cellsOf t∧∀(i:Nat) (f:Field),l[i]? =some f→In enc P w f.type ((cs.drop f.offset).take (P.cellsOf f.type)):=by
 obtain ⟨a,d,ps,h,m⟩:=h
 cases a with
 |zero=>simp [DataW.trod] at h
 |succ a=>
  unfold DataW.trod at h
  rw [k] at h
  split at h<;>try (simp_all;done)
  rename_i r o c
  simp only [Option.some.injEq,TypeDesc.struct.injEq] at c
  subst c
  split at h
  ·rename_i n
   simp only [Option.map_eq_some_iff] at h
   obtain ⟨xs,e,h⟩:=h
   simp only [Prod.mk.injEq] at h
   obtain ⟨h,_⟩:=h
   subst h
   refine ⟨n,fun i f g=> ?_⟩
   obtain ⟨b,q,p⟩:=Iu e i f (by simpa using g)
   refine ⟨a,b.1,b.2,by simpa using q,fun x s=>m x ?_⟩
   simp only [DataW.weights,k]
   exact DataW.weights_mem_each (j:=i) (t:=f.type) (d:=b.1) (by simp [g]) (by simp [p]) x s
  ·cases h
theorem U2 {m:Int} (h:(Lit.int .u8 m).wf=true):Value.int .u8 m=b8 (BitVec.ofInt 8 m):=by
 simp [Lit.wf,IntKind.min,IntKind.max,IntKind.signed,IntKind.bits] at h
 have:((BitVec.ofInt 8 m).toNat:Int)=m:=by rw [BitVec.toNat_ofInt];omega
 unfold b8;rw [this]
theorem Tr {m:Int} (h:(Lit.int .u16 m).wf=true):Value.int .u16 m=u16 (BitVec.ofInt 16 m):=by
 simp [Lit.wf,IntKind.min,IntKind.max,IntKind.signed,IntKind.bits] at h
 have:((BitVec.ofInt 16 m).toNat:Int)=m:=by rw [BitVec.toNat_ofInt];omega
 unfold u16;rw [this]
theorem Tq {m:Int} (h:(Lit.int .u32 m).wf=true):Value.int .u32 m=u32 (BitVec.ofInt 32 m):=by
 simp [Lit.wf,IntKind.min,IntKind.max,IntKind.signed,IntKind.bits] at h
 have:((BitVec.ofInt 32 m).toNat:Int)=m:=by rw [BitVec.toNat_ofInt];omega
 unfold u32;rw [this]
theorem Ts {m:Int} (h:(Lit.int .i32 m).wf=true):Value.int .i32 m=i32 (BitVec.ofInt 32 m):=by
 simp [Lit.wf,IntKind.min,IntKind.max,IntKind.signed,IntKind.bits] at h
 have:(BitVec.ofInt 32 m).toInt=m:=by rw [BitVec.toInt_ofInt,Int.bmod_def];omega
 unfold i32;rw [this]
theorem Qb {m:Int} (h:(Lit.int .i64 m).wf=true): -9223372036854775808≤m∧m≤9223372036854775807:=by
 simp [Lit.wf,IntKind.min,IntKind.max,IntKind.signed,IntKind.bits] at h
 omega
theorem In.num {α:Type} {e:TypeId} {k:IntKind} (f:Int→α) (g:α→Value) (c:∀m,(Lit.int k m).wf=true→Value.int k m=g (f m)) (d:P.underlying e=some (.int k)) {cs:List Value} (h:In enc P w e cs):∃a,cs=[g a]:=by
 obtain ⟨m,rfl,b⟩:=h.int d
 exact ⟨f m,by rw [c m b]⟩
theorem In.slT {α:Type} {t e:TypeId} {g:α→Value} {cs:List Value} (r:P.underlying t=some (.slice e)) (o:P.cellsOf e=1) (q:∀cs,In enc P w e cs→∃a,cs=[g a]) (h:In enc P w t cs):
  ∃v l,cs=[v]∧BE g w v l∧l.length*P.bytesOf e≤reachBytes:=by
 obtain ⟨v,n,xs,rfl,p,s,j⟩:=h.slice r o
 have hall:∀i,i<n→∃a,xs[i]? =some (g a):=by
  intro i m
  obtain ⟨a,d⟩:=q _ (j i m)
  refine ⟨a, ?_⟩
  have:=cngA (fun l=>l[0]?) d
  simpa [getElem?_take,getElem?_drop] using this
 have b:xs.length=n:=by have:=p.len;omega
 have k:∀(c:List Value),(∀i,i<c.length→∃a,c[i]? =some (g a))→∃l:List α,c=l.map g:=by
  intro c
  induction c with
  |nil=>intro _;exact ⟨[],rfl⟩
  |cons y c ih=>
   intro h
   obtain ⟨a,d⟩:=h 0 (by simp)
   obtain ⟨l,rfl⟩:=ih (fun i m=>by simpa using h (i+1) (by simpa using m))
   simp only [getElem?_cons_zero,Option.some.injEq] at d
   exact ⟨a::l,by simp [d]⟩
 obtain ⟨l,rfl⟩:=k xs (by rw [b];exact hall)
 have f:l.length=n:=by simpa using b
 subst f
 exact ⟨v,l,rfl,p,s⟩
theorem Ri {ts:List TypeId} {ds:List (DataW H)} {j:Nat} {t:TypeId} {v:Value} {d:DataW H} {ps:List MemPlace} (f:(DataW.weightsEach P ts ds).all (·≤reachBytes)=true) (c:ts[j]? =some t) (b:ds[j]? =some d)
  (h:DataW.Trod enc P w 0 (fun _=>true) true t v d ps):In enc P w t v.cells.toList:=by
 obtain ⟨a,h⟩:=h
 exact ⟨a,d,ps,h,fun x e=>by simpa using List.all_eq_true.1 f x (DataW.weights_mem_each c b x e)⟩
open Go.WideShapes in
theorem K0 {base:Nat} {t:TypeId} {c:Array Field} {v:Value} (b:P.underlying t=some (.struct c)) (a:Value.okWide P w .any base t v) (h:In enc P w t v.cells.toList):∃cs:List Value,v= .agg cs.toArray∧In enc P w t cs:=by
 obtain ⟨cs,rfl,_⟩:=okWide_struct b a
 exact ⟨cs.toList,by simp,by simpa [Value.cells] using h⟩
theorem Pz {f:FuncId} {args:Array Value} (h:AN P f args.toList w (fun r w' =>r= .bool true∧Below w.heap.size w w')):
  Calls P f args w fun e w' =>e= .returned (.bool true)∧Below w.heap.size w w' :=by
 have:=h.2
 rw [Array.toArray_toList] at this
 exact this.mono fun e w' ⟨v,a,b,c⟩=>⟨by rw [a,b],c⟩
end
end Go.Dd

namespace Go.Proofs.YtblbopcaflaldaaGreatDoor
open Go Go.Dd Go.RowKit Go.ChangeShapes Go.WideShapes List Go.Proofs.Tryz
set_option maxRecDepth 100000
theorem Tt {α:Type} {l:List α} (h:l.length=2):∃a b,l=[a,b]:=by
 match l,h with
 |[a,b],_=>exact ⟨a,b,rfl⟩
theorem Ud {H:Type} {enc:TypeId×Value→H} {w:World} {cs:List Value} (h:In enc prog w 75 cs):∃a:T4,cs=[a.x,a.y]∧a.at w∧a.s.length≤17592186044416∧a.l.length≤35184372088832:=by
 obtain ⟨b,c⟩:=h.struct underlying75
 have p:Tryz.prog.cellsOf 75=2:=by kernel_rfl
 have o:Tryz.prog.cellsOf 70=1:=by kernel_rfl
 have m:Tryz.prog.cellsOf 73=1:=by kernel_rfl
 rw [p] at b
 obtain ⟨x,y,rfl⟩:=Tt b
 obtain ⟨q,s,d,i,g⟩:=(c 0 _ rfl).slT Oh (by kernel_rfl) (fun cs h=>(In.int Hl h).imp fun _ h=>h.1)
 obtain ⟨r,l,e,n,k⟩:=(c 1 _ rfl).slT U4 (by kernel_rfl) (fun cs h=>In.num (BitVec.ofInt 32) i32 (fun _ h=>Ts h) Oi h)
 have j:Tryz.prog.bytesOf 3=8:=by kernel_rfl
 have f:Tryz.prog.bytesOf 21=4:=by kernel_rfl
 rw [j] at g
 rw [f] at k
 simp [o,m] at d e
 subst d e
 have t:reachBytes≤140737488355328:=by decide
 exact ⟨⟨x,y,s,l⟩,rfl,⟨i,n⟩,by simp only;omega,by simp only;omega⟩

def MO (a:T4):Prop:=a.s.length≤1125899906842624∧a.l.length≤1125899906842624
theorem Om {H:Type} {enc:TypeId×Value→H} {w:World}:∀{n:Nat} {xs:List Value},xs.length=n*2→(∀i,i<n→In enc prog w 75 ((xs.drop (i*2)).take 2))→
  ∃ts:List T4,ts.length=n∧cellsOf ts=xs∧∀t ∈ ts,t.at w∧MO t
 |0,xs,hl,_=>by
  obtain rfl:xs=[]:=eq_nil_of_length_eq_zero (by omega)
  exact ⟨[],rfl,rfl,fun t b=>by simp at b⟩
 |n+1,[],hl,_=>by simp at hl
 |n+1,[_],hl,_=>by simp at hl;omega
 |n+1,x::y::xs,hl,h=>by
  obtain ⟨a,c,d,j,k⟩:=Ud (h 0 (by omega))
  obtain ⟨ts,f,e,g⟩:=Om (n:=n) (xs:=xs) (by simp at hl;omega) fun i l=>by
   have:=h (i+1) (by omega)
   rw [show (i+1)*2=i*2+1+1 by omega] at this
   simpa using this
  simp at c
  refine ⟨a::ts,by simp [f],by rw [cellsOf,e,c.1,c.2],fun t b=> ?_⟩
  rcases List.mem_cons.1 b with rfl|b
  ·exact ⟨d,by omega,by omega⟩
  ·exact g t b
theorem S5 {H:Type} {enc:TypeId×Value→H} {w:World} {cs:List Value} (h:In enc prog w 25 cs):∃v,cs=[v]∧∃ts:List T4,DR w v ts∧ts.length≤1125899906842624∧∀t ∈ ts,MO t:=by
 obtain ⟨v,n,xs,e,c,g,j⟩:=h.slice U5 (sz:=2) (by kernel_rfl)
 obtain ⟨ts,f,d,b⟩:=Om c.len j
 subst f d
 have k:reachBytes≤140737488355328:=by decide
 have i:Tryz.prog.bytesOf 75=48:=by kernel_rfl
 rw [i] at g
 exact ⟨v,e,ts,⟨c,fun t a=>(b t a).1⟩,by omega,fun t a=>(b t a).2⟩
def Ic:Int→List Int→Int
 |n,[]=>n
 |n,x::l=>if n≤1048576 then Ic (n+x) l else n
theorem GM:∀{l:List Int} {n:Int},(∀x ∈ l,0≤x)→n≤Ic n l
 |[],n,_=>Int.le_refl _
 |x::l,n,h=>by
  unfold Ic
  split
  ·have:=GM (n:=n+x) fun y a=>h y (mem_cons_of_mem _ a)
   have:=h x (by simp)
   omega
  ·exact Int.le_refl _
theorem JD:∀{l:List Int} {n:Int},(∀x ∈ l,0≤x)→Ic n l≤1048576→∀x ∈ l,n+x≤Ic n l
 |[],_,_,_,x,a=>by simp at a
 |y::l,n,h,hle,x,a=>by
  have b:∀z ∈ l,0≤z:=fun z c=>h z (mem_cons_of_mem _ c)
  have d:=GM (n:=n) h
  have e:Ic n (y::l)=Ic (n+y) l:=by
   show (if n≤1048576 then Ic (n+y) l else n)=_
   rw [if_pos (by omega)]
  rw [e] at hle ⊢
  rcases List.mem_cons.1 a with rfl|a
  ·exact GM b
  ·have:=JD b hle x a
   have:=h y (by simp)
   omega
theorem Jw (s:List Int) (l:List (BitVec 32)):1≤Jp s l:=by unfold Jp;split<;>omega
theorem Ol {a:T4} (h:MO a):Jp a.s a.l≤4503599627370496:=by have b:=h.1;have c:=h.2;unfold Jp;split<;>omega
theorem Ml {l:List Int} {i:Nat} {n:Int} (a:i<l.length):Ic n (l.drop i)=if n≤1048576 then Ic (n+l.getD i default) (l.drop (i+1)) else n:=by
 rw [drop_eq_getElem_cons a]
 simp only [Ic,getD_eq_getElem?_getD,getElem?_eq_getElem a,Option.getD_some]
theorem Nt {ts:List T4} {j:Nat} (h:j<ts.length):∀i,i<2→∃q,[ts[j].x,ts[j].y][i]? =some q∧(cellsOf ts)[j*2+i]? =some q:=H6 (DP h).1 (DP h).2
theorem Qg (v:Value) (ts:List T4) (w:World) (h:DR w v ts) (F:ts.length≤1125899906842624) (B:∀t ∈ ts,MO t):AN prog 39 [v] w (fun r w' =>r= .int .i64 (Ic (ts.length:Int) (ts.map fun t=>Jp t.s t.l))∧Below w.heap.size w w'):=by
 have f:=h.1
 have H:=f.le
 obtain ⟨T,s⟩:∃T,T=Ic (ts.length:Int) (ts.map fun t=>Jp t.s t.l):=⟨_,rfl⟩
 rw [← s]
 refine A4 (n:=25) func39 O<|Ai<|Ab O<|A3<|Ad O<|Aa (Aq BY O ‹_›) O ?_
 refine Ab O<|A8<|Ab O<|Ak<|Ar ?_
 refine Bu (S:=(Nat×Int)) (fun p=>[(0,v),(3, .int .i64 p.2),(4, .int .i64 (p.1:Int))]) (fun p w' =>p.1≤ts.length∧0≤p.2∧p.2≤1125899906842624+4503599627370496+1048576∧Ic p.2 ((ts.map fun t=>Jp t.s t.l).drop p.1)=T∧Below w.heap.size w w') (fun p=>ts.length - p.1) ((0,(ts.length:Int))) ⟨rfl,rfl,rfl,trivial⟩ ?_ ?_
 ·exact ⟨Nat.zero_le _,by simp only;omega,by simp only;omega,s.symm,Below.refl _ _⟩
 rintro ⟨i,n⟩ z ⟨x,q,u,c,k⟩
 replace x:i≤ts.length:=x
 replace q:0≤n:=q
 replace u:n≤1125899906842624+4503599627370496+1048576:=u
 replace c:Ic n ((ts.map fun t=>Jp t.s t.l).drop i)=T:=c
 have f:=f.bs k
 refine Ap<|Ai<|Ad O<|Ad O<|Aa (Aq BY O ‹_›) O ?_
 refine B8 O<|Ad O ?_
 refine Cc 11 O ?_ ?_
 ·intro g
  have b:i<ts.length:=by have:=AE g;omega
  have D:=Ml (n:=n) (l:=ts.map fun t=>Jp t.s t.l) (i:=i) (by rw [length_map];exact b)
  obtain ⟨a,o⟩:∃a,a=ts[i]:=⟨_,rfl⟩
  have A:(ts.map fun t=>Jp t.s t.l).getD i default=Jp a.s a.l:=by rw [getD_eq_getElem?_getD,getElem?_map,getElem?_eq_getElem b,← o];rfl
  have y:a ∈ ts:=o ▸ getElem_mem b
  have d:=B a y
  have E:=Jw a.s a.l
  have G:=Ol d
  have j:=Nt b
  rw [← o] at j
  rw [D,A] at c
  refine Aj (dj:=11) O O<|Ad O<|Aj (dj:=11) O O<|Aa (Ef O O) O<|Bt O<|Ak<|Am O ?_ ?_
  ·intro e
   have e:n≤1048576:=AE e
   rw [if_pos e] at c
   refine B1<|Ap<|Ar<|A5<|Ad O<|Ad O<|Ad O<|Aa (C6 BY O O f i O b) O<|Aa (Dx (cs:=[a.x,a.y]) (IB _) (Ig _) O f O (by decide) j) O<|Ah O O (RV a z ((h.2 a y).bs k) d.1 d.2) ?_
   rintro _ I ⟨rfl,C⟩
   refine Ca O (by omega)<|Ab O<|A7<|Ba<|Cr<|Ad O<|Ca O (by omega)<|Ab O<|A7 ?_
   exact Ay (Br ((i+1,n+Jp a.s a.l)) ⟨rfl,rfl,rfl,trivial⟩ (⟨b,by simp only;omega,by simp only;omega,c,bt k C⟩) (by simp only;omega))
  intro e
  have e:¬n≤1048576:=AD e
  rw [if_neg e] at c
  exact Bq<|Au<|Au<|Bc<|Cf<|Ad rfl<|Ab rfl<|As<|Al rfl rfl<|⟨by rw [← c],k⟩
 intro g
 have b:i=ts.length:=by have:=AD g;omega
 have m:n=T:=by
  rw [b,drop_of_length_le (by simp)] at c;exact c
 exact Ae (dj:=11) rfl rfl rfl rfl<|Ae (dj:=11) rfl rfl rfl rfl<|Co rfl<|Ak<|F5 rfl<|Bq<|Au<|Au<|Bc<|Cf<|Ad rfl<|Ab rfl<|As<|Al rfl rfl<|⟨by rw [m],k⟩
theorem RU {s:List Int} {l:List (BitVec 32)} {m:Int} (h:Jp s l≤m) (a:m≤1048576):(s.length:Int)+l.length+1≤m:=by unfold Jp at h;split at h<;>omega
theorem Lx:∀{l:List Int} {n m:Int},(∀x ∈ l,x≤m)→0≤m→Ic n l≤max n (1048576+m)
 |[],n,m,_,_=>by simp only [Ic];omega
 |x::l,n,m,h,hm=>by
  unfold Ic
  split
  ·have:=Lx (n:=n+x) (m:=m) (fun y a=>h y (mem_cons_of_mem _ a)) hm
   have:=h x (by simp)
   omega
  ·omega

structure N5.few (a:N5):Prop where
 i:a.i.length≤1125899906842624
 s:a.s.length≤1125899906842624
 n: -9223372036854775808≤a.n∧a.n≤9223372036854775807
 p: -9223372036854775808≤a.p∧a.p≤9223372036854775807
theorem S9 {α:Type} {l:List α} (h:l.length=5):∃a b c d e,l=[a,b,c,d,e]:=by
 match l,h with
 |[a,b,c,d,e],_=>exact ⟨a,b,c,d,e,rfl⟩
theorem S6 {H:Type} {enc:TypeId×Value→H} {w:World} {cs:List Value} (h:In enc prog w EO cs):∃a:N5,cs=a.cells∧N5.at w a∧a.few:=by
 obtain ⟨c,b⟩:=h.struct underlying79
 have x:Tryz.prog.cellsOf EO=5:=by kernel_rfl
 have v:Tryz.prog.cellsOf 70=1:=by kernel_rfl
 have t:Tryz.prog.cellsOf 3=1:=by kernel_rfl
 have B:Tryz.prog.cellsOf 77=1:=by kernel_rfl
 rw [x] at c
 obtain ⟨f,m,A,D,G,rfl⟩:=S9 c
 obtain ⟨k,e⟩:=In.num (BitVec.ofInt 8) b8 (fun _ h=>U2 h) BW (b 0 _ rfl)
 obtain ⟨C,i,d,q,o⟩:=(b 1 _ rfl).slT Oh (by kernel_rfl) (fun cs h=>(In.int Hl h).imp fun _ h=>h.1)
 obtain ⟨E,s,g,u,r⟩:=(b 2 _ rfl).slT Oh (by kernel_rfl) (fun cs h=>(In.int Hl h).imp fun _ h=>h.1)
 obtain ⟨n,j,z⟩:=In.int Hl (b 3 _ rfl)
 obtain ⟨p,l,y⟩:=In.int Hl (b 4 _ rfl)
 have f:Tryz.prog.bytesOf 3=8:=by kernel_rfl
 rw [f] at o r
 simp [v,t,B] at e d g j l
 subst d g e j l
 have F:reachBytes≤140737488355328:=by decide
 exact ⟨⟨k,m,A,i,s,n,p⟩,rfl,⟨q,u⟩,⟨by simp only;omega,by simp only;omega,Qb z,Qb y⟩⟩
theorem M1 {H:Type} {enc:TypeId×Value→H} {w:World}:∀{n:Nat} {xs:List Value},xs.length=n*5→(∀i,i<n→In enc prog w EO ((xs.drop (i*5)).take 5))→
  ∃ls:List N5,ls.length=n∧GI N5.cells ls=xs∧∀a ∈ ls,N5.at w a∧a.few
 |0,xs,hl,_=>by
  obtain rfl:xs=[]:=eq_nil_of_length_eq_zero (by omega)
  exact ⟨[],rfl,rfl,fun t b=>by simp at b⟩
 |n+1,xs,hl,h=>by
  obtain ⟨a,g,d,c⟩:=S6 (h 0 (by omega))
  obtain ⟨ls,f,e,j⟩:=M1 (n:=n) (xs:=xs.drop 5) (by simp;omega) fun i k=>by
   have:=h (i+1) (by omega)
   rwa [drop_drop,show 5+i*5=(i+1)*5 by omega]
  refine ⟨a::ls,by simp [f], ?_,fun t b=> ?_⟩
  ·rw [show GI N5.cells (a::ls)=a.cells++GI N5.cells ls from by simp [GI],e,← g]
   simp
  ·rcases List.mem_cons.1 b with rfl|b
   ·exact ⟨d,c⟩
   ·exact j t b
theorem Rj {H:Type} {enc:TypeId×Value→H} {w:World} {cs:List Value} (h:In enc prog w 22 cs):∃v,cs=[v]∧∃ls:List N5,GN w v ls∧ls.length≤1125899906842624∧∀t ∈ ls,t.few:=by
 obtain ⟨v,n,xs,e,c,g,j⟩:=h.slice U6 (sz:=5) (by kernel_rfl)
 obtain ⟨ls,f,d,b⟩:=M1 c.len j
 subst f d
 have k:reachBytes≤140737488355328:=by decide
 have i:Tryz.prog.bytesOf 79=72:=by kernel_rfl
 rw [i] at g
 exact ⟨v,e,ls,⟨c,fun t a=>(b t a).1⟩,by omega,fun t a=>(b t a).2⟩
theorem Rk {H:Type} {enc:TypeId×Value→H} {w:World} {cs:List Value} (h:In enc prog w 24 cs):∃v,cs=[v]∧∃ls:List N5,GN w v ls∧ls.length≤1125899906842624∧∀t ∈ ls,t.few:=by
 obtain ⟨a,b⟩:=h.struct underlying24
 have e:Tryz.prog.cellsOf 24=1:=by kernel_rfl
 have d:Tryz.prog.cellsOf 22=1:=by kernel_rfl
 rw [e] at a
 have c:In enc prog w 22 ((cs.drop 0).take (Tryz.prog.cellsOf 22)):=b 0 _ rfl
 rw [d,drop_zero,take_of_length_le (by omega)] at c
 exact Rj c
def Jg (a:N5):Int:=if 1+(a.i.length:Int)≤1048576 then 1+(a.i.length:Int)+(a.s.length:Int) else 1+(a.i.length:Int)
theorem J0 (a:N5):1≤Jg a:=by unfold Jg;split<;>omega
theorem L9 {a:N5} (h:a.few):Jg a≤4503599627370496:=by have b:=h.i;have c:=h.s;unfold Jg;split<;>omega
theorem TJ {a:N5} {m:Int} (h:Jg a≤m) (b:m≤1048576):(a.i.length:Int)+a.s.length+1≤m:=by unfold Jg at h;split at h<;>omega
theorem Sp (a:N5) (w:World) (k:N5.at w a) (j:a.few):AN prog 199 [a.v] w (fun r w' =>r= .int .i64 (Jg a)∧Below w.heap.size w w'):=by
 have f:=Below.refl w.heap.size w
 have c:=k.i
 have b:=k.s
 have o:=j.i
 have p:=j.s
 refine A4 (n:=19) func199 O<|Ai<|Cl (cs:=a.cells) O O O ?_
 rintro l w i e d -
 have f:=f.bs d
 have c:=c.bs d
 have b:=b.bs d
 refine Ab O<|A3<|Ab O<|A8<|Ad O<|Aa (Ef O O) O<|Ak<|Cq O true (by decide)<|A5<|Ad O<|A9 underlying79 O (BL _)<|Aa (Ao (AY _) O ‹_› rfl) O ?_
 refine Ah O O (HW a.x a.i _ c) ?_
 rintro _ m ⟨rfl,d⟩
 have f:=f.bs d
 have c:=c.bs d
 have b:=b.bs d
 have e:=e.bs d
 refine Ca O (by omega)<|Ab O<|A8<|Ad O<|Aa (Ef O O) O<|Ak<|Am O ?_ ?_
 ·intro g
  have h:=AE g
  refine A5<|Ad O<|A9 underlying79 O (BL _)<|Aa (Ao (AY _) O ‹_› rfl) O ?_
  refine Ah O O (HW a.y a.s m b) ?_
  rintro _ q ⟨rfl,d⟩
  have f:=f.bs d
  have c:=c.bs d
  have b:=b.bs d
  have e:=e.bs d
  refine Ca O (by omega)<|Ab O<|A3<|Ad O<|Ab O<|As<|Al O O ?_
  exact ⟨by rw [Jg,if_pos h],f⟩
 ·intro g
  have h:=AD g
  exact Ci<|Ad rfl<|Ab rfl<|As<|Al rfl rfl<|⟨by rw [Jg,if_neg h],f⟩
theorem QK (v:Value) (ls:List N5) (w:World) (h:GN w v ls) (F:ls.length≤1125899906842624) (B:∀t ∈ ls,t.few):AN prog 116 [v] w (fun r w' =>r= .int .i64 (Ic (ls.length:Int) (ls.map Jg))∧Below w.heap.size w w'):=by
 have f:=h.1
 have H:=f.le
 obtain ⟨T,s⟩:∃T,T=Ic (ls.length:Int) (ls.map Jg):=⟨_,rfl⟩
 rw [← s]
 refine A4 (n:=25) func116 O<|Ai<|Ab O<|A3<|Ad O<|Aa (Aq BM O ‹_›) O ?_
 refine Ab O<|A8<|Ab O<|Ak<|Ar ?_
 refine Bu (S:=(Nat×Int)) (fun p=>[(0,v),(3, .int .i64 p.2),(4, .int .i64 (p.1:Int))]) (fun p w' =>p.1≤ls.length∧0≤p.2∧p.2≤1125899906842624+4503599627370496+1048576∧Ic p.2 ((ls.map Jg).drop p.1)=T∧Below w.heap.size w w') (fun p=>ls.length - p.1) ((0,(ls.length:Int))) ⟨rfl,rfl,rfl,trivial⟩ ?_ ?_
 ·exact ⟨Nat.zero_le _,by simp only;omega,by simp only;omega,s.symm,Below.refl _ _⟩
 rintro ⟨i,n⟩ z ⟨x,q,u,c,k⟩
 replace x:i≤ls.length:=x
 replace q:0≤n:=q
 replace u:n≤1125899906842624+4503599627370496+1048576:=u
 replace c:Ic n ((ls.map Jg).drop i)=T:=c
 have f:=f.bs k
 refine Ap<|Ai<|Ad O<|Ad O<|Aa (Aq BM O ‹_›) O ?_
 refine B8 O<|Ad O ?_
 refine Cc 11 O ?_ ?_
 ·intro g
  have b:i<ls.length:=by have:=AE g;omega
  have D:=Ml (n:=n) (l:=ls.map Jg) (i:=i) (by rw [length_map];exact b)
  obtain ⟨a,o⟩:∃a,a=ls[i]:=⟨_,rfl⟩
  have A:(ls.map Jg).getD i default=Jg a:=by rw [getD_eq_getElem?_getD,getElem?_map,getElem?_eq_getElem b,← o];rfl
  have y:a ∈ ls:=o ▸ getElem_mem b
  have e:=B a y
  have E:=J0 a
  have G:=L9 e
  have j:=h.cells b
  rw [← o] at j
  rw [D,A] at c
  refine Aj (dj:=11) O O<|Ad O<|Aj (dj:=11) O O<|Aa (Ef O O) O<|Bt O<|Ak<|Am O ?_ ?_
  ·intro d
   have d:n≤1048576:=AE d
   rw [if_pos d] at c
   refine B1<|Ap<|Ar<|A5<|Ad O<|Ad O<|Ad O<|Aa (C6 BM O O f i O b) O<|Aa (Dx (cs:=a.cells) (Hc _) (GY _) O f O (by decide) j) O<|Ah O O (Sp a z ((h.each a y).bs k) e) ?_
   rintro _ I ⟨rfl,C⟩
   refine Ca O (by omega)<|Ab O<|A7<|Ba<|Cr<|Ad O<|Ca O (by omega)<|Ab O<|A7 ?_
   exact Ay (Br ((i+1,n+Jg a)) ⟨rfl,rfl,rfl,trivial⟩ (⟨b,by simp only;omega,by simp only;omega,c,bt k C⟩) (by simp only;omega))
  intro d
  have d:¬n≤1048576:=AD d
  rw [if_neg d] at c
  exact Bq<|Au<|Au<|Bc<|Cf<|Ad rfl<|Ab rfl<|As<|Al rfl rfl<|⟨by rw [← c],k⟩
 intro g
 have b:i=ls.length:=by have:=AD g;omega
 have m:n=T:=by
  rw [b,drop_of_length_le (by simp)] at c;exact c
 exact Ae (dj:=11) rfl rfl rfl rfl<|Ae (dj:=11) rfl rfl rfl rfl<|Co rfl<|Ak<|F5 rfl<|Bq<|Au<|Au<|Bc<|Cf<|Ad rfl<|Ab rfl<|As<|Al rfl rfl<|⟨by rw [m],k⟩
def Rl (ls:List N5):Int:=1+Ic (ls.length:Int) (ls.map Jg)
theorem S8 (v:Value) (ls:List N5) (w:World) (h:GN w v ls) (j:ls.length≤1125899906842624) (g:∀t ∈ ls,t.few):AN prog 23 [.agg [v].toArray] w (fun r w' =>r= .int .i64 (Rl ls)∧Below w.heap.size w w'):=by
 have d:=Below.refl w.heap.size w
 have o:=Lx (l:=ls.map Jg) (n:=(ls.length:Int)) (m:=4503599627370496) (fun x e=>by
  obtain ⟨a,i,rfl⟩:=List.mem_map.1 e
  exact L9 (g a i)) (by decide)
 have p:=GM (l:=ls.map Jg) (n:=(ls.length:Int)) (fun x e=>by
  obtain ⟨a,i,rfl⟩:=List.mem_map.1 e
  have:=J0 a;omega)
 refine A4 (n:=12) func23 O<|Ai<|Cl (cs:=[v]) O O O ?_
 rintro k w f c b -
 have d:=d.bs b
 have h:=h.bs b
 refine Ab O<|A3<|Ab O<|A8<|Ad O<|Aa (Ef O O) O<|Ak<|Cq O true (by decide)<|A5<|Ad O<|A9 underlying24 O (CB _)<|Aa (Ao (DQ _) O ‹_› rfl) O ?_
 refine Ah O O (QK v ls _ h j g) ?_
 rintro _ q ⟨rfl,b⟩
 have d:=d.bs b
 have h:=h.bs b
 have c:=c.bs b
 refine Ca O (by omega)<|Ab O<|A3<|Ad O<|Ab O<|As<|Al O O ?_
 exact ⟨rfl,d⟩
end Go.Proofs.YtblbopcaflaldaaGreatDoor

namespace Go.Proofs.YtblbopcaflaldaaGreatDoor
open Go Go.Dd Go.RowKit List Go.Proofs.Tryz
set_option maxRecDepth 100000
theorem Ib {α:Type} {w:World} {B c:Nat} {T:TypeId} {enc:α→Value} {a v:Value} {l:List α} (h:Go.Dd.Twn w B T enc a v l) (f:c≤B):Go.Dd.Twn w c T enc a v l:=by
 obtain ⟨b,cap,e,d⟩:=h
 exact ⟨b,cap,e,CR d f⟩
theorem Lv {α:Type} {w w' :World} {B:Nat} {r:Option Nat} {T:TypeId} {enc:α→Value} {a v:Value} {l:List α} (h:Go.Dd.Twn w B T enc a v l) (f:w.grownBy w' r) (d:v.ownBlock≠r):Go.Dd.Twn w' B T enc a v l:=by
 obtain ⟨b,cap,rfl,c⟩:=h
 exact ⟨b,cap,rfl,c.kept f (.inr fun e=>d e)⟩
abbrev tI (w:World) (B:Nat) (v:Value) (l:List Int):Prop:=Go.Dd.Twn w B 3 (Value.int .i64) (Value.int .i64 77) v l
structure CU (w:World) (lo hi:Nat) (x y:Value) (a:N5):Prop where
 tx:tI w lo x a.i
 ty:tI w lo y a.s
 bx:∀b,x.ownBlock=some b→lo≤b∧b<hi
 by' :∀b,y.ownBlock=some b→lo≤b∧b<hi
 apart:∀b,x.ownBlock=some b→y.ownBlock≠some b
theorem CU.bs {w w' :World} {b c:Nat} {x y:Value} {a:N5} (h:CU w b c x y a) (g:Below w.heap.size w w'):CU w' b c x y a:=⟨h.tx.bs g,h.ty.bs g,h.bx,h.by',h.apart⟩
theorem CU.at {w:World} {b c:Nat} {x y:Value} {a:N5} (h:CU w b c x y a) (k:BitVec 8) (n p:Int):N5.at w ⟨k,x,y,a.i,a.s,n,p⟩:=⟨h.tx.sl,h.ty.sl⟩
theorem CU.by {w w' :World} {c b r:Nat} {x y:Value} {a:N5} (h:CU w c b x y a) (g:w.grownBy w' (some r)) (d:b≤r):CU w' c b x y a:=
 ⟨Lv h.tx g fun e=>by have:=h.bx _ e;omega,Lv h.ty g fun e=>by have:=h.by' _ e;omega,h.bx,h.by',h.apart⟩
theorem R9 (k:BitVec 8) (x y:Value) (n p:Int) (f:x.cells=[x].toArray) (c:y.cells=[y].toArray):Tryz.prog.built EO [(0,b8 k),(1,x),(2,y),(3, .int .i64 n),(4, .int .i64 p)]=some [b8 k,x,y, .int .i64 n, .int .i64 p].toArray:=by
 have d:Tryz.prog.info? EO=some Tryz.t79:=by kernel_rfl
 have a:Tryz.prog.info? 3=some Tryz.t3:=by kernel_rfl
 have e:Tryz.prog.info? 77=some Tryz.t77:=by kernel_rfl
 have b:Tryz.prog.info? 70=some Tryz.t70:=by kernel_rfl
 simp [Program.built,d,underlying79,a,e,b,Instr.fill,f,c]
 rfl
theorem No (a:N5) (W:World) (E:N5.at W a) (Q:a.i.length≤4194304) (N:a.s.length≤4194304):
  AN prog 200 [a.v] W (fun r w' =>Below W.heap.size W w' ∧∃x y,r=(N5.mk a.k x y a.i a.s a.n a.p).v∧CU w' W.heap.size w'.heap.size x y a):=by
 have p:=Below.refl W.heap.size W
 have o:=E.i
 have m:=E.s
 refine A4 (n:=16) func200 O<|Ai<|Cl (cs:=a.cells) O O O ?_
 rintro B w G c f -
 have p:=p.bs f
 have o:=o.bs f
 have m:=m.bs f
 have U:=AW c
 have T:=AA p
 refine Da EE O ?_
 rintro t Y F v f I
 have p:=p.bs f
 have o:=o.bs f
 have m:=m.bs f
 have c:=c.bs f
 have Z:=AA p
 have yr:=AW v
 refine Ak<|Ap ?_
 refine Cw.any mixed (fun w j _=> ?_)
 have c:=c.bs j
 refine C5 (fun w' =>AP w' B EO a.cells) (fun S=> ?_) (c)
 have z:=v
 refine Bz (Av Bh)<|Af 0 O (fun l g=>Ch underlying79 O (FK _)) O<|Af 1 O (fun l g=>Ao (He _) O g O) O<|Af 2 O (fun l g=>Ch underlying79 O (BL _)) O<|Af 3 O (fun l g=>Ao (AY _) O g O) O<|Af 5 O (fun l g=>Ch underlying79 O (BL _)) O<|Af 6 O (fun l g=>Ao (AY _) O g O) O<|Af 8 O (fun l g=>Ch underlying79 O (BZ _)) O<|Af 9 O (fun l g=>Ao (BD _) O g O) O<|Af 10 O (fun l g=>Ch underlying79 O (BZ _)) O<|Af 11 O (fun l g=>Ao (BD _) O g O) O<|Bj ?_
 refine AK.only ‹_› (i:=4) (by kernel_rfl) O ?_
 refine Ah O O (FA a.x a.i w (o.bs j) Q) ?_
 rintro x l ⟨d,f⟩
 have zc:=j.size
 have j:=bt j f
 have c:=c.bs f
 have q:=fun b A=>AB d.own b A
 refine AK.back<|AK.only ‹_› (i:=7) (by kernel_rfl) O ?_
 refine Ah O O (FA a.y a.s l (m.bs j) N) ?_
 rintro y w2 ⟨h,f⟩
 have R:=j.size
 have d:=d.bs f
 have M:=f.size
 have j:=bt j f
 have c:=c.bs f
 have H:=j.size
 have s:=fun b A=>AB h.own b A
 refine AK.back<|Bz (Av Bh)<|Af 12 O (fun l g=>Bi (cs:=[b8 a.k,x,y, .int .i64 a.n, .int .i64 a.p]) O (R9 a.k x y a.n a.p d.sl.one h.sl.one)) O<|Bj<|AK.only ‹_› (i:=13) (by kernel_rfl) O ?_
 refine A6 (Ck (cs:=[b8 a.k,x,y, .int .i64 a.n, .int .i64 a.p]) (k:=5) (by kernel_rfl) O O O (by rw [all_cons,all_cons,all_cons,d.sl.one',h.sl.one'];rfl) (z.bs j) O) ?_
 rintro C ⟨D,u,V⟩
 have L:=(bt p j).grown u (AA (bt p j)) (by rintro _ ⟨⟩;omega)
 have X:=u.size
 have c:=c.by u (by rintro ⟨⟩;omega)
 have d:=Lv d u fun e=>by have:=q t e;omega
 have h:=Lv h u fun e=>by have:=s t e;omega
 have J:CU C W.heap.size C.heap.size x y a:=⟨Ib d (by omega),Ib h (by omega),fun b e=>by have:=q b e;omega,fun b e=>by have:=s b e;omega,fun b e K=>by have:=q b e;have:=s b K;omega⟩
 refine AK.back<|AK.done ‹_› (by kernel_rfl) ?_
 refine Ay<|B9<|Dq<|D9 O O ‹_› underlying79 O O O ?_
 exact ⟨L,x,y,rfl,J⟩
end Go.Proofs.YtblbopcaflaldaaGreatDoor

namespace Go.Proofs.YtblbopcaflaldaaGreatDoor
open Go Go.Dd Go.RowKit List
set_option maxRecDepth 100000


abbrev IQ (v:Value) (k:Nat) (xs:List Value) (n:Int):Hd:=⟨v,k,xs,n, .slice none 0 0⟩
structure Bm (w:World) (lo A:Nat) (n:Int) (hb hi hn ht hd:List Hd) (ub ui un ut ud:Value):Prop where
 box:AP w A Te [.int .i64 n,ub,ui,un, .slice none 0 0, .slice none 0 0,ut,ud, .slice none 0 0, .slice none 0 0, .slice none 0 0, .slice none 0 0, .slice none 0 0, .slice none 0 0, .slice none 0 0, .slice none 0 0]
 ob:w.ownsRow lo 179 3 ub hb.length (CY hb)
 oi:w.ownsRow lo 182 3 ui hi.length (CY hi)
 on:w.ownsRow lo 185 3 un hn.length (CY hn)
 ot:w.ownsRow lo 194 3 ut ht.length (CY ht)
 od:w.ownsRow lo 197 3 ud hd.length (CY hd)
 loA:lo≤A
 q_b:ub.ownBlock≠some A
 q_i:ui.ownBlock≠some A
 q_n:un.ownBlock≠some A
 q_t:ut.ownBlock≠some A
 q_d:ud.ownBlock≠some A
 p_bi:IF ub ui
 p_bn:IF ub un
 p_bt:IF ub ut
 p_bd:IF ub ud
 p_in:IF ui un
 p_it:IF ui ut
 p_id:IF ui ud
 p_nt:IF un ut
 p_nd:IF un ud
 p_td:IF ut ud
 many:((hb.length+hi.length+hn.length+ht.length+hd.length:Nat):Int)=n
theorem Bm.size {w:World} {a A:Nat} {n:Int} {i j k f b:List Hd} {c g un e d:Value} (h:Bm w a A n i j k f b c g un e d):a<w.heap.size:=Nat.lt_of_le_of_lt h.loA (AW h.box)
theorem Bm.bs {w w' :World} {j A:Nat} {n:Int} {i k l e a:List Hd} {b f un d c:Value} (h:Bm w j A n i k l e a b f un d c) (g:Below w.heap.size w w'):Bm w' j A n i k l e a b f un d c:=
 ⟨h.box.bs g,AF h.ob g,AF h.oi g,AF h.on g,AF h.ot g,AF h.od g,h.loA,h.q_b,h.q_i,h.q_n,h.q_t,h.q_d,h.p_bi,h.p_bn,h.p_bt,h.p_bd,h.p_in,h.p_it,h.p_id,h.p_nt,h.p_nd,h.p_td,h.many⟩
theorem Bm.low {w w' :World} {a A:Nat} {n:Int} {m p q k c:List Hd} {d l un g f u:Value} (h:Bm w a A n m p q k c d l un g f) (j:∀b,u.ownBlock=some b→a≤b) (o:FW (fun b=>b=A∨u.ownBlock=some b) w w'):Below a w w' :=o.to_below (fun b i=>by
 rcases i with rfl|e
 ·exact h.loA
 ·exact j b e) (Nat.le_of_lt h.size)



def Vw (n:Int):List T4→List Hd
 |[]=>[]
 |t::ts=>IQ t.x t.s.length (t.s.map (Value.int .i64)) (n+1)::Vw (n+2) ts
def Vv (n:Int):List T4→List Hd
 |[]=>[]
 |t::ts=>IQ t.y t.l.length (t.l.map i32) (n+2)::Vv (n+2) ts
def T4.low (lo:Nat) (t:T4):Prop:=(∀b,t.x.ownBlock=some b→b<lo)∧∀b,t.y.ownBlock=some b→b<lo
theorem II {w w' :World} {a sz n:Nat} {v:Value} {xs:List Value} (h:Sl w sz v n xs) (c:∀b,v.ownBlock=some b→b<a) (g:Below a w w'):Sl w' sz v n xs:=h.keep fun b _ e=>g.block b (c b e)
def Th (w:World) (v:Value) (ts:List T4):Prop:=Sl w 2 v ts.length (cellsOf ts)∧∀t ∈ ts,t.at w
theorem Qk {w w' :World} {a:Nat} {v:Value} {ts:List T4} (h:Th w v ts) (d:∀b,v.ownBlock=some b→b<a) (c:∀t ∈ ts,t.low a) (g:Below a w w'):Th w' v ts:=
 ⟨II h.1 d g,fun t m=>⟨II (h.2 t m).1 (c t m).1 g,II (h.2 t m).2 (c t m).2 g⟩⟩
theorem JF {ts:List T4} {j:Nat} (h:j<ts.length):∀i,i<2→∃q,[ts[j].x,ts[j].y][i]? =some q∧(cellsOf ts)[j*2+i]? =some q:=fun i c=>by
 obtain ⟨a,b⟩:=DP h
 rcases (show i=0∨i=1 by omega) with rfl|rfl
 ·exact ⟨_,rfl,a⟩
 ·exact ⟨_,rfl,b⟩
end Go.Proofs.YtblbopcaflaldaaGreatDoor

namespace Go.Proofs.YtblbopcaflaldaaGreatDoor
open Go Go.Dd Go.RowKit Go.Proofs.Tryz
open List hiding all
set_option maxRecDepth 100000
theorem L7 {w:World} {base sz n b:Nat} {e:TypeId} {v:Value} {xs:List Value} (h:w.ownsRow base e sz v n xs) (a:v.ownBlock=some b):∃cs,AP w b e cs:=AQ.ty (.inl h) a
theorem Kh {w w' :World} {base a:Nat} {e T:TypeId} {sz d n m:Nat} {v q:Value} {xs k:List Value} (h:AQ w base e sz v n xs) (j:AQ w a T d q m k) (c:e≠T) (g:w.grownBy w' q.ownBlock):AQ w' base e sz v n xs:=by
 cases hq:q.ownBlock with
 |none=>rw [hq] at g;exact h.bs (EG g (AU _) fun _ e=>by cases e)
 |some A=>
  rw [hq] at g
  obtain ⟨cs,l⟩:=j.ty hq
  refine h.heap fun b f=>g.block b (h.lt b f).2 fun o=> ?_
  cases o
  obtain ⟨ds,i⟩:=h.ty f
  exact c (AX i l)
theorem KQ {w w' :World} {base a:Nat} {e T:TypeId} {sz c n m:Nat} {v q:Value} {xs i:List Value} (h:w.ownsRow base e sz v n xs) (f:AQ w a T c q m i) (b:e≠T) (g:w.grownBy w' q.ownBlock):w'.ownsRow base e sz v n xs:=by
 cases hq:q.ownBlock with
 |none=>rw [hq] at g;exact AF h (EG g (AU _) fun _ e=>by cases e)
 |some A=>
  rw [hq] at g
  obtain ⟨cs,j⟩:=f.ty hq
  refine h.kept g (.inr fun k=> ?_)
  obtain ⟨ds,d⟩:=L7 h k
  exact b (AX d j)
def Na (w:World) (base:Nat) (T:TypeId) (sz:Nat) (r:Value) (n:Nat) (cells mk:List Value):Prop:=
 ∃b cap,r= .slice (some ⟨b,0,none⟩) n cap∧w.ownsRow base T sz (.slice (some ⟨b,0,none⟩) (n+1) cap) (n+1) (cells++mk)
theorem Na.bs {w w' :World} {base:Nat} {T:TypeId} {sz:Nat} {r:Value} {n:Nat} {a mk:List Value} (h:Na w base T sz r n a mk) (g:Below w.heap.size w w'):Na w' base T sz r n a mk:=by
 obtain ⟨b,cap,e,c⟩:=h
 exact ⟨b,cap,e,AF c g⟩
theorem Tc {b n m cap sz:Nat}:cut (.slice (some ⟨b,0,none⟩) m cap) sz 0 n= .slice (some ⟨b,0,none⟩) n cap:=by
 show Value.slice (if cap=0 then _ else Option.map _ _) (n - 0) (cap - 0)=_
 have a:(if cap=0 then some (⟨b,0,none⟩:Addr) else (some (⟨b,0,none⟩:Addr)).map (·.add (0*sz)))=some ⟨b,0,none⟩:=by
  split
  ·rfl
  ·simp [add_lit]
 rw [a];rfl
theorem Oj {w:World} {base:Nat} {T:TypeId} {sz:Nat} {v:Value} {n:Nat} {a mk:List Value} (h:w.ownsRow base T sz v (n+1) (a++mk)):Na w base T sz (cut v sz 0 n) n a mk:=by
 have d:=h
 rcases h.2 with ⟨_,e⟩|⟨b,cap,c,rfl,_⟩
 ·omega
 ·exact ⟨b,cap,Tc,d⟩
theorem Na.own {w:World} {base:Nat} {T:TypeId} {sz:Nat} {r:Value} {n:Nat} {a mk:List Value} (h:Na w base T sz r n a mk) (d:a.length=n*sz):w.ownsRow base T sz r n a:=by
 obtain ⟨b,cap,rfl,c⟩:=h
 have:=QD c (Nat.le_succ n)
 rw [take_append_of_le_length (by omega),take_of_length_le (by omega),Tc] at this
 exact this
theorem Twn.awayS {α:Type} {w w' :World} {B c:Nat} {e T:TypeId} {enc:α→Value} {a v q:Value} {l:List α} {f m:Nat} {k:List Value} (h:Twn w B e enc a v l) (i:AQ w c T f q m k) (d:e≠T) (g:w.grownBy w' q.ownBlock):Twn w' B e enc a v l:=by
 obtain ⟨b,cap,rfl,j⟩:=h
 exact ⟨b,cap,rfl,KQ j i d g⟩
theorem EY.awayS {w w' :World} {e f a:Nat} {T:TypeId} {q:Value} {b m:Nat} {i:List Value} {c:T4} (h:EY w e f c) (d:AQ w a T b q m i) (k:3≠T) (j:21≠T) (g:w.grownBy w' q.ownBlock):EY w' e f c:=
 ⟨Kh h.rx d k g,Kh h.ry d j g,h.bx,h.by',h.apart⟩
theorem DL.awayS {w w' :World} {i j a:Nat} {T:TypeId} {q x y:Value} {d m:Nat} {k:List Value} {c:T4} (h:DL w i j x y c) (b:AQ w a T d q m k) (f:3≠T) (e:21≠T) (g:w.grownBy w' q.ownBlock):DL w' i j x y c:=
 ⟨h.held.awayS b f e g,Twn.awayS h.tx b f g,Twn.awayS h.ty b e g⟩
theorem DL.wide {w:World} {e f a b:Nat} {x y:Value} {c:T4} (h:DL w e f x y c) (d:a≤e) (g:f≤b):DL w a b x y c:=
 ⟨h.held.wide d g,Twn.mono h.tx d,Twn.mono h.ty d⟩
theorem AM.awayS {w w' :World} {a:Nat} {T:TypeId} {q:Value} {c m:Nat} {i:List Value} (d:AQ w a T c q m i) (f:3≠T) (e:21≠T) (g:w.grownBy w' q.ownBlock):∀{cs:List T4} {base b:Nat},AM w base b cs→AM w' base b cs
 |[],_,_,h=>h
 |_::_,_,_,⟨lo,hi,q1,q2,q3,q4⟩=>⟨lo,hi,q1,q2,q3.awayS d f e g,AM.awayS d f e g q4⟩
theorem AM.snoc {w:World} {c:T4} {b d:Nat} (f:EY w b d c) (e:b≤d):∀{cs:List T4} {base a:Nat},AM w base a cs→a≤b→AM w base d (cs++[c])
 |[],_,_,h,ht=>⟨b,d,Nat.le_trans h ht,e,f,AU _⟩
 |_::_,_,_,⟨l1,h1,q1,q2,q3,q4⟩,ht=>⟨l1,h1,q1,q2,q3,AM.snoc f e q4 ht⟩
theorem AM.top {w:World} {b:Nat}:∀{cs:List T4} {base a:Nat},AM w base a cs→a≤b→AM w base b cs
 |[],_,_,h,ht=>Nat.le_trans h ht
 |_::_,_,_,⟨l1,h1,q1,q2,q3,q4⟩,ht=>⟨l1,h1,q1,q2,q3,AM.top q4 ht⟩
theorem GU:∀us:List T4,(cellsOf us).length=us.length*2
 |[]=>rfl
 |_::us=>by simp only [cellsOf,length_cons,GU us];omega
theorem Qt {w:World} {sz n:Nat} {v:Value} {xs:List Value} (h:Sl w sz v n xs):∃a k c,v= .slice a k c:=by
 obtain ⟨_,a,cap,rfl,_⟩:=h
 exact ⟨a,n,cap,rfl⟩
def vl (t:T4):List Int×List (BitVec 32):=(t.s,t.l)
structure CT (w:World) (lo hi:Nat) (r:Value) (us:List T4):Prop where
 all:AM w lo hi us
 tw:∀c ∈ us,DL w lo hi c.x c.y c
 m:∃m,Na w lo 75 2 r us.length (cellsOf us) [m, .slice none 0 0]∧BE (Value.int .i64) w m [77]
 rb:∀b,r.ownBlock=some b→lo≤b∧b<hi
theorem CT.bs {w w' :World} {a b:Nat} {r:Value} {us:List T4} (h:CT w a b r us) (g:Below w.heap.size w w'):CT w' a b r us:=
 ⟨h.all.bs g,fun c f=>(h.tw c f).bs g,by obtain ⟨m,e,d⟩:=h.m;exact ⟨m,e.bs g,d.bs g⟩,h.rb⟩
theorem CT.own {w:World} {a c:Nat} {r:Value} {us:List T4} (h:CT w a c r us):w.ownsRow a 75 2 r us.length (cellsOf us):=by
 obtain ⟨m,b,_⟩:=h.m
 exact b.own (GU us)
theorem CT.tens {w:World} {a d:Nat} {r:Value} {us:List T4} (h:CT w a d r us):DR w r us:=⟨AG h.own,fun c b=>(h.tw c b).held.at⟩
theorem SH (x:Value) (f:∃a n c,x= .slice a n c):Tryz.prog.built 75 [(0,x)]=some [x, .slice none 0 0].toArray:=by
 obtain ⟨a,n,c,rfl⟩:=f
 have d:Tryz.prog.info? 75=some Tryz.t75:=rfl
 have b:Tryz.prog.info? 70=some Tryz.t70:=rfl
 have e:Tryz.prog.info? 73=some Tryz.t73:=rfl
 simp [Program.built,d,underlying75,b,e,Instr.fill,Value.cells]
 rfl
theorem Ns {ts:List T4} {j:Nat} (h:j<ts.length):∀i,i<2→∃q,[ts[j].x,ts[j].y][i]? =some q∧(cellsOf ts)[j*2+i]? =some q:=H6 (DP h).1 (DP h).2
theorem LQ (a b:List T4):cellsOf (a++b)=cellsOf a++cellsOf b:=by
 induction a with
 |nil=>rfl
 |cons x a ih=>simp only [cons_append,cellsOf,ih]
theorem OW (v:Value) (ts:List T4) (W:World) (h:DR W v ts) (hb:∀t ∈ ts,t.s.length≤4194304∧t.l.length≤4194304) (hl:ts.length≤2097152):
  AN prog 40 [v] W (fun r w' =>Below W.heap.size W w' ∧∃us,CT w' W.heap.size w'.heap.size r us∧us.map vl=ts.map vl):=by
 have sv:=h.1
 refine A4 (n:=31) func40 O<|Ai<|Ab O<|A3<|Ad O<|Aa (Aq BY O ‹_›) O ?_
 refine Ca O (by omega)<|An (Ej (l:=0) (c:=ts.length+1) BY GF O O O (by omega) (by omega) (by omega)) O ?_
 rintro r0 w1 ⟨e, -,B, -⟩
 replace e:w1.ownsRow W.heap.size 75 2 r0 0 []:=e
 refine Ab O<|A8<|Ab O<|Ak<|Ar ?_
 refine Bu (S:=(Nat×Value×List T4)) (fun z=>[(0,v),(3,z.2.1),(4, .int .i64 (z.1:Int))]) (fun z w' =>z.1≤ts.length∧Below W.heap.size W w' ∧w'.ownsRow W.heap.size 75 2 z.2.1 z.1 (cellsOf z.2.2)∧AM w' W.heap.size w'.heap.size z.2.2∧(∀c ∈ z.2.2,DL w' W.heap.size w'.heap.size c.x c.y c)∧z.2.2.map vl=(ts.take z.1).map vl) (fun z=>ts.length - z.1) ((0,r0,[])) ⟨rfl,rfl,rfl,trivial⟩ ?_ ?_
 ·exact ⟨Nat.zero_le _,B,e,B.size,fun _ k=>absurd k not_mem_nil,rfl⟩
 clear e B
 rintro ⟨i,r,us⟩ w ⟨hi,B,e,X,V,K⟩
 replace hi:i≤ts.length:=hi
 replace e:w.ownsRow W.heap.size 75 2 r i (cellsOf us):=e
 replace X:AM w W.heap.size w.heap.size us:=X
 replace V:∀c ∈ us,DL w W.heap.size w.heap.size c.x c.y c:=V
 replace K:us.map vl=(ts.take i).map vl:=K
 have Q:=sv.bs B
 have z2:=B.size
 have lus:us.length=i:=by have:=cngA length K;rw [length_map,length_map,length_take] at this;omega
 refine Ap<|Ai<|Ad O<|Ad O<|Aa (Aq BY O ‹_›) O ?_
 refine B8 O<|Ak<|Am O ?_ ?_
 ·intro g
  have o:i<ts.length:=by have:=AE g;omega
  obtain ⟨a,ha⟩:∃a,a=ts[i]:=⟨_,rfl⟩
  have F:a ∈ ts:=ha ▸ getElem_mem o
  have L:=Ns o
  rw [← ha] at L
  refine B1<|Ap<|Ar<|A5<|Ad O<|Ad O<|Ad O<|Aa (C6 BY O O Q i O o) O<|Aa (Dx (cs:=[a.x,a.y]) (IB _) (Ig _) O Q O (by decide) L) O<|Ah O O (RT a w ((h.2 a F).bs B) (hb a F).1 (hb a F).2) ?_
  rintro _ U ⟨b,x,y,rfl,M⟩
  have I:=bt B b
  have q:=AF e b
  have H3:=X.bs b
  have T3:∀c ∈ us,DL U W.heap.size w.heap.size c.x c.y c:=fun c k=>(V c k).bs b
  have z3:=b.size
  refine An (Eb (cs:=[x,y]) BY GF O O (by decide) (by decide)) O ?_
  rintro p J ⟨H, -,b, -⟩
  have s:=bt I b
  have f:=AF q b
  have H4:=H3.bs b
  have G:∀c ∈ us,DL J W.heap.size w.heap.size c.x c.y c:=fun c k=>(T3 c k).bs b
  have M:=M.bs b
  have z4:=b.size
  have ox:=M.held.at.one
  refine An (Bv (base:=W.heap.size) BY GF O (by decide) O O f (AG H) ox (by omega) (by omega) s.size) O ?_
  rintro Y u ⟨d,b,C, -⟩
  have A:=s.trans b
  have z5:=b.size
  have e1:cellsOf (us++[⟨x,y,a.s,a.l⟩])=cellsOf us++[x,y]:=by rw [LQ];rfl
  rw [← e1] at d
  have D:AQ J W.heap.size 75 2 r i (cellsOf us):= .inl f
  have T5:∀c ∈ us++[⟨x,y,a.s,a.l⟩],DL u W.heap.size u.heap.size c.x c.y c:=by
   intro c k
   rcases List.mem_append.1 k with k|k
   ·exact ((G c k).awayS D (by decide) (by decide) C).wide (AU _) (by omega)
   ·rw [List.mem_singleton.1 k]
    exact (show DL J w.heap.size U.heap.size x y (⟨x,y,a.s,a.l⟩:T4) from ⟨M.held,M.tx,M.ty⟩).awayS D (by decide) (by decide) C|>.wide z2 (by omega)
  have H5:AM u W.heap.size u.heap.size (us++[⟨x,y,a.s,a.l⟩]):=AM.top (AM.snoc (M.held.awayS D (by decide) (by decide) C) z3 (H4.awayS D (by decide) (by decide) C) (AU _)) (by omega)
  have Z:(us++[(⟨x,y,a.s,a.l⟩:T4)]).map vl=(ts.take (i+1)).map vl:=by
   rw [map_append,K,take_succ_eq_append_getElem o,map_append,← ha];rfl
  refine Ab O<|A7<|Ba<|Cr<|Ad O<|Ca O (by omega)<|Ab O<|A7 ?_
  exact Ay (Br ((i+1,Y,us++[⟨x,y,a.s,a.l⟩])) ⟨rfl,rfl,rfl,trivial⟩ (⟨o,A,d,H5,T5,Z⟩) (by simp only;omega))
 intro g
 have o:i=ts.length:=by have:=AD g;omega
 rw [o,take_length] at K
 refine Bq<|Au<|Au<|Bc<|Cf<|Ad O<|An (B7 (vs:=[(77:Int)].map (Value.int .i64)) AH DH O O O O O) O ?_
 rintro m U ⟨E, -,b, -⟩
 have I:=bt B b
 have q:=AF e b
 have H3:=X.bs b
 have T3:∀c ∈ us,DL U W.heap.size w.heap.size c.x c.y c:=fun c k=>(V c k).bs b
 have z3:=b.size
 refine Aa (Bi (vs:=[(0,m)]) (cs:=[m, .slice none 0 0]) O (SH m (Qt (AG E)))) O<|An (Eb (cs:=[m, .slice none 0 0]) BY GF O O (by decide) (by decide)) O ?_
 rintro p J ⟨H, -,b, -⟩
 have s:=bt I b
 have f:=AF q b
 have T:=AF E b
 have H4:=H3.bs b
 have G:∀c ∈ us,DL J W.heap.size w.heap.size c.x c.y c:=fun c k=>(T3 c k).bs b
 have z4:=b.size
 refine An (Bv (base:=W.heap.size) BY GF O (by decide) O O f (AG H) (by rw [all_cons,(AG E).one'];rfl) (by omega) (by omega) s.size) O ?_
 rintro Y u ⟨d,b,C, -⟩
 have A:=s.trans b
 have z5:=b.size
 have D:AQ J W.heap.size 75 2 r i (cellsOf us):= .inl f
 have N:=KQ T D (by decide) C
 have T5:∀c ∈ us,DL u W.heap.size u.heap.size c.x c.y c:=fun c k=>((G c k).awayS D (by decide) (by decide) C).wide (AU _) (by omega)
 have H5:AM u W.heap.size u.heap.size us:=AM.top (H4.awayS D (by decide) (by decide) C) (by omega)
 have R:=AG d
 rw [show i+1=us.length+1 by omega] at d
 have hS:=Oj d
 have sv5:=sv.bs A
 have hR:CT u W.heap.size u.heap.size (cut Y 2 0 us.length) us:=⟨H5,T5,⟨m,hS,AL N⟩,AB (hS.own (GU us))⟩
 rw [show us.length=ts.length by omega] at hR
 refine Ad O<|Aa (Aq BY O ‹_›) O ?_
 refine Aa (El (j:=ts.length) BY O O R (by omega)) O<|Ab O<|As<|Al O O ?_
 exact ⟨A,us,hR,K⟩
end Go.Proofs.YtblbopcaflaldaaGreatDoor

namespace Go.Proofs.YtblbopcaflaldaaGreatDoor
open Go Go.Dd Go.RowKit List
set_option maxRecDepth 100000
structure PX (w:World) (lo hi:Nat) (E:TypeId) (sz:Nat) (hs:List Hd):Prop where
 kept:K2 w lo E sz hs
 top:∀b,Jt hs b→b<hi
theorem PX.low {w:World} {c d:Nat} {E:TypeId} {sz:Nat} {a:List Hd} (h:PX w c d E sz a) {b:Nat} (e:Jt a b):c≤b:=(h.kept.blk e).1
theorem PX.below {w w' :World} {d a B:Nat} {E:TypeId} {sz:Nat} {c:List Hd} (h:PX w d a E sz c) (g:Below B w w') (i:a≤B):PX w' d a E sz c:=
 ⟨⟨h.kept.toKOk,fun x f=>(h.kept.own x f).heap fun b e=>g.block b (by have:=h.top b ⟨x,f,e⟩;omega)⟩,h.top⟩
theorem PX.bs {w w' :World} {b c:Nat} {E:TypeId} {sz:Nat} {a:List Hd} (h:PX w b c E sz a) (g:Below w.heap.size w w'):PX w' b c E sz a:=⟨h.kept.bs g,h.top⟩

theorem CU.below {w w' :World} {d i B:Nat} {x y:Value} {a:N5} (h:CU w d i x y a) (g:Below B w w') (l:i≤B):CU w' d i x y a:=by
 have k:tI w' d x a.i:=by
  obtain ⟨b,cap,rfl,f⟩:=h.tx
  exact ⟨b,cap,rfl,AR f fun c e=>g.block c (by have:=h.bx c (by simpa [Value.ownBlock] using e);omega)⟩
 have j:tI w' d y a.s:=by
  obtain ⟨b,cap,rfl,f⟩:=h.ty
  exact ⟨b,cap,rfl,AR f fun c e=>g.block c (by have:=h.by' c (by simpa [Value.ownBlock] using e);omega)⟩
 exact ⟨k,j,h.bx,h.by',h.apart⟩
end Go.Proofs.YtblbopcaflaldaaGreatDoor

namespace Go.Proofs.YtblbopcaflaldaaGreatDoor
open Go Go.Dd Go.RowKit Go.Proofs.Tryz
open List hiding all
set_option maxRecDepth 100000
theorem Mu {w w' :World} {base A:Nat} {e T:TypeId} {sz n:Nat} {v:Value} {xs cs:List Value} (h:w.ownsRow base e sz v n xs) (k:AP w A T cs) (c:e≠T) (g:w.grownBy w' (some A)):w'.ownsRow base e sz v n xs:=
 AR h fun b a=>g.block b (AB h b a).2 fun i=>by
  cases i
  rcases h.2 with ⟨rfl,_⟩|⟨j,cap,f,rfl,_,d,_⟩
  ·cases a
  ·simp only [Value.ownBlock,Option.some.injEq] at a
   subst a
   unfold AP at k
   rw [k] at d
   have:=Option.some.inj d
   injection this with _ h2 _
   exact c h2.symm
def nl (a:N5):BitVec 8×List Int×List Int×Int×Int:=(a.k,a.i,a.s,a.n,a.p)
def AV (w:World):Nat→Nat→List N5→Prop
 |base,top,[]=>base≤top
 |base,top,c::cs=>∃lo hi,base≤lo∧lo≤hi∧CU w lo hi c.x c.y c∧AV w hi top cs
theorem AV.le:∀{w:World} {cs:List N5} {base a:Nat},AV w base a cs→base≤a
 |_,[],_,_,h=>h
 |_,_::_,_,_,⟨_,_,h1,h2,_,h3⟩=>by have:=h3.le;omega
theorem AV.bs {w w' :World} (g:Below w.heap.size w w'):∀{cs:List N5} {base a:Nat},AV w base a cs→AV w' base a cs
 |[],_,_,h=>h
 |_::_,_,_,⟨lo,hi,h1,h2,h3,h4⟩=>⟨lo,hi,h1,h2,h3.bs g,AV.bs g h4⟩
theorem AV.below {w w' :World} {B:Nat} (g:Below B w w'):∀{cs:List N5} {base a:Nat},AV w base a cs→a≤B→AV w' base a cs
 |[],_,_,h,_=>h
 |_::_,_,_,⟨lo,hi,h1,h2,h3,h4⟩,hB=>⟨lo,hi,h1,h2,h3.below g (Nat.le_trans h4.le hB),AV.below g h4 hB⟩
theorem CU.awayS {w w' :World} {f i a:Nat} {T:TypeId} {q x y:Value} {b m:Nat} {j:List Value} {c:N5} (h:CU w f i x y c) (d:AQ w a T b q m j) (e:3≠T) (g:w.grownBy w' q.ownBlock):CU w' f i x y c:=
 ⟨Twn.awayS h.tx d e g,Twn.awayS h.ty d e g,h.bx,h.by',h.apart⟩
theorem AV.awayS {w w' :World} {a:Nat} {T:TypeId} {q:Value} {c m:Nat} {f:List Value} (d:AQ w a T c q m f) (e:3≠T) (g:w.grownBy w' q.ownBlock):∀{cs:List N5} {base b:Nat},AV w base b cs→AV w' base b cs
 |[],_,_,h=>h
 |_::_,_,_,⟨lo,hi,q1,q2,q3,q4⟩=>⟨lo,hi,q1,q2,q3.awayS d e g,AV.awayS d e g q4⟩
theorem AV.snoc {w:World} {c:N5} {b d:Nat} (f:CU w b d c.x c.y c) (e:b≤d):∀{cs:List N5} {base a:Nat},AV w base a cs→a≤b→AV w base d (cs++[c])
 |[],_,_,h,ht=>⟨b,d,Nat.le_trans h ht,e,f,AU _⟩
 |_::_,_,_,⟨l1,h1,q1,q2,q3,q4⟩,ht=>⟨l1,h1,q1,q2,q3,AV.snoc f e q4 ht⟩
theorem AV.top {w:World} {b:Nat}:∀{cs:List N5} {base a:Nat},AV w base a cs→a≤b→AV w base b cs
 |[],_,_,h,ht=>Nat.le_trans h ht
 |_::_,_,_,⟨l1,h1,q1,q2,q3,q4⟩,ht=>⟨l1,h1,q1,q2,q3,AV.top q4 ht⟩
theorem CU.wide {w:World} {g i a d:Nat} {x y:Value} {c:N5} (h:CU w g i x y c) (f:a≤g) (j:i≤d):CU w a d x y c:=
 ⟨Ib h.tx f,Ib h.ty f,fun b e=>by have:=h.bx b e;omega,fun b e=>by have:=h.by' b e;omega,h.apart⟩
theorem AV.each:∀{w:World} {cs:List N5} {base b:Nat},AV w base b cs→∀c ∈ cs,CU w base b c.x c.y c
 |_,[],_,_,_=>fun c a=>by cases a
 |_,d::ds,_,_,⟨lo,hi,h1,h2,h3,h4⟩=>fun c a=>by
  have:=h4.le
  rcases List.mem_cons.1 a with rfl|a
  ·exact h3.wide h1 (by omega)
  ·exact (h4.each c a).wide (by omega) (AU _)
def Vx (n:Int):List N5→List Hd
 |[]=>[]
 |t::ts=>IQ t.x t.i.length (t.i.map (Value.int .i64)) (n+1)::IQ t.y t.s.length (t.s.map (Value.int .i64)) (n+2)::Vx (n+2) ts
structure CV (w:World) (lo hi:Nat) (r:Value) (us:List N5):Prop where
 all:AV w lo hi us
 m:Na w lo EO 5 r us.length (GI N5.cells us) [b8 0#8, .slice none 0 0, .slice none 0 0, .int .i64 77, .int .i64 0]
 rb:∀b,r.ownBlock=some b→lo≤b∧b<hi
theorem CV.bs {w w' :World} {a b:Nat} {r:Value} {us:List N5} (h:CV w a b r us) (g:Below w.heap.size w w'):CV w' a b r us:=⟨h.all.bs g,h.m.bs g,h.rb⟩
theorem MN (us:List N5):(GI N5.cells us).length=us.length*5:=by
 induction us with
 |nil=>rfl
 |cons a us ih=>rw [Kq,length_append,ih,Ea,length_cons];omega
theorem CV.own {w:World} {a b:Nat} {r:Value} {us:List N5} (h:CV w a b r us):w.ownsRow a EO 5 r us.length (GI N5.cells us):=h.m.own (MN us)
theorem CV.gn {w:World} {b d:Nat} {r:Value} {us:List N5} (h:CV w b d r us):GN w r us:=⟨AG h.own,fun c a=>⟨(h.all.each c a).tx.sl,(h.all.each c a).ty.sl⟩⟩
theorem PR:Tryz.prog.built EO [(3, .int .i64 77)]=some [b8 0#8, .slice none 0 0, .slice none 0 0, .int .i64 77, .int .i64 0].toArray:=by
 have a:Tryz.prog.info? EO=some Tryz.t79:=by kernel_rfl
 have b:Tryz.prog.info? 3=some Tryz.t3:=by kernel_rfl
 have d:Tryz.prog.info? 77=some Tryz.t77:=by kernel_rfl
 have c:Tryz.prog.info? 70=some Tryz.t70:=by kernel_rfl
 simp [Program.built,a,underlying79,b,d,c,Instr.fill]
 rfl
theorem Rt (a b:List N5):GI N5.cells (a++b)=GI N5.cells a++GI N5.cells b:=by simp [GI]
theorem Mi (v:Value) (ls:List N5) (W:World) (h:GN W v ls) (Z:∀t ∈ ls,t.i.length≤4194304∧t.s.length≤4194304) (hl:ls.length≤2097152):
  AN prog 117 [v] W (fun r w' =>Below W.heap.size W w' ∧∃us,CV w' W.heap.size w'.heap.size r us∧us.map nl=ls.map nl):=by
 have sv:=h.sl
 refine A4 (n:=30) func117 O<|Ai<|Ab O<|A3<|Ad O<|Aa (Aq BM O ‹_›) O ?_
 refine Ca O (by omega)<|An (Ej (l:=0) (c:=ls.length+1) BM EE O O O (by omega) (by omega) (by omega)) O ?_
 rintro r0 w1 ⟨e, -,q, -⟩
 replace e:w1.ownsRow W.heap.size EO 5 r0 0 []:=e
 refine Ab O<|A8<|Ab O<|Ak<|Ar ?_
 refine Bu (S:=(Nat×Value×List N5)) (fun z=>[(0,v),(3,z.2.1),(4, .int .i64 (z.1:Int))]) (fun z w' =>z.1≤ls.length∧Below W.heap.size W w' ∧w'.ownsRow W.heap.size EO 5 z.2.1 z.1 (GI N5.cells z.2.2)∧AV w' W.heap.size w'.heap.size z.2.2∧z.2.2.map nl=(ls.take z.1).map nl) (fun z=>ls.length - z.1) ((0,r0,[])) ⟨rfl,rfl,rfl,trivial⟩ ?_ ?_
 ·exact ⟨Nat.zero_le _,q,e,q.size,rfl⟩
 clear e q
 rintro ⟨i,r,us⟩ F ⟨hi,q,e,I,A⟩
 replace hi:i≤ls.length:=hi
 replace e:F.ownsRow W.heap.size EO 5 r i (GI N5.cells us):=e
 replace I:AV F W.heap.size F.heap.size us:=I
 replace A:us.map nl=(ls.take i).map nl:=A
 have D:=sv.bs q
 have z2:=q.size
 have lus:us.length=i:=by have:=cngA length A;rw [length_map,length_map,length_take] at this;omega
 refine Ap<|Ai<|Ad O<|Ad O<|Aa (Aq BM O ‹_›) O ?_
 refine B8 O<|Ak<|Am O ?_ ?_
 ·intro g
  have k:i<ls.length:=by have:=AE g;omega
  obtain ⟨a,T⟩:∃a,a=ls[i]:=⟨_,rfl⟩
  have s:a ∈ ls:=T ▸ getElem_mem k
  have B:=h.cells k
  rw [← T] at B
  refine B1<|Ap<|Ar<|A5<|Ad O<|Ad O<|Ad O<|Aa (C6 BM O O D i O k) O<|Aa (Dx (cs:=a.cells) (Hc _) (GY _) O D O (by decide) B) O<|Ah O O (No a F ((h.each a s).bs q) (Z a s).1 (Z a s).2) ?_
  rintro _ Y ⟨b,x,y,rfl,M⟩
  obtain ⟨c,H⟩:∃c:N5,c=⟨a.k,x,y,a.i,a.s,a.n,a.p⟩:=⟨_,rfl⟩
  rw [← H]
  have V:=bt q b
  have C:=AF e b
  have H3:=I.bs b
  have z3:=b.size
  have U:CU Y F.heap.size Y.heap.size c.x c.y c:=by rw [H];exact ⟨M.tx,M.ty,M.bx,M.by',M.apart⟩
  have X:c.cells.all (·.oneCell')=true:=by rw [H];exact (M.at a.k a.n a.p).ones
  clear b M
  refine An (Eb (cs:=c.cells) BM EE O O (by decide) (by decide)) O ?_
  rintro p K ⟨u, -,b, -⟩
  have m:=bt V b
  have f:=AF C b
  have R:=H3.bs b
  have U:=U.bs b
  have z4:=b.size
  refine An (Bv (base:=W.heap.size) BM EE O (by decide) O O f (AG u) X (by omega) (by omega) m.size) O ?_
  rintro L w ⟨d,b,G, -⟩
  have o:=m.trans b
  have z5:=b.size
  have e1:GI N5.cells (us++[c])=GI N5.cells us++c.cells:=by rw [Rt];simp [GI]
  rw [← e1] at d
  have J:AQ K W.heap.size EO 5 r i (GI N5.cells us):= .inl f
  have Q:AV w W.heap.size w.heap.size (us++[c]):=AV.top (AV.snoc (U.awayS J (by decide) G) z3 (R.awayS J (by decide) G) (AU _)) (by omega)
  have N:(us++[c]).map nl=(ls.take (i+1)).map nl:=by
   rw [map_append,A,take_succ_eq_append_getElem k,map_append,← T,H];rfl
  refine Ab O<|A7<|Ba<|Cr<|Ad O<|Ca O (by omega)<|Ab O<|A7 ?_
  exact Ay (Br ((i+1,L,us++[c])) ⟨rfl,rfl,rfl,trivial⟩ (⟨k,o,d,Q,N⟩) (by simp only;omega))
 intro g
 have k:i=ls.length:=by have:=AD g;omega
 rw [k,take_length] at A
 refine Bq<|Au<|Au<|Bc<|Cf<|Ad O<|Aa (Bi (vs:=[(3, .int .i64 77)]) (cs:=[b8 0#8, .slice none 0 0, .slice none 0 0, .int .i64 77, .int .i64 0]) O PR) O<|An (Eb (cs:=[b8 0#8, .slice none 0 0, .slice none 0 0, .int .i64 77, .int .i64 0]) BM EE O O (by decide) (by decide)) O ?_
 rintro p K ⟨u, -,b, -⟩
 have m:=bt q b
 have f:=AF e b
 have R:=I.bs b
 have z4:=b.size
 refine An (Bv (base:=W.heap.size) BM EE O (by decide) O O f (AG u) O (by omega) (by omega) m.size) O ?_
 rintro L w ⟨d,b,G, -⟩
 have o:=m.trans b
 have z5:=b.size
 have J:AQ K W.heap.size EO 5 r i (GI N5.cells us):= .inl f
 have Q:AV w W.heap.size w.heap.size us:=AV.top (R.awayS J (by decide) G) (by omega)
 have E:=AG d
 rw [show i+1=us.length+1 by omega] at d
 have hS:=Oj d
 have sv5:=sv.bs o
 have hR:CV w W.heap.size w.heap.size (cut L 5 0 us.length) us:=⟨Q,hS,AB (hS.own (MN us))⟩
 rw [show us.length=ls.length by omega] at hR
 refine Ad O<|Aa (Aq BM O ‹_›) O ?_
 refine Aa (El (j:=ls.length) BM O O E (by omega)) O<|Ab O<|As<|Al O O ?_
 exact ⟨o,us,hR,A⟩
theorem CV.by {w w' :World} {s o A:Nat} {r:Value} {us:List N5} {T:TypeId} {cs:List Value} (h:CV w s o r us) (g:w.grownBy w' (some A)) (b:AP w A T cs) (x:3≠T) (t:EO≠T):CV w' s o r us:=by
 have m:∀{e:TypeId} {sz n:Nat} {v:Value} {xs:List Value} {B:Nat},e≠T→w.ownsRow B e sz v n xs→w'.ownsRow B e sz v n xs:=fun i f=>Mu f b i g
 have C:∀{cs:List N5} {base a:Nat},AV w base a cs→AV w' base a cs:=by
  intro cs
  induction cs with
  |nil=>exact fun h=>h
  |cons c cs ih=>
   rintro base a ⟨l,k,u,D,d,y⟩
   have p:∀{z:Value} {q:List Int} {B:Nat},tI w B z q→tI w' B z q:=fun ⟨j,cap,e,f⟩=>⟨j,cap,e,m x f⟩
   exact ⟨l,k,u,D,⟨p d.tx,p d.ty,d.bx,d.by',d.apart⟩,ih y⟩
 obtain ⟨j,cap,e,f⟩:=h.m
 exact ⟨C h.all,⟨j,cap,e,m t f⟩,h.rb⟩
theorem CV.wide {w:World} {i j a d:Nat} {r:Value} {us:List N5} (h:CV w i j r us) (f:a≤i) (g:j≤d):CV w a d r us:=by
 obtain ⟨b,cap,e,m⟩:=h.m
 have q:AV w a d us:=by
  cases hu:us with
  |nil=>have:=h.all;rw [hu] at this;exact Nat.le_trans f (Nat.le_trans this g)
  |cons c cs=>
   have:=h.all
   rw [hu] at this
   obtain ⟨l,k,o,s,p,n⟩:=this
   exact ⟨l,k,Nat.le_trans f o,s,p,AV.top n g⟩
 exact ⟨q,⟨b,cap,e,CR m f⟩,fun b e=>by have:=h.rb b e;omega⟩
theorem Mk (v:Value) (ls:List N5) (W:World) (h:GN W v ls) (B:∀t ∈ ls,t.i.length≤4194304∧t.s.length≤4194304) (D:ls.length≤2097152):
  AN prog 24 [.agg [v].toArray] W (fun r w' =>Below W.heap.size W w' ∧∃u us,r= .agg [u].toArray∧CV w' W.heap.size w'.heap.size u us∧us.map nl=ls.map nl):=by
 have d:=Below.refl W.heap.size W
 have A:[v].all (·.oneCell')=true:=by rw [all_cons,h.sl.one'];rfl
 refine A4 (n:=7) func24 O<|Ai<|Cl (cs:=[v]) O O O ?_
 rintro C w p c b -
 have d:=d.bs b
 have I:=AW c
 refine Da MD O ?_
 rintro y w x j b -
 have d:=d.bs b
 have c:=c.bs b
 refine A3<|A9 underlying24 O (CB _)<|Aa (Ao (DQ _) O ‹_› rfl) O ?_
 have s:=AA d
 refine Ah O O (Mi v ls w (h.bs d) B D) ?_
 rintro u z ⟨b,us,l,E⟩
 have G:=b.size
 have a:=j.bs b
 have f:u.cells=[u].toArray:=(AG l.own).one
 have g:=d.trans (b.mono s)
 refine Aa (Bi (cs:=[u]) O (MW u f)) O<|A6 (Ck (cs:=[u]) (k:=1) (by kernel_rfl) O O O (by rw [all_cons,(AG l.own).one'];rfl) a O) ?_
 rintro F ⟨q,i,H⟩
 have m:=g.grown i (by omega) (by rintro _ e;have:=Option.some.inj e;omega)
 have o:=(l.by i a (by decide) (by decide)).wide (show W.heap.size≤_ from s) (show z.heap.size≤F.heap.size from i.size)
 refine As<|D9 O O ‹_› underlying24 O O O ?_
 exact ⟨m,u,us,rfl,o,E⟩
def N5.low (lo:Nat) (t:N5):Prop:=(∀b,t.x.ownBlock=some b→b<lo)∧∀b,t.y.ownBlock=some b→b<lo
theorem Uf {w w' :World} {a:Nat} {v:Value} {ls:List N5} (h:GN w v ls) (d:∀b,v.ownBlock=some b→b<a) (c:∀t ∈ ls,t.low a) (g:Below a w w'):GN w' v ls:=
 ⟨II h.sl d g,fun t m=>⟨II (h.each t m).i (c t m).1 g,II (h.each t m).s (c t m).2 g⟩⟩
end Go.Proofs.YtblbopcaflaldaaGreatDoor
