/- Texts of this proof, one behind the other: MdlGet, ParLine, TxtText, ParTx, ParNode, ParPrs, MdlGot, ParAll, TxtMake, LawHelp, Open, TensorsArg, TensArg, MeansArg, TwinNode, BookMany, BookKeep, BookFive, BookApart, BookMore, BookList, TwinLists, BookIn, NodeCard, TwinGraph, MdlSame, MdlTwin, BackPl, TurnPl, RefProducts, WinOf, Win2, WinPool, RefWin, Pl, RefMoves, RefGraph, RefShapes, RefMdl, RefChk, RefMput, RefGet4, RefMget, MdlKin, BookArg, MdlOf. -/
import Derived.Test.YtblbopcaflaldaaGreatDoorPk3
import Derived.Test.YtblbopcaflaldaaGreatDoorPk1
import Derived.ProofKit
import Derived.OpenShut
import Derived.SizedLaws
import Derived.Test.YtblbopcaflaldaaGreatDoorPk2
import Derived.Test.YtblbopcaflaldaaGreatDoorCards
import Derived.Test.YtblbopcaflaldaaGreatDoorTie
import Derived.SevenTiedAt
import Derived.LaidLaws
import Derived.LaidHandle
import Derived.JoinedOf

namespace Go.Proofs.YtblbopcaflaldaaGreatDoor
open Go Go.Dd Go.RowKit List Go.Proofs.Tryz
set_option maxRecDepth 100000
theorem Qh (x:BitVec 8):BitVec.ofInt 8 (x.toNat:Int)=x:=by
 apply BitVec.eq_of_toNat_eq
 have:=x.isLt
 simp
theorem KL.bs {W w w' :World} {A:Nat} {v:Value} {l:Bs} (h:KL W w A v l) (g:Below w.heap.size w w'):KL W w' A v l:=⟨h.sl,bt h.bel g,h.lo,h.cell.bs g⟩
theorem KL.grow {W w w' :World} {A:Nat} {v:Value} {l:Bs} {r:Option Nat} (h:KL W w A v l) (g:w.grownBy w' r) (a:∀b,r=some b→W.heap.size≤b∧b≠A):KL W w' A v l:=
 ⟨h.sl,h.bel.grown g (AA h.bel) fun b e=>(a b e).1,h.lo,h.cell.by g fun e=>(a A e.symm).2 rfl⟩
theorem IW (W w:World) (A:Nat) (v:Value) (l:Bs) (e:KL W w A v l):
  Ir prog 52 [.pointer (some ⟨A,0,none⟩)] w Nu
   (fun r w' =>∃b a,GE l=some (b,a)∧w.grownBy w' (some A)∧w'.heap.size=w.heap.size∧r= .int .i64 (b.toNat:Int)∧∃v',KL W w' A v' a) (fun w' =>GE l=none∧w' =w):=
 (PQ W w A v l e).mono (fun _ _ ⟨f,c,i,d,g⟩=>⟨_,_,K2 f,c,i,d,g⟩) fun _ h=>⟨Oy.2 h.1,h.2⟩
theorem LH (W w:World) (A:Nat) (v:Value) (l:Bs) (d:KL W w A v l):
  Ir prog 53 [.pointer (some ⟨A,0,none⟩)] w Nu
   (fun r w' =>∃t a,GC l=some (t,a)∧w.grownBy w' (some A)∧AS w' w.heap.size 3 1 r t.length (t.map (Value.int .i64))∧∃v',KL W w' A v' a) (fun w' =>GC l=none∧w.grownBy w' (some A)):=
 (Rz W w A v l d).mono (fun _ _ ⟨e,b,g,c,f⟩=>⟨_,_,ML e b,g,c,f⟩) fun _ h=>⟨MM.2 h.1,h.2⟩
structure Gt (W w x:World) (Rc A M T:Nat) (rest:Bs) (ls:List N5) (vn:Value) (ts:List T4) (vw:Value):Prop where
 chg:FG (fun b=>b=A∨b=M) w x
 c:AM x Rc 97 [.pointer (some ⟨A,0,none⟩)]
 m:AM x M 27 [vn,vw]
 r:∃v',KL W x A v' rest
 o:x.ownsRow w.heap.size 79 5 vn ls.length (Ib N5.cells ls)
 u:x.ownsRow w.heap.size 75 2 vw ts.length (cellsOf ts)
 lay:∃mid,FQ x w.heap.size mid ls∧AV x mid T ts
 top:T≤x.heap.size
structure S5 (W w:World) (Rc A M:Nat):Prop where
 c:W.heap.size≤Rc∧Rc<w.heap.size
 a:W.heap.size≤A∧A<w.heap.size
 m:W.heap.size≤M∧M<w.heap.size
 ca:Rc≠A
 cm:Rc≠M
 am:A≠M
theorem Gt.bs {W w x y:World} {e A M T:Nat} {a:Bs} {ls:List N5} {c:Value} {ts:List T4} {d:Value} (h:Gt W w x e A M T a ls c ts d) (g:Below x.heap.size x y):Gt W w y e A M T a ls c ts d:=by
 obtain ⟨v',r⟩:=h.r
 obtain ⟨b,f,l2⟩:=h.lay
 exact ⟨h.chg.below g,h.c.bs g,h.m.bs g,⟨v',r.bs g⟩,AF h.o g,AF h.u g,⟨b,f.bs g,l2.bs g⟩,Nat.le_trans h.top g.size⟩
theorem Gt.rd {W w x y:World} {i A M T:Nat} {c a:Bs} {ls:List N5} {j:Value} {ts:List T4} {l:Value} (L:S5 W w i A M) (h:Gt W w x i A M T c ls j ts l) (g:x.grownBy y (some A)) (r:∃v',KL W y A v' a):Gt W w y i A M T a ls j ts l:=by
 obtain ⟨d,n,l2⟩:=h.lay
 obtain ⟨v',r⟩:=r
 have o:∃cs,AM x A 99 cs:=by
  obtain ⟨q,m⟩:=h.r
  exact ⟨_,m.cell⟩
 have k:∀b,some A=some b→∃cs,AM x b 99 cs:=fun b e=>by cases e;exact o
 exact ⟨h.chg.grown g (fun b e=>by cases e;exact .inl (.inl rfl)),h.c.by g (fun e=>L.ca (Option.some.inj e)),h.m.by g (fun e=>L.am (Option.some.inj e).symm),⟨v',r⟩,
  AN h.o fun b e=>g.block b (AB h.o b e).2 fun f=>by
   have:=Option.some.inj f;have:=(AB h.o b e).1;have:=L.a.2;omega,
  AN h.u fun b e=>g.block b (AB h.u b e).2 fun f=>by
   have:=Option.some.inj f;have:=(AB h.u b e).1;have:=L.a.2;omega,
  ⟨d,n.other g k (by decide),l2.other g k (by decide) (by decide)⟩,Nat.le_trans h.top g.size⟩
theorem Gt.ob {W w x y:World} {f A M T B:Nat} {a:Bs} {ls:List N5} {j:Value} {ts:List T4} {c:Value} {U:TypeId} {cs:List Value} (L:S5 W w f A M) (h:Gt W w x f A M T a ls j ts c) (g:x.grownBy y (some B)) (s:w.heap.size≤B) (n:AM x B U cs)
  (k:3≠U) (m:21≠U) (p:j.ownBlock≠some B) (o:c.ownBlock≠some B):Gt W w y f A M T a ls j ts c:=by
 obtain ⟨v',r⟩:=h.r
 obtain ⟨i,q,l2⟩:=h.lay
 have u:=L.a
 have t:=L.c
 have v:=L.m
 have l:∀b,some B=some b→∃cs,AM x b U cs:=fun b e=>by cases e;exact ⟨_,n⟩
 exact ⟨h.chg.grown g (fun b e=>by cases e;exact .inr s),h.c.by g (fun e=>by have:=Option.some.inj e;omega),h.m.by g (fun e=>by have:=Option.some.inj e;omega),⟨v',r.grow g fun b e=>by cases e;omega⟩,
  AN h.o fun b e=>g.block b (AB h.o b e).2 fun d=>p (by rw [e,d]),
  AN h.u fun b e=>g.block b (AB h.u b e).2 fun d=>o (by rw [e,d]),
  ⟨i,q.other g l k,l2.other g l k m⟩,Nat.le_trans h.top g.size⟩
theorem Gt.up {W w x:World} {e A M T:Nat} {a:Bs} {ls:List N5} {c:Value} {ts:List T4} {d:Value} (h:Gt W w x e A M T a ls c ts d):Gt W w x e A M x.heap.size a ls c ts d:=by
 obtain ⟨b,f,l2⟩:=h.lay
 exact ⟨h.chg,h.c,h.m,h.r,h.o,h.u,⟨b,f,l2.topM h.top⟩,AT _⟩
def Kt (w x:World) (A M:Nat):Prop:=FG (fun b=>b=A∨b=M) w x∧∃p q,AM x M 27 [p,q]
theorem Gt.k {W w x:World} {d A M T:Nat} {a:Bs} {ls:List N5} {b:Value} {ts:List T4} {c:Value} (h:Gt W w x d A M T a ls b ts c):Kt w x A M:=⟨h.chg,_,_,h.m⟩
theorem Gt.kg {W w x y:World} {c A M T:Nat} {a:Bs} {ls:List N5} {d:Value} {ts:List T4} {f:Value} (h:Gt W w x c A M T a ls d ts f) (L:S5 W w c A M) (g:x.grownBy y (some A)):Kt w y A M:=
 ⟨h.chg.grown g (fun b e=>by cases e;exact .inl (.inl rfl)),_,_,h.m.by g (fun e=>L.am (Option.some.inj e).symm)⟩
theorem Mr (ls:List N5) (c:N5):Ib N5.cells (ls++[c])=Ib N5.cells ls++c.cells:=by simp [Ib]
theorem Gt.node {W w x y z:World} {B A M T:Nat} {a:Bs} {ls:List N5} {q f:Value} {n:Value} {c:N5} {p l:Nat} (L:S5 W w B A M) (h:Gt W w x B A M T a ls q [] n) (N:NK x p l c) (D:T≤p) (H:p≤l) (S:l≤x.heap.size)
  (o:y.ownsRow w.heap.size 79 5 f (ls.length+1) (Ib N5.cells ls++c.cells)) (g:x.grownBy y q.ownBlock) (d:y.grownBy z (some M)) (m:AM z M 27 [f,n]):Gt W w z B A M l a (ls++[c]) f [] n:=by
 obtain ⟨v',r⟩:=h.r
 obtain ⟨j,K,l2⟩:=h.lay
 have U:=L.a
 have R:=L.c
 have Q:=L.m
 have C:∀b,q.ownBlock=some b→∃cs,AM x b 79 cs:=fun b e=>AS.ty (.inl h.o) e
 have s:∀b,q.ownBlock=some b→w.heap.size≤b:=fun b e=>(AB h.o b e).1
 have F:=h.c.by g (fun e=>by have:=s _ e.symm;omega)
 have I:=h.m.by g (fun e=>by have:=s _ e.symm;omega)
 have E:=r.grow g fun b e=>by have:=s b e;omega
 have t:∀b,some M=some b→∃cs,AM y b 27 cs:=fun b e=>by cases e;exact ⟨_,I⟩
 have u:j≤p:=Nat.le_trans (show j≤T from l2) D
 have G:=((K.other g C (by decide)).snoc (N.other g C (by decide)) H u).other d t (by decide)
 refine ⟨(h.chg.grown g (fun b e=> .inr (s b e))).grown d (fun b e=>by cases e;exact .inl (.inr rfl)),F.by d (fun e=>L.cm (Option.some.inj e)),m,⟨v',E.grow d fun b e=>by cases e;exact ⟨Q.1,fun e=>L.am e.symm⟩⟩, ?_, ?_,⟨l,G,AT _⟩, ?_⟩
 ·rw [length_append,Mr]
  exact AN o fun b e=>d.block b (AB o b e).2 fun i=>by
   have:=Option.some.inj i;have:=(AB o b e).1;omega
 ·have v:y.ownsRow w.heap.size 75 2 n 0 (cellsOf []):=AN h.u fun b e=>g.block b (AB h.u b e).2 fun i=>by
   obtain ⟨cs,k⟩:=C b i.symm
   obtain ⟨ds,J⟩:=AS.ty (.inl h.u) e
   exact absurd (AZ J k) (by decide)
  exact AN v fun b e=>d.block b (AB v b e).2 fun i=>by
   have:=Option.some.inj i;have:=(AB v b e).1;omega
 ·have:=g.size
  have:=d.size
  omega
theorem Ig:∀(ts:List T4) (c:T4),cellsOf (ts++[c])=cellsOf ts++[c.x,c.y]
 |[],c=>rfl
 |t::ts,c=>by rw [cons_append,cellsOf,cellsOf,Ig ts c];rfl
theorem Gt.tens {W w x y z:World} {v A M T:Nat} {d:Bs} {ls:List N5} {ts:List T4} {q:Value} {l f:Value} {c:T4} {t p:Nat} (L:S5 W w v A M) (h:Gt W w x v A M T d ls q ts l) (N:FF x t p c) (C:T≤t) (H:t≤p) (S:p≤x.heap.size)
  (o:y.ownsRow w.heap.size 75 2 f (ts.length+1) (cellsOf ts++[c.x,c.y])) (g:x.grownBy y l.ownBlock) (a:y.grownBy z (some M)) (m:AM z M 27 [q,f]):Gt W w z v A M p d ls q (ts++[c]) f:=by
 obtain ⟨v',r⟩:=h.r
 obtain ⟨B,K,l2⟩:=h.lay
 have U:=L.a
 have R:=L.c
 have Q:=L.m
 have n:∀b,l.ownBlock=some b→∃cs,AM x b 75 cs:=fun b e=>AS.ty (.inl h.u) e
 have s:∀b,l.ownBlock=some b→w.heap.size≤b:=fun b e=>(AB h.u b e).1
 have E:=h.c.by g (fun e=>by have:=s _ e.symm;omega)
 have I:=h.m.by g (fun e=>by have:=s _ e.symm;omega)
 have D:=r.grow g fun b e=>by have:=s b e;omega
 have i:∀b,some M=some b→∃cs,AM y b 27 cs:=fun b e=>by cases e;exact ⟨_,I⟩
 have F:=((l2.other g n (by decide) (by decide)).snocM (N.other g n (by decide) (by decide)) H C).other a i (by decide) (by decide)
 have G:=(K.other g n (by decide)).other a i (by decide)
 refine ⟨(h.chg.grown g (fun b e=> .inr (s b e))).grown a (fun b e=>by cases e;exact .inl (.inr rfl)),E.by a (fun e=>L.cm (Option.some.inj e)),m,⟨v',D.grow a fun b e=>by cases e;exact ⟨Q.1,fun e=>L.am e.symm⟩⟩, ?_, ?_,⟨B,G,F⟩, ?_⟩
 ·have u:y.ownsRow w.heap.size 79 5 q ls.length (Ib N5.cells ls):=AN h.o fun b e=>g.block b (AB h.o b e).2 fun j=>by
   obtain ⟨cs,k⟩:=n b j.symm
   obtain ⟨ds,J⟩:=AS.ty (.inl h.o) e
   exact absurd (AZ J k) (by decide)
  exact AN u fun b e=>a.block b (AB u b e).2 fun j=>by
   have:=Option.some.inj j;have:=(AB u b e).1;omega
 ·rw [length_append,Ig]
  exact AN o fun b e=>a.block b (AB o b e).2 fun j=>by
   have:=Option.some.inj j;have:=(AB o b e).1;omega
 ·have:=g.size
  have:=a.size
  omega
theorem CY {w w' :World} {a sz k:Nat} {E T:TypeId} {v:Value} {xs:List Value} {r:Option Nat} (h:w.ownsRow a E sz v k xs) (g:w.grownBy w' r) (f:∀b,r=some b→∃cs,AM w b T cs) (i:E≠T):w'.ownsRow a E sz v k xs:=
 AN h fun b e=>g.block b (AB h b e).2 fun j=>by
  obtain ⟨cs,c⟩:=f b j.symm
  obtain ⟨ds,d⟩:=AS.ty (.inl h) e
  exact i (AZ d c)
theorem Gt.gn {W w x:World} {i A M T:Nat} {b:Bs} {ls:List N5} {c:Value} {ts:List T4} {g:Value} (h:Gt W w x i A M T b ls c ts g):GN x c ls:=by
 obtain ⟨f,e, -⟩:=h.lay
 exact ⟨AH h.o,fun a d=>(e.each a d).at⟩
theorem QT (k:BitVec 8):Tryz.prog.built 79 [(0,b8 k)]=some [b8 k, .slice none 0 0, .slice none 0 0, .int .i64 0, .int .i64 0].toArray:=by
 have a:Tryz.prog.info? 79=some Tryz.t79:=by kernel_rfl
 have b:Tryz.prog.info? 3=some Tryz.t3:=by kernel_rfl
 have d:Tryz.prog.info? 77=some Tryz.t77:=by kernel_rfl
 have c:Tryz.prog.info? 70=some Tryz.t70:=by kernel_rfl
 simp [Program.built,a,underlying79,b,d,c,Instr.fill]
 rfl
set_option maxHeartbeats 2000000 in
theorem Ty (W w:World) (Rc A M:Nat) (l:Bs) (L:S5 W w Rc A M) (h:Gt W w w Rc A M w.heap.size l [] (.slice none 0 0) [] (.slice none 0 0)):
  Ir prog 51 [.pointer (some ⟨Rc,0,none⟩), .pointer (some ⟨M,0,none⟩)] w Nu
   (fun r w' =>r= .tuple #[]∧∃t ls ts vn vw,CR l=some (ls.map pn,ts.map pv,t)∧Gt W w w' Rc A M w'.heap.size t ls vn ts vw)
   (fun w' =>CR l=none∧Kt w w' A M):=by
 have la:=L.a
 have lc:=L.c
 have lm:=L.m
 have b_c:=h.c
 obtain ⟨v,r0⟩:=h.r
 refine Dl (n:=89) func51 (by kernel_rfl) O O O<|Aq<|Ai<|Aa (Ap (IP _) O ‹_› rfl) O ?_
 refine Cn O O (IW W w A v l r0) (fun w' R=>Be (Be (Cq (⟨by rw [CR,R.1],R.2 ▸ h.k⟩)))) ?_
 rintro _ E ⟨b,l1,e1,a,hz,rfl,r1⟩
 have h:=h.rd L a r1
 clear b_c r0 a hz r1
 have b255:=b.isLt
 refine Ad O<|Ak<|As ?_
 refine B1 (S:=(Nat×Bs×List N5×Value)) (fun z=>[(0, .pointer (some ⟨Rc,0,none⟩)),(1, .pointer (some ⟨M,0,none⟩)),(11, .int .i64 (b.toNat:Int)),(12, .int .i64 (z.1:Int))]) (fun z w' =>z.1≤b.toNat∧z.2.2.1.length=z.1∧BW b.toNat l1=(BW (b.toNat - z.1) z.2.1).map (fun q=>(z.2.2.1.map pn++q.1,q.2))∧Gt W w w' Rc A M w'.heap.size z.2.1 z.2.2.1 z.2.2.2 [] (.slice none 0 0)) (fun z=>b.toNat - z.1) ((0,l1,[], .slice none 0 0)) ⟨rfl,rfl,rfl,rfl,trivial⟩ ?_ ?_
 ·exact ⟨Nat.zero_le _,rfl,by simp,h.up⟩
 clear h
 rintro ⟨i,t,ls,vn⟩ w2 ⟨hi,hl,hN,h⟩
 dsimp only at hi hl hN h ⊢
 refine Ai<|B6 O<|Ak<|Aq<|Al O ?_ ?_
 ·intro g
  have hi' :i<b.toNat:=by have:=AE g;omega
  rw [show b.toNat - i=(b.toNat - (i+1))+1 by omega] at hN
  have no:DG t=none→CR l=none:=fun e=>by rw [CR,e1];simp only;rw [O5 hN e]
  have b_c:=h.c
  obtain ⟨v2,r2⟩:=h.r
  refine B4<|Aq<|As<|Ai<|Aa (Ap (IP _) O ‹_› rfl) O ?_
  refine Cn O O (IW W w2 A v2 t r2) (fun w' R=>Be (C4 (Be (Be (C4 (Be (Cq (⟨no (by simp only [DG,R.1]),R.2 ▸ h.k⟩)))))))) ?_
  rintro _ w3 ⟨k,l2,e2,a,hz,rfl,r3⟩
  have h:=h.rd L a r3
  clear b_c r2 a hz r3
  refine Aa (Ex.as (Ea L8 BR O) (cngA b8 (Qh k))) O<|Aa (Bl (cs:=[b8 k, .slice none 0 0, .slice none 0 0, .int .i64 0, .int .i64 0]) O (QT k)) O<|Cx (cs:=[b8 k, .slice none 0 0, .slice none 0 0, .int .i64 0, .int .i64 0]) GY O O O O (fun _=>rfl) (rfl) ?_
  rintro A_x w4 eA_x f m zhn
  have hv4:∀b,vn.ownBlock=some b→b<A_x:=fun b e=>by have:=(AB h.o b e).2;omega
  have zAx:w.heap.size≤A_x:=by have:=h.chg.size;omega
  have h:=h.bs m
  have nx:vn.ownBlock≠some A_x:=fun e=>by have:=hv4 _ e;omega
  refine Ak<|Aq ?_
  refine Cw.any mixed (fun w5 U _=> ?_)
  have h:=h.bs U
  have f:=f.bs U
  clear U
  have h:=h.up
  obtain ⟨v5,r5⟩:=h.r
  refine Dg (fun x=>AM x Rc 97 [.pointer (some ⟨A,0,none⟩)]) (fun hC=> ?_) (h.c)
  refine Ca (Am (Bb (Am (Am (Bb (Am Di))))))<|Aj 0 O (fun E s=>Ap (IP _) O s O) O<|Aj 2 O (fun E s=>Ap (IP _) O s O) O<|Bv<|AR.only (h.c) (i:=1) (by kernel_rfl) O<|Cn O O (LH W w5 A v5 l2 r5) (fun w' R=>Be (Be (C4 (Be (Be (C4 (Be (Cq (⟨no (by simp only [DG,e2,R.1]),h.kg L R.2⟩))))))))) ?_
  rintro x1 w6 ⟨iL,l3,e3,a,I,r6⟩
  have h:=h.rd L a r6
  have f:=f.by a (fun e=>by have:=Option.some.inj e;omega)
  have z6:=a.size
  clear r5 a r6
  obtain ⟨v6,r6⟩:=h.r
  have y1:=I.lt
  refine AR.back<|Ca (Am (Bb (Am (Am (Bb (Am Di))))))<|Aj 4 O (fun E s=>Cr underlying79 O (BT _)) O<|Bv<|AR.only (h.c) (i:=3) (by kernel_rfl) O<|Cn O O (LH W w6 A v6 l3 r6) (fun w' R=>Be (Be (C4 (Be (Be (C4 (Be (Cq (⟨no (by simp only [DG,e2,e3,R.1]),h.kg L R.2⟩))))))))) ?_
  rintro x2 w7 ⟨sL,l4,e4,a,T,r7⟩
  have h:=h.rd L a r7
  have f:=f.by a (fun e=>by have:=Option.some.inj e;omega)
  replace I:=AC I a (fun b e=>by cases e;exact ⟨_,r6.cell⟩) (by decide)
  have z7:=a.size
  have y2:=T.lt
  clear r6 a r7
  have zx:=BA f
  refine AR.back<|AR.only (h.c) (i:=5) (by kernel_rfl) O<|A5 (Ce (u:=x1) (BT _) O O I.slT.one' f (show 1<5 by decide)) ?_
  rintro w8 ⟨C,a, -⟩
  have h:=h.ob L a zAx f (by decide) (by decide) nx (by rintro ⟨⟩)
  replace I:=AC I a (fun b e=>by cases e;exact ⟨_,f⟩) (by decide)
  replace T:=AC T a (fun b e=>by cases e;exact ⟨_,f⟩) (by decide)
  have z8:=a.size
  clear f a
  refine AR.back<|Ca (Am (Bb (Am (Am (Bb (Am Di))))))<|Aj 6 O (fun E s=>Cr underlying79 O (BT _)) O<|Bv<|AR.only (h.c) (i:=7) (by kernel_rfl) O<|A5 (Ce (u:=x2) (BT _) O O T.slT.one' C (show 2<5 by decide)) ?_
  rintro w9 ⟨f,a, -⟩
  have h:=h.ob L a zAx C (by decide) (by decide) nx (by rintro ⟨⟩)
  replace I:=AC I a (fun b e=>by cases e;exact ⟨_,C⟩) (by decide)
  replace T:=AC T a (fun b e=>by cases e;exact ⟨_,C⟩) (by decide)
  have z9:=a.size
  clear C a
  replace f:AM w9 A_x 79 [b8 k,x1,x2, .int .i64 0, .int .i64 0]:=f
  refine AR.back<|AR.done (h.c) (by kernel_rfl)<|A4<|Ch<|Aq ?_
  refine Cw.any mixed (fun wa U _=> ?_)
  have h:=h.bs U
  have f:=f.bs U
  have I:=I.bs U
  have T:=T.bs U
  have z10:=U.size
  clear U
  obtain ⟨va,ra⟩:=h.r
  refine Dg (fun x=>AM x Rc 97 [.pointer (some ⟨A,0,none⟩)]) (fun hC=> ?_) (h.c)
  refine Ca (Am (Bb (Am (Am (Bb (Am Di))))))<|Aj 0 O (fun E s=>Ap (IP _) O s O) O<|Aj 2 O (fun E s=>Ap (IP _) O s O) O<|Bv<|AR.only (h.c) (i:=1) (by kernel_rfl) O<|Cn O O (IW W wa A va l4 ra) (fun w' R=>Be (Be (C4 (Be (Be (C4 (Be (Cq (⟨no (by simp only [DG,e2,e3,e4,R.1]),R.2 ▸ h.k⟩))))))))) ?_
  rintro _ wb ⟨nb,l5,e5,a,hz,rfl,rb⟩
  have h:=h.rd L a rb
  have f:=f.by a (fun e=>by have:=Option.some.inj e;omega)
  replace I:=AC I a (fun b e=>by cases e;exact ⟨_,ra.cell⟩) (by decide)
  replace T:=AC T a (fun b e=>by cases e;exact ⟨_,ra.cell⟩) (by decide)
  clear ra a rb
  obtain ⟨vb,rb⟩:=h.r
  refine AR.back<|Ca (Am (Bb (Am (Am (Bb (Am Di))))))<|Aj 4 O (fun E s=>Cr underlying79 O (CA _)) O<|Bv<|AR.only (h.c) (i:=3) (by kernel_rfl) O<|Cn O O (IW W wb A vb l5 rb) (fun w' R=>Be (Be (C4 (Be (Be (C4 (Be (Cq (⟨no (by simp only [DG,e2,e3,e4,e5,R.1]),R.2 ▸ h.k⟩))))))))) ?_
  rintro _ wc ⟨pb,l6,e6,a,hz2,rfl,rc⟩
  have h:=h.rd L a rc
  have f:=f.by a (fun e=>by have:=Option.some.inj e;omega)
  replace I:=AC I a (fun b e=>by cases e;exact ⟨_,rb.cell⟩) (by decide)
  replace T:=AC T a (fun b e=>by cases e;exact ⟨_,rb.cell⟩) (by decide)
  clear rb a rc
  refine AR.back<|AR.only (h.c) (i:=5) (by kernel_rfl) O<|A5 (Ce (u:= .int .i64 (nb.toNat:Int)) (CA _) O O O f (show 3<5 by decide)) ?_
  rintro wd ⟨C,a,hz3⟩
  have h:=h.ob L a zAx f (by decide) (by decide) nx (by rintro ⟨⟩)
  replace I:=AC I a (fun b e=>by cases e;exact ⟨_,f⟩) (by decide)
  replace T:=AC T a (fun b e=>by cases e;exact ⟨_,f⟩) (by decide)
  clear f a
  refine AR.back<|Ca (Am (Bb (Am (Am (Bb (Am Di))))))<|Aj 6 O (fun E s=>Cr underlying79 O (CA _)) O<|Bv<|AR.only (h.c) (i:=7) (by kernel_rfl) O<|A5 (Ce (u:= .int .i64 (pb.toNat:Int)) (CA _) O O O C (show 4<5 by decide)) ?_
  rintro we ⟨f,a,hz4⟩
  have h:=h.ob L a zAx C (by decide) (by decide) nx (by rintro ⟨⟩)
  replace I:=AC I a (fun b e=>by cases e;exact ⟨_,C⟩) (by decide)
  replace T:=AC T a (fun b e=>by cases e;exact ⟨_,C⟩) (by decide)
  clear C a
  obtain ⟨c,s⟩:∃c:N5,c=⟨k,x1,x2,iL,sL,(nb.toNat:Int),(pb.toNat:Int)⟩:=⟨_,rfl⟩
  replace f:AM we A_x 79 c.cells:=by rw [s];exact f
  have F:NK we w5.heap.size w7.heap.size c:=by
   rw [s]
   exact ⟨I,T.mono (by omega),fun b e=>by have:=y1 b e;omega,fun b e=>by have:=y2 b e;omega,fun b q1 q2=>by have:=y1 b q1;have:=y2 b q2;omega⟩
  have hcn:DG t=some (pn c,l6):=by rw [s];simp only [DG,e2,e3,e4,e5,e6];rfl
  have oc:=F.at.ones
  clear I T s
  have K:=h.m
  refine AR.back<|AR.done (h.c) (by kernel_rfl)<|Cs<|Bc underlying27 O (CK _)<|Bc underlying24 O (CB _)<|Aa (Ap (EB _) O ‹_› rfl) O ?_
  refine Aa (Cc (k:=5) (Ik _) (HG _) O O f) O<|An (Fw (cs:=c.cells) CH GY O O (by decide) (by decide)) O ?_
  rintro p9 wf ⟨G, -,m, -⟩
  have h:=h.bs m
  have F:=F.bs m
  have K:=h.m
  have zf:=h.chg.size
  have z7f:=m.size
  refine An (Bz (base:=w.heap.size) CH GY O (by decide) O O h.o (AH G) oc (by omega) (by omega) zf) O ?_
  rintro y wg ⟨Q, -,a, -⟩
  have b_M' :=K.by a (fun e=>by have:=(AB h.o M e.symm).1;omega)
  refine Bc underlying27 O (CK _)<|Bc underlying24 O (CB _)<|A5 (Ce (u:=y) (CB _) O O (AH Q).one' b_M' (show 0<2 by decide)) ?_
  rintro wh ⟨b_M2,hg2, -⟩
  have h:=Gt.node L h F (AT _) (by omega) (by omega) Q a hg2 b_M2
  refine A7<|A8<|Cs<|Cd O (by omega)<|Ad O<|A7 ?_
  exact A4 (Bu ((i+1,l6,ls++[c],y)) ⟨rfl,rfl,rfl,rfl,trivial⟩ (⟨hi',by rw [length_append,hl];rfl,by rw [LU hN hcn,map_append];rfl,h.up⟩) (by simp only;omega))
 intro g
 have hi' :i=b.toNat:=by have:=AD g;omega
 clear g
 have hNR:BW b.toNat l1=some (ls.map pn,t):=by rw [hN,hi',Nat.sub_self];simp [BW]
 have no2:DE (JX (ls.map pn)) t=none→CR l=none:=fun e=>by rw [CR,e1];simp only;rw [hNR];simp only;rw [e];rfl
 have yes2:∀ws r,DE (JX (ls.map pn)) t=some (ws,r)→CR l=some (ls.map pn,ws,r):=fun ws r e=>by rw [CR,e1];simp only;rw [hNR];simp only;rw [e];rfl
 rw [KO] at no2 yes2
 clear hN hi
 have V:=h.gn
 have K:=h.m
 refine Bt<|Ax<|Ax<|Bg<|Cf<|Bc underlying27 O (CK _)<|Aa (Fv (ds:=[vn]) (Im _) (CK _) O O ‹_› rfl) O ?_
 refine Af O O (JG vn ls w2 V (by omega)) ?_
 rintro wl w3 ⟨m,d⟩
 have h:=h.bs m
 have s_w:=d.slT
 clear V K m
 obtain ⟨J,hJ⟩:∃J,J=(F2 ls).map (·.s):=⟨_,rfl⟩
 rw [← hJ] at no2 yes2
 have lJ:J.length=(DB ls).length:=by rw [hJ,length_map,← KN,length_map]
 have lJ2:J.length≤ls.length:=by rw [hJ,length_map];exact length_filter_le ..
 obtain ⟨B3,hB3⟩:∃B,B=w2.heap.size:=⟨_,rfl⟩
 rw [← hB3] at d
 refine Aa (Au AG O ‹_›) O ?_
 refine Ad O<|Ak<|As ?_
 refine B1 (S:=(Nat×Bs×List T4×Value)) (fun z=>[(0, .pointer (some ⟨Rc,0,none⟩)),(1, .pointer (some ⟨M,0,none⟩)),(41,wl),(42, .int .i64 ((DB ls).length:Int)),(43, .int .i64 (z.1:Int))]) (fun z w' =>z.1≤J.length∧z.2.2.1.length=z.1∧DE J t=(DE (J.drop z.1) z.2.1).map (fun q=>(z.2.2.1.map pv++q.1,q.2))∧Gt W w w' Rc A M w'.heap.size z.2.1 ls vn z.2.2.1 z.2.2.2∧AS w' B3 3 1 wl (DB ls).length ((DB ls).map (Value.int .i64))) (fun z=>J.length - z.1) ((0,t,[], .slice none 0 0)) ⟨rfl,rfl,rfl,rfl,rfl,trivial⟩ ?_ ?_
 ·exact ⟨Nat.zero_le _,rfl,by simp,h.up,d⟩
 clear h d s_w
 rintro ⟨j,D,ts,vw⟩ w4 ⟨hj,hlt,hN,h,d⟩
 dsimp only at hj hlt hN h d ⊢
 have s_w:=d.slT
 refine Ai<|B6 O<|Ak<|Aq<|Al O ?_ ?_
 ·intro g
  have hj' :j<(DB ls).length:=by have:=AE g;omega
  obtain ⟨i',hi2,ej,h2,eF⟩:=Pr hj'
  obtain ⟨x,hx⟩:∃x,x=ls[i']:=⟨_,rfl⟩
  have hxg:ls.getD i' default=x:=by rw [getD_eq_getElem?_getD,getElem?_eq_getElem hi2,hx];rfl
  have hJx:J[j]? =some x.s:=by rw [hJ,getElem?_map,getElem?_eq_getElem h2,eF,hxg];rfl
  rw [drop_eq_getElem_cons (show j<J.length by omega),(List.getElem?_eq_some_iff.1 hJx).2] at hN
  have no:M5 x.s D=none→CR l=none:=fun e=>no2 (Rl hN e)
  have V:=h.gn
  have had:=V.ad hi2
  have hck:=(V.cell hi2).2
  rw [← hx] at hck
  have hxat:=V.each x (hx ▸ getElem_mem hi2)
  have sv:=V.sl
  have K:=h.m
  refine B4<|Aq<|As<|Ai<|Aa (Ba AG O O ‹_› _ O (by omega)) O ?_
  refine Aa (Ex.as (Bf (BI _) O s_w hj') (cngA (Value.int .i64) ej)) O<|Ab O<|Ay<|Bc underlying27 O (CK _)<|Bc underlying24 O (CB _)<|Aa (Ap (EB _) O ‹_› rfl) O ?_
  refine Ad O<|Aa (Dy CH O O sv i' O hi2) O<|Aa (Ej (q:=0) underlying79 O (BT _) O had) O<|Aa (Ex.ld (BF _) O sv hck) O<|Af O O (Ud x.y x.s w4 hxat.s) ?_
  rintro _ w5 ⟨m,⟨hok,tx,ty,rfl,hm⟩|⟨hno,rfl⟩⟩
  ·have h:=h.bs m
   have d:=d.bs m
   have z5:=m.size
   obtain ⟨N,hNn⟩:∃N,N=(Shapes.size x.s).toNat:=⟨_,rfl⟩
   have sz:=Shapes.size_le x.s
   obtain ⟨zl,hzl⟩:∃z,z=replicate (Shapes.size x.s).toNat 0#32:=⟨_,rfl⟩
   have lz:zl.length=N:=by rw [hzl,length_replicate,hNn]
   rw [← hzl] at hm
   have H:=hm.row
   have ox:=H.lt
   have oy:=AB hm.own
   have X:=hm.own
   clear m sv hxat V K s_w
   have one2:[tx,ty].all (·.oneCell')=true:=by simp [H.slT.one',(AK X).one']
   refine Ad O<|Aa (Ar (i:=0) O O) O<|Aa (Ar (i:=1) O O) O<|Cx (cs:=[tx,ty]) JF O O O O (fun _=>rfl) (one2) ?_
   rintro Z w6 eA_t o m zhn
   have zAt:w.heap.size≤Z:=by have:=h.chg.size;omega
   have nvt:vn.ownBlock≠some Z:=fun e=>by have:=(AB h.o _ e).2;omega
   have nwt:vw.ownBlock≠some Z:=fun e=>by have:=(AB h.u _ e).2;omega
   have zt:=m.size
   have h:=h.bs m
   have d:=d.bs m
   have H:=H.bs m
   replace X:=AF X m
   refine Ab O<|A9<|Ad O<|Aa (Cv O O) O<|Ak<|Cm O false (rfl)<|B4<|Aq ?_
   obtain ⟨n,hn32⟩:∃n,n=BitVec.ofInt 32 (zl.length:Int):=⟨_,rfl⟩
   have en:n.toNat=N:=by rw [hn32,lz,BitVec.toNat_ofInt];omega
   have sh_y:=(AH X).shp
   refine Cw.any mixed (fun wx U _=> ?_)
   have h:=h.bs U
   have d:=d.bs U
   have H:=H.bs U
   replace X:=AF X U
   have o:=o.bs U
   have zx:=U.size
   clear U
   obtain ⟨vr,rr⟩:=h.r
   refine Dg (fun y=>AM y Rc 97 [.pointer (some ⟨A,0,none⟩)]∧AM y Z 75 [tx,ty]) (fun hC=> ?_) (⟨h.c,o⟩)
   refine Ca (Am (Bb (Am (Am (Bb Di)))))<|Aj 0 O (fun E s=>Cr underlying75 O (Jk _)) O<|Aj 1 O (fun E s=>Ap (M1 _) O (by first|exact s.1|exact s.2) O) O<|Aj 2 O (fun E s=>Ed GS O sh_y) O<|Aj 3 O (fun E s=>Ex.as (Ez L8 HE O) (cngA u32 hn32.symm)) O<|Aj 5 O (fun E s=>Ap (IP _) O (by first|exact s.1|exact s.2) O) O<|Aj 6 O (fun E s=>Cr underlying75 O (Jk _)) O<|Aj 7 O (fun E s=>Ap (M1 _) O (by first|exact s.1|exact s.2) O) O<|Aj 8 O (fun E s=>Ed GS O sh_y) O<|Aj 9 O (fun E s=>Ex.as (Ev O O (by omega)) (cngA (Value.int .i64) (show 4*(zl.length:Int)=((4*N:Nat):Int) by omega))) O<|Bv<|AR.only (⟨h.c,o⟩) (i:=4) (by kernel_rfl) O<|Af O O (K0 (.slice none 0 0) [] n wx (Ct _ _) (by simp)) ?_
   rintro p1 wy ⟨m,G⟩
   rw [nil_append] at G
   have h:=h.bs m
   have d:=d.bs m
   have H:=H.bs m
   replace X:=AF X m
   have o:=o.bs m
   have rr:=rr.bs m
   have s_1:=AK G
   have zy:=m.size
   refine AR.back<|AR.only (⟨h.c,o⟩) (i:=10) (by kernel_rfl) O<|Cn O O (KX W wy A (4*N) vr D rr) (fun w' R=>Be (Be (C4 (Be (Be (C4 (Cq (⟨no (L4 (.inr (by omega))),R.2 ▸ h.k⟩)))))))) ?_
   rintro p2 wz ⟨hle,a,hz,Y,rr2⟩
   have tA:∀b,some A=some b→∃cs,AM wy b 99 cs:=fun b e=>by cases e;exact ⟨_,rr.cell⟩
   have h:=h.rd L a rr2
   replace d:=AC d a tA (by decide)
   replace H:=AC H a tA (by decide)
   replace X:=CY X a tA (by decide)
   replace G:=CY G a tA (by decide)
   have o:=o.by a (fun e=>by have:=Option.some.inj e;have:=h.chg.size;omega)
   have Y:=Y.bs (show Below W.heap.size W wz by obtain ⟨q,hq⟩:=rr2;exact hq.bel)
   have s_1:=AK G
   clear rr a tA
   have one3:[p1,p2].all (·.oneCell')=true:=by simp [s_1.one',Y.one']
   refine AR.back<|AR.only (⟨h.c,o⟩) (i:=11) (by kernel_rfl) O<|An (B5 (vs:=[p1,p2]) FA Q2 O O O one3 O) O ?_
   rintro a1 wa ⟨o_a, -,m, -⟩
   have h:=h.bs m
   have d:=d.bs m
   have H:=H.bs m
   replace X:=AF X m
   have o:=o.bs m
   have s_1:=s_1.bs m
   have Y:=Y.bs m
   have za:=m.size
   have lc2:(D.take (4*N)).length=4*N:=by rw [length_take];omega
   refine AR.back<|AR.only (⟨h.c,o⟩) (i:=12) (by kernel_rfl) O<|Af O O (Nr a1 [(p1,Crc.four n),(p2,D.take (4*N))] wa (AH o_a) (by intro p hp;simp at hp;rcases hp with rfl|rfl;exact s_1;exact Y) (by simp [Crc.four];omega)) ?_
   rintro q wb ⟨o_q,m⟩
   have eq:(([(p1,Crc.four n),(p2,D.take (4*N))]:List (Value×List (BitVec 8))).map (·.2)).flatten=Crc.four n++D.take (4*N):=by simp
   rw [eq] at o_q
   have s_q:=AK o_q
   have h:=h.bs m
   have d:=d.bs m
   have H:=H.bs m
   replace X:=AF X m
   have o:=o.bs m
   have zb:=m.size
   clear m eq
   refine AR.back<|AR.only (⟨h.c,o⟩) (i:=13) (by kernel_rfl) O<|Af O O (Pc q n (D.take (4*N)) wb s_q (by rw [lc2,en]) (by omega)) ?_
   rintro _ wc ⟨m,y',e',rfl,Q⟩
   have h:=h.bs m
   have d:=d.bs m
   have H:=H.bs m
   have o:=o.bs m
   have zc:=m.size
   have yy:=AB Q
   clear m X s_q o_q s_1 Y o_a G
   refine AR.back<|Ca (Am (Bb (Am (Am (Bb Di)))))<|Aj 14 O (fun E s=>Bq O) O<|Aj 15 O (fun E s=>Ar (i:=0) O O) O<|Aj 16 O (fun E s=>Ar (i:=1) O O) O<|Aj 17 O (fun E s=>Ar (i:=2) O O) O<|Aj 18 O (fun E s=>Br O) O<|Aj 19 O (fun E s=>Br O) O<|Aj 20 O (fun E s=>Br O) O<|Bv<|AR.done (⟨h.c,o⟩) (by kernel_rfl)<|Cf<|Ad O<|Bc underlying75 O (Jk _)<|A5 (Ce (u:=y') (Jk _) O O (AK Q).one' o (show 1<2 by decide)) ?_
   rintro wd ⟨b_t2,a, -⟩
   have tT:∀b,some Z=some b→∃cs,AM wc b 75 cs:=fun b e=>by cases e;exact ⟨_,o⟩
   have h:=h.ob L a zAt o (by decide) (by decide) nvt nwt
   replace d:=AC d a tT (by decide)
   replace H:=AC H a tT (by decide)
   replace Q:=CY Q a tT (by decide)
   have zd:=a.size
   clear a tT o
   obtain ⟨c,s⟩:∃c:T4,c=⟨tx,y',x.s,nums (D.take (4*N))⟩:=⟨_,rfl⟩
   have F:FF wd w4.heap.size wc.heap.size c:=by
    rw [s]
    exact ⟨H, .inl (CL Q (by omega)),fun b e=>by have:=ox b e;omega,fun b e=>by have:=yy b e;omega,fun b q1 q2=>by have:=yy b q1;have:=ox b q2;omega⟩
   have oc:[c.x,c.y].all (·.oneCell')=true:=by simp [F.at.1.one',F.at.2.one']
   have hw:M5 x.s D=some (pv c,D.drop (4*N)):=by rw [s,Ps hok (by omega),← hNn];rfl
   replace o:AM wd Z 75 [c.x,c.y]:=by rw [s];exact b_t2
   clear H Q s b_t2
   have K:=h.m
   refine Ak<|Az<|Bc underlying27 O (FH _)<|Aa (Ap (JT _) O ‹_› rfl) O ?_
   refine Aa (Cc (k:=2) (KJ _) (Ks _) O O o) O<|An (Fw (cs:=[c.x,c.y]) GB JF O O (by decide) (by decide)) O ?_
   rintro p9 we ⟨G, -,m, -⟩
   have h:=h.bs m
   have F:=F.bs m
   have d:=d.bs m
   have K:=h.m
   have ze:=h.chg.size
   have zn:=m.size
   refine An (Bz (base:=w.heap.size) GB JF O (by decide) O O h.u (AH G) oc (by omega) (by omega) ze) O ?_
   rintro yv wf ⟨o_v, -,a, -⟩
   have b_M' :=K.by a (fun e=>by have:=(AB h.u M e.symm).1;omega)
   replace d:=AC d a (fun b e=>AS.ty (.inl h.u) e) (by decide)
   refine Bc underlying27 O (FH _)<|A5 (Ce (u:=yv) (FH _) O O (AH o_v).one' b_M' (show 1<2 by decide)) ?_
   rintro wg ⟨b_M2,hg2, -⟩
   replace d:=AC d hg2 (fun b e=>by cases e;exact ⟨_,b_M'⟩) (by decide)
   have h:=Gt.tens L h F (AT _) (by omega) (by omega) o_v a hg2 b_M2
   refine A7<|A8<|Cs<|Cd O (by omega)<|Ad O<|A7 ?_
   exact A4 (Bu ((j+1,D.drop (4*N),ts++[c],yv)) ⟨rfl,rfl,rfl,rfl,rfl,trivial⟩ (⟨by omega,by rw [length_append,hlt];rfl,by rw [Oc hN hw,map_append];rfl,h.up,d⟩) (by simp only;omega))
  have h:=h.bs m
  refine Ad O<|Aa (Ar (i:=0) O O) O<|Aa (Ar (i:=1) O O) O<|Cx (cs:=[.slice none 0 0, .slice none 0 0]) JF O O O O (fun _=>rfl) (rfl) ?_
  rintro Z w6 eA_t o m zhn
  have h:=h.bs m
  refine Ab O<|A9<|Ad O<|Aa (Cv O O) O<|Ak<|Cm O true (rfl)<|Az<|Aa (Bl (vs:=[]) (cs:=[]) O (by kernel_rfl)) O<|Aa (Dx underlying106 O) O ?_
  refine D7 O (Be (C4 (Be (Be (C4 (Cq (⟨no (L4 (.inl hno)),h.k⟩)))))))
 intro g
 have hj' :j=J.length:=by have:=AD g;omega
 rw [hj',drop_length] at hN
 refine Bt<|Ax<|Ax<|Bg<|Fy O ?_
 exact ⟨rfl,D,ls,ts,vn,vw,yes2 _ _ (by rw [hN];simp [DE]),h⟩

-- dd: text
structure L1 (W w:World) (A:Nat) (v:Value) (l:List (List UInt8)):Prop where
 sl:AY st W v l
 bel:Below W.heap.size W w
 lo:W.heap.size≤A
 cell:AM w A 139 [v]
theorem L1.bs {W w w' :World} {A:Nat} {v:Value} {l:List (List UInt8)} (h:L1 W w A v l) (g:Below w.heap.size w w'):L1 W w' A v l:=⟨h.sl,bt h.bel g,h.lo,h.cell.bs g⟩
theorem L1.grow {W w w' :World} {A:Nat} {v:Value} {l:List (List UInt8)} {r:Option Nat} (h:L1 W w A v l) (g:w.grownBy w' r) (a:∀b,r=some b→W.heap.size≤b∧b≠A):L1 W w' A v l:=
 ⟨h.sl,h.bel.grown g (AA h.bel) fun b e=>(a b e).1,h.lo,h.cell.by g fun e=>(a A e.symm).2 rfl⟩
theorem MD (W w:World) (A:Nat) (v:Value) (l:List (List UInt8)) (s:List UInt8) (p:L1 W w A v l):
  Ir prog 207 [.pointer (some ⟨A,0,none⟩),st s] w Nu
   (fun r w' =>∃m,EV s l=some m∧w.grownBy w' (some A)∧w'.heap.size=w.heap.size∧∃v',L1 W w' A v' m) (fun w' =>EV s l=none∧w' =w):=by
 obtain ⟨c,h,f,b⟩:=p
 have j:=c.bs h
 refine Dl (n:=32) func207 (by kernel_rfl) O O O<|Aq<|Ai<|Ad O<|Aa (Ew O O) O<|Ak<|Al O ?_ ?_
 ·intro g
  have g:s=[]:=AE g
  refine Er<|A0<|Pw.ret0q O ?_
  exact ⟨l,by unfold EV;rw [if_pos g],DL _ _,rfl,v,c,h,f,b⟩
 intro g
 have g:¬s=[]:=AD g
 refine B4<|Aq<|Ai<|Ad O<|Aa (Ck O) O<|Bc underlying139 O (DW _)<|Aa (Ap (Hh _) O ‹_› rfl) O ?_
 refine Aa (Au BU O ‹_›) O ?_
 refine Aa (Cp O O) O<|Ad O ?_
 refine B7 12 O ?_ ?_
 ·intro d
  have d:l=[]:=eq_nil_of_length_eq_zero (by have:=AE d;omega)
  refine Ae (dj:=12) O O O O<|Ae (dj:=12) O O O O<|Ae (dj:=12) O O O O<|Ae (dj:=12) O O O O<|Ae (dj:=12) O O O O<|Ae (dj:=12) O O O O<|Ae (dj:=12) O O O O<|Ae (dj:=12) O O O O<|Bn O<|Ak<|Bx O<|Az<|Aa (Bl (vs:=[]) (cs:=[]) O (by kernel_rfl)) O<|Aa (Dx underlying106 O) O ?_
  refine D7 O (Be (Cq (⟨by unfold EV;rw [if_neg g,d],rfl⟩)))
 intro d
 have d:0<l.length:=by have:=AD d;omega
 have k:l=l.getD 0 default::l.drop 1:=by
  cases l with
  |nil=>exact absurd d (by simp)
  |cons a t=>rfl
 refine Ah (dj:=12) O O<|Ad O<|Ah (dj:=12) O O<|Aa (Ck O) O<|Ah (dj:=12) O O<|Bc underlying139 O (DW _)<|Ah (dj:=12) O O<|Aa (Ap (Hh _) O ‹_› rfl) O ?_
 refine Ah (dj:=12) O O<|Aa (Ba BU O O ‹_› 0 O (by omega)) O ?_
 refine Ah (dj:=12) O O<|Aa (Bf (GA _) O ‹_› (by omega)) O ?_
 refine Ah (dj:=12) O O<|Ad O<|Ah (dj:=12) O O<|Aa (Eu O O) O<|Ci O<|Ak<|Al O ?_ ?_
 ·intro e
  have e:¬l.getD 0 default=s:=by simpa using e
  refine Az<|Aa (Bl (vs:=[]) (cs:=[]) O (by kernel_rfl)) O<|Aa (Dx underlying106 O) O ?_
  refine D7 O (Be (Cq (⟨by unfold EV;rw [if_neg g,k];exact if_neg e,rfl⟩)))
 intro e
 have e:l.getD 0 default=s:=by simpa using e
 refine B4<|Az<|Ad O<|Ad O<|Aa (Ck O) O<|Bc underlying139 O (DW _)<|Aa (Ap (Hh _) O ‹_› rfl) O ?_
 refine Aa (Fl (i:=1) BU O O j (by omega)) O<|Aa (Ck O) O<|Bc underlying139 O (DW _)<|A5 (Ce (DW _) O O (c.drop (show 1≤l.length by omega)).one' b (show 0<1 by omega)) ?_
 rintro w ⟨b,o,q⟩
 refine A7<|Fy O ?_
 exact ⟨l.drop 1,by unfold EV;rw [if_neg g,k];exact if_pos e,o,q,_,⟨c.drop (show 1≤l.length by omega),h.grown o (AA h) (by rintro _ ⟨⟩;omega),f,b⟩⟩
def Ip (most:Nat) (l:List (List UInt8)) (ns:List Int) (rest:List (List UInt8)):Prop:=ns.length≤most∧DF most l=(ns++(DF (most - ns.length) rest).1,(DF (most - ns.length) rest).2)
theorem Gq (a:Nat) (l:List (List UInt8)):Ip a l [] l:=⟨Nat.zero_le _,rfl⟩
theorem Ip.done {b:Nat} {l:List (List UInt8)} {c:List Int} {a:List (List UInt8)} (h:Ip b l c a) (e:a=[]∨b≤c.length∨GF (a.getD 0 default)=none):DF b l=(c,a):=by
 obtain ⟨f,d⟩:=h
 rw [d]
 have key:DF (b - c.length) a=([],a):=by
  cases hm:b - c.length with
  |zero=>rfl
  |succ m=>
   cases a with
   |nil=>rfl
   |cons w r=>
    rcases e with e|e|e
    ·cases e
    ·omega
    ·have e:GF w=none:=e
     simp only [DF,e]
 rw [key,append_nil]
theorem Ip.step {a:Nat} {l:List (List UInt8)} {c:List Int} {b:List (List UInt8)} {n:Int} (h:Ip a l c b) (i:0<b.length) (g:c.length<a) (e:GF (b.getD 0 default)=some n):Ip a l (c++[n]) (b.drop 1):=by
 obtain ⟨j,f⟩:=h
 refine ⟨by rw [length_append];exact g, ?_⟩
 rw [f,length_append,length_singleton]
 obtain ⟨m,d⟩:∃m,a - c.length=m+1:=⟨a - c.length - 1,by omega⟩
 rw [d,show a - (c.length+1)=m by omega]
 cases b with
 |nil=>exact absurd i (by simp)
 |cons w r=>
  have e:GF w=some n:=e
  simp [DF,e]
set_option maxHeartbeats 1000000 in
theorem Hn (W w:World) (A d c:Nat) (v:Value) (l:List (List UInt8)) (hG:IU W) (I:L1 W w A v l) (hl:∀x ∈ l,x.length≤65536) (hn:l.length≤65537) (hm:c≤65536):
  Ir prog 208 [.pointer (some ⟨A,0,none⟩), .int .i64 (d:Int), .int .i64 (c:Int)] w Nu
   (fun r w' =>∃f l',Pp d c l=some (f,l')∧w.grownBy w' (some A)∧AS w' w.heap.size 3 1 r f.length (f.map (Value.int .i64))∧∃v',L1 W w' A v' l')
   (fun w' =>Pp d c l=none∧w.grownBy w' (some A)):=by
 have zW:=I.bel.size
 have zA:=BA I.cell
 refine Dl (n:=53) func208 (by kernel_rfl) O O O<|Ai<|Ab O<|Ak<|Aq ?_
 refine D1 (St:=(List Int×Value×Value×List (List UInt8))) (fun z=>[(1, .int .i64 (d:Int)),(6,z.2.1)]) (fun z w' =>DF c l=(z.1,z.2.2.2)∧w.grownBy w' (some A)∧w'.ownsRow w.heap.size 3 1 z.2.1 z.1.length (z.1.map (Value.int .i64))∧L1 W w' A z.2.2.1 z.2.2.2) ?_ ?_
 ·refine As ?_
  refine B1 (S:=(List Int×Value×Value×List (List UInt8))) (fun z=>[(0, .pointer (some ⟨A,0,none⟩)),(1, .int .i64 (d:Int)),(2, .int .i64 (c:Int)),(6,z.2.1)]) (fun z w' =>Ip c l z.1 z.2.2.2∧(∃k,z.2.2.2=l.drop k)∧w.grownBy w' (some A)∧w'.ownsRow w.heap.size 3 1 z.2.1 z.1.length (z.1.map (Value.int .i64))∧L1 W w' A z.2.2.1 z.2.2.2) (fun z=>z.2.2.2.length) (([], .slice none 0 0,v,l)) ⟨rfl,rfl,rfl,rfl,trivial⟩ ?_ ?_
  ·exact ⟨Gq c l,⟨0,rfl⟩,DL _ _,World.ownsRow_nil _ _ _ _,I⟩
  rintro ⟨f,y,u,a⟩ j ⟨hS,⟨k,hk⟩,F,B,I⟩
  dsimp only at hS hk F B I ⊢
  obtain ⟨p,hB,H,E⟩:=I
  have s_u:=p.bs hB
  have rl:a.length≤l.length:=by rw [hk,length_drop];omega
  have nl:=hS.1
  refine Aq<|Ai<|Ad O<|Aa (Ck O) O<|Bc underlying139 O (DW _)<|Aa (Ap (Hh _) O ‹_› rfl) O ?_
  refine Aa (Au BU O ‹_›) O ?_
  refine Aa (C1 O O) O<|Ad O ?_
  refine B7 15 O ?_ ?_
  ·intro g
   have g:0<a.length:=by have:=AE g;omega
   have hl0:(a.getD 0 default).length≤65536:=hl _ (by
    rw [getD_eq_getElem?_getD,getElem?_eq_getElem g,Option.getD_some]
    have q:a[0] ∈ a:=getElem_mem g
    exact mem_of_mem_drop (i:=k) (hk ▸ q))
   have s_y:=AH B
   refine Ah (dj:=15) O O<|Ad O<|Ah (dj:=15) O O<|Aa (Au AG O ‹_›) O ?_
   refine Ah (dj:=15) O O<|Ad O<|Ah (dj:=15) O O<|B6 O<|Bn O<|Ak<|Al O ?_ ?_
   ·intro Q
    have Q:f.length<c:=by have:=AE Q;omega
    refine B4<|As<|Ai<|Ad O<|Aa (Ck O) O<|Bc underlying139 O (DW _)<|Aa (Ap (Hh _) O ‹_› rfl) O ?_
    refine Aa (Ba BU O O ‹_› 0 O (by omega)) O ?_
    refine Aa (Bf (GA _) O ‹_› (by omega)) O ?_
    refine Af O O (Qk (a.getD 0 default) j (hG.bs hB) (by omega)) ?_
    rintro _ w2 ⟨h,x,rfl,hx⟩
    have V:=AP F (AX h _)
    have ho2:=AF B h
    have X:=bt hB h
    have C:=E.bs h
    refine Ad O<|Aa (Ar (i:=0) O O) O<|Aa (Ar (i:=1) O O) O<|Ab O<|Ab O<|A9<|Ad O<|Aa (Cy O) O<|Ak<|Al O ?_ ?_
    ·intro M
     have M:GF (a.getD 0 default)=none:=by
      cases e:GF (a.getD 0 default) with
      |none=>rfl
      |some n=>rw [e] at M;cases M
     exact Bt<|Ax<|Pw.blkE rfl<|Ax<|Bg<|Bo ((f,y,u,a)) ⟨rfl,rfl,trivial⟩ (⟨hS.done (.inr (.inr M)),V,ho2,p,X,H,C⟩)
    intro M
    obtain ⟨n,en⟩:∃n,GF (a.getD 0 default)=some n:=by
     cases e:GF (a.getD 0 default) with
     |none=>rw [e] at M;cases M
     |some n=>exact ⟨n,rfl⟩
    obtain rfl:=hx n en
    refine B4 ?_
    refine Cw.any mixed (fun w3 hd _=> ?_)
    have R:=AP V (AX hd _)
    have L:=AF ho2 hd
    have J:=bt X hd
    have m:=C.bs hd
    clear F V B ho2 hB X E C s_u s_y hd h
    refine Aw.seg (St:=Value) (g:=1) [0,1,2,3,4,5,6,7,8,9,10,11,12] 13 (fun y=>[(0, .pointer (some ⟨A,0,none⟩)),(1, .int .i64 (d:Int)),(2, .int .i64 (c:Int)),(6,y),(42,cut u 1 1 a.length),(44, .pointer (some ⟨A,0,none⟩))]) (fun y w' =>w.grownBy w' (some A)∧w'.ownsRow w.heap.size 3 1 y (f++[n]).length ((f++[n]).map (Value.int .i64))∧AM w' A 139 [u]∧Below W.heap.size W w') (by kernel_rfl) O ?_ ?_
    ·refine Dg (fun w' =>AM w' A 139 [u]∧Below W.heap.size W w') (fun hC=> ?_) (⟨m,J⟩)
     refine Ca (Am (Bb (Am (Bb Cb))))<|Aj 0 O (fun j s=>Bq O) O<|Aj 1 O (fun j s=>Bq O) O<|Aj 2 O (fun j s=>Bq O) O<|Aj 5 O (fun j s=>Bq O) O<|Aj 6 O (fun j s=>Ck O) O<|Aj 7 O (fun j s=>Cr underlying139 O (DW _)) O<|Aj 8 O (fun j s=>Ap (Hh _) O s.1 O) O<|Aj 9 O (fun j s=>Fl (i:=1) BU O O (p.bs s.2) (by omega)) O<|Bv<|AR.only ((by constructor<;>assumption)) (i:=3) (by kernel_rfl) O ?_
     refine An (B5 (vs:=[n].map (Value.int .i64)) AG DY O O O O O) O ?_
     rintro q w4 ⟨o_q, -,D, -⟩
     have N:=AP R (AX D _)
     have T:=AF L D
     have hB4:=bt J D
     have K:=m.bs D
     clear R L J m
     refine AR.back<|AR.only ((by constructor<;>assumption)) (i:=4) (by kernel_rfl) O ?_
     refine An (Bz (base:=w.heap.size) AG DY O (by decide) O O T (AH o_q) (BB (fun _=>rfl) _) (by omega) (by omega) N.size) O ?_
     rintro y' w5 ⟨o,U,hy5, -⟩
     have Z:=CX N hy5 fun b e=>(AB T b e).1
     have G:=hB4.trans (U.mono zW)
     have t:=K.bl U zA
     rw [← map_append,show f.length+1=(f++[n]).length by rw [length_append];rfl] at o
     clear N T hB4 K U hy5
     refine AR.back<|Ca (Am (Bb (Am (Bb Cb))))<|Aj 10 O (fun j s=>Br O) O<|Aj 11 O (fun j s=>Ck O) O<|Aj 12 O (fun j s=>Cr underlying139 O (DW _)) O<|Bv<|AR.done ((by constructor<;>assumption)) (by kernel_rfl) ?_
     exact A4 (Pw.seg (y') ⟨rfl,rfl,rfl,rfl,rfl,rfl,trivial⟩ (⟨Z,o,t,G⟩))
    clear R L J m
    rintro y' w5 ⟨Z,o,t,G⟩
    have s_d:=p.drop (show 1≤a.length by omega)
    refine Aw.only (i:=13) (by kernel_rfl) O<|A5 (Ce (DW _) O O s_d.one' t (show 0<1 by omega)) ?_
    rintro w6 ⟨b_A6,Y,hz6⟩
    have ho6:=AN o fun b e=>Y.block b (AB o b e).2 fun e2=>by
     have:=Option.some.inj e2;have:=(AB o b e).1;omega
    refine Aw.back<|Aw.done (by kernel_rfl)<|A8 ?_
    exact A4 (Bu ((f++[n],y',cut u 1 1 a.length,a.drop 1)) ⟨rfl,rfl,rfl,rfl,trivial⟩ (⟨hS.step g Q en,⟨k+1,by rw [hk,drop_drop]⟩,AP Z Y,ho6,s_d,G.grown Y (AA G) (by rintro _ ⟨⟩;omega),H,b_A6⟩) (by simp only [length_drop];omega))
   intro Q
   have Q:c≤f.length:=by have:=AD Q;omega
   exact Bt<|Ax<|Ax<|Bg<|Bo ((f,y,u,a)) ⟨rfl,rfl,trivial⟩ (⟨hS.done (.inr (.inl Q)),F,B,p,hB,H,E⟩)
  intro g
  have g:a=[]:=eq_nil_of_length_eq_zero (by have:=AD g;omega)
  exact Ae (dj:=15) rfl rfl rfl rfl<|Ae (dj:=15) rfl rfl rfl rfl<|Ae (dj:=15) rfl rfl rfl rfl<|Ae (dj:=15) rfl rfl rfl rfl<|Ci rfl<|Ak<|F3 rfl<|Bt<|Ax<|Ax<|Bg<|Bo ((f,y,u,a)) ⟨rfl,rfl,trivial⟩ (⟨hS.done (.inl g),F,B,p,hB,H,E⟩)
 rintro ⟨f,y,u,a⟩ j ⟨hN,F,B,I⟩
 dsimp only at hN F B I ⊢
 have s_y:=AH B
 refine Ch<|Aq<|Ai<|Ad O<|Aa (Au AG O ‹_›) O ?_
 refine Ad O<|B6 O<|Ak<|Al O ?_ ?_
 ·intro g
  have g:f.length<d:=by have:=AE g;omega
  refine Az<|Aa (Bl (vs:=[]) (cs:=[]) O (by kernel_rfl)) O<|Aa (Dx underlying106 O) O ?_
  refine D7 O (Be (Cq (⟨by rw [Pp,hN];exact if_pos g,F⟩)))
 intro g
 have g:¬f.length<d:=by have:=AD g;omega
 refine B8<|Ad O<|Af O O (JP y f j (AK B)) ?_
 rintro _ w2 ⟨rfl,h⟩
 refine Ab O<|Av<|Fc O O ?_
 exact ⟨f,a,by rw [Pp,hN];exact if_neg g,AP F (AX h _),(AS.clip B).bs h,u,I.bs h⟩
end Go.Proofs.YtblbopcaflaldaaGreatDoor

namespace Go.Proofs.YtblbopcaflaldaaGreatDoor
open Go Go.Dd Go.RowKit List
set_option maxRecDepth 100000
-- dd: text
theorem S8.bs {w w' :World} {b:Nat} {l:List UInt8} (h:S8 w b l) (g:Below w.heap.size w w'):S8 w' b l:=by
 have key:∀p,Lib.BuilderAtF 121 5 b b p (Lib.byteCells l) w→Lib.BuilderAtF 121 5 b b p (Lib.byteCells l) w' :=by
  rintro p ⟨e,v,d,i,f⟩
  have a:∀k o,w.heap[k]? =some o→w'.heap[k]? =some o:=fun k o c=>by rw [g.block k (Array.getElem?_eq_some_iff.1 c).1];exact c
  refine ⟨e,v,a _ _ d,i.kept (AX g none) ?_,f⟩
  cases v.ownBlock with
  |none=>exact .inl rfl
  |some b=>exact .inr (by simp)
 exact h.imp (key _) (key _)
theorem Md (c:UInt8):∀xs:List (List UInt8),(Lib.join xs [c]).length≤(xs.map length).sum+xs.length
 |[]=>AT 0
 |x::xs=>by
  rw [Lib.join_cons,length_append]
  have:(Lib.joinTail [c] xs).length=(xs.map length).sum+xs.length:=by
   unfold Lib.joinTail
   induction xs with
   |nil=>rfl
   |cons y ys ih=>simp only [map_cons,flatten_cons,length_append,ih,List.sum_cons,length_cons,length_nil];omega
  simp only [map_cons,List.sum_cons,length_cons]
  omega
theorem MJ {m:Nat}:∀{xs:List (List UInt8)},(∀x ∈ xs,x.length≤m)→(xs.map length).sum≤m*xs.length
 |[],_=>Nat.zero_le _
 |x::xs,h=>by
  have c:=h x (by simp)
  have b:=MJ (xs:=xs) fun y a=>h y (by simp [a])
  simp only [map_cons,List.sum_cons,length_cons,Nat.mul_succ]
  omega
theorem SP:∀k:BitVec 8,(BV k).word.length≤21∧(BV k).nxt.length≤21∧(BV k).last.length≤21:=by decide+kernel
theorem HU {n:Int} (h:0≤n∧n≤65536):(Lib.itoa n).length≤21:=Lib.itoa_length_le n (by omega) (by omega)
theorem K7 {x:N5} (h:ID x):(EK (BV x.k) x).length≤12∧∀y ∈ EK (BV x.k) x,y.length≤21:=by
 obtain ⟨e,c,d⟩:=SP x.k
 have g:=h.il.2
 have f:=h.sl
 unfold EK
 constructor
 ·simp only [length_append,length_map,length_singleton]
  split<;>split<;>(try split)<;>simp<;>omega
 ·intro y a
  simp only [mem_append,mem_singleton] at a
  rcases a with (((rfl|a)|a)|a)|a
  ·exact e
  ·obtain ⟨n,b,rfl⟩:=List.mem_map.1 a
   exact HU (h.ii n b)
  ·split at a
   ·cases a
   ·rw [List.mem_singleton.1 a];exact c
  ·split at a
   ·obtain ⟨n,b,rfl⟩:=List.mem_map.1 a
    exact HU (h.ss n b)
   ·split at a
    ·cases a
    ·rw [List.mem_singleton.1 a];exact HU ⟨h.nn.1,by have:=h.nn.2;omega⟩
  ·split at a
   ·cases a
   ·rcases List.mem_cons.1 a with rfl|a
    ·exact d
    ·rw [List.mem_singleton.1 a];exact HU ⟨h.pp.1,by have:=h.pp.2;omega⟩
theorem OC {x:N5} (h:ID x):(JA x).length≤300:=by
 obtain ⟨c,a⟩:=K7 h
 have d:=Md 32 (EK (BV x.k) x)
 have b:=MJ a
 unfold JA
 rw [length_append]
 simp only [length_singleton]
 omega
theorem On (a b:List N5):CQ (a++b)=CQ a++CQ b:=by simp [CQ]
theorem Ko:∀{ls:List N5},(∀x ∈ ls,ID x)→(CQ ls).length≤300*ls.length
 |[],_=>Nat.zero_le _
 |x::ls,h=>by
  have c:=OC (h x (by simp))
  have b:=Ko (ls:=ls) fun y a=>h y (by simp [a])
  have e:CQ (x::ls)=JA x++CQ ls:=rfl
  rw [e,length_append,length_cons]
  omega
theorem Mk {ls:List N5} (h:(FX ls).isSome=true):ls.length≤32∧∀x ∈ ls,ID x:=by
 obtain ⟨c,b⟩:=Option.isSome_iff_exists.1 h
 have d:=Ll b
 refine ⟨d, ?_⟩
 have m:EF [] ls=some c:=by
  unfold FX at b
  split at b
  ·cases b
  ·split at b
   ·split at b
    ·rename_i e _;cases b;exact e
    ·cases b
   ·cases b
 have key:∀(l:List N5) (a:List (List Int)),(∃c,EF a l=some c)→a.length+l.length≤32→∀x ∈ l,ID x:=by
  intro l
  induction l with
  |nil=>intro _ _ _ x f;cases f
  |cons y l ih=>
   rintro a ⟨c,h⟩ i x f
   unfold EF at h
   cases e:Ly a y with
   |none=>rw [e] at h;cases h
   |some s=>
    rw [e] at h
    simp only [length_cons] at i
    rcases List.mem_cons.1 f with rfl|f
    ·unfold Ly at e
     split at e
     ·rename_i g
      simp only [Bool.and_eq_true,Bool.not_eq_true'] at g
      refine RH g.1.1 fun j k=> ?_
      have:=g.1.2
      unfold OP at this
      have:=List.any_eq_false.1 this j k
      simp at this
      omega
     ·cases e
    ·exact ih (a++[s]) ⟨c,h⟩ (by rw [length_append,length_singleton];omega) x f
 exact key ls [] ⟨c,m⟩ (by simpa using d)

def GX (s:List UInt8):List (List UInt8):=if (CE 10 s).getLastD []=[] then (CE 10 s).dropLast else CE 10 s
def EP:Nat→List (List UInt8)→Nat ⊕ List PN
 |_,[]=> .inr []
 |i,t::ts=>if 32≤i then .inl i else match DH (CE 32 t) with
  |none=> .inl i
  |some p=>match EP (i+1) ts with
   | .inl j=> .inl j
   | .inr ns=> .inr (p::ns)
def Ju (s:List UInt8):Int:=if 65536<s.length then 3 else match EP 0 (GX s) with
 | .inl _=>4
 | .inr ns=>if (Nj ns).isSome then 0 else 1
def Jv (s:List UInt8):Int:=if 65536<s.length then 0 else match EP 0 (GX s) with
 | .inl i=>(i:Int)
 | .inr _=>0
def MS (s:List UInt8):List PN:=if 65536<s.length then [] else match EP 0 (GX s) with
 | .inl _=>[]
 | .inr ns=>if (Nj ns).isSome then ns else []
theorem Qb {ts:List (List UInt8)} {i:Nat} {b:List PN} {t:List UInt8} {a:List (List UInt8)} {p:PN} (h:EP 0 ts=match EP i (t::a) with
   | .inl j=> .inl j
   | .inr ns=> .inr (b++ns)) (d:i<32) (c:DH (CE 32 t)=some p):EP 0 ts=match EP (i+1) a with
   | .inl j=> .inl j
   | .inr ns=> .inr (b++[p]++ns):=by
 rw [h,EP,if_neg (by omega),c]
 simp only
 cases EP (i+1) a with
 |inl j=>rfl
 |inr ns=>simp
theorem SU {ts:List (List UInt8)} {i:Nat} {c:List PN} {t:List UInt8} {a:List (List UInt8)} (h:EP 0 ts=match EP i (t::a) with
   | .inl j=> .inl j
   | .inr ns=> .inr (c++ns)) (b:32≤i∨DH (CE 32 t)=none):EP 0 ts= .inl i:=by
 rw [h,EP]
 rcases Nat.lt_or_ge i 32 with d|d
 ·rw [if_neg (by omega)]
  rcases b with b|b
  ·omega
  ·rw [b]
 ·rw [if_pos d]
end Go.Proofs.YtblbopcaflaldaaGreatDoor

namespace Go.Proofs.YtblbopcaflaldaaGreatDoor
open Go Go.Dd Go.RowKit Go.Proofs.Tryz
open List hiding get
set_option maxRecDepth 100000
-- dd: text
theorem Pw.retCq {P:Program} {n:Nat} {E:BP} {w:World} {pv:Value} {e:TypeId} {f:Func} {R:Value→World→Prop} {K:World→Prop} {p b k:Nat} {T:TypeId} {cs:List Value} {d:TypeDesc} (l:f.results= #[.cell p e]) (i:get E p=some (.pointer (some ⟨b,0,none⟩))) (o:AM w b T cs)
  (m:P.underlying e=some d) (g:(match d with| .struct _| .array _ _=>true|_=>false)=true) (q:(P.info? e).map (·.size)=some k) (j:cs.length=k) (h:R (.agg cs.toArray) w):Pw n E (Nx P f pv R K .ret) w:=fun a c=>by
 subst j
 exact bodyPost_ret (v:= .agg cs.toArray) (results_cell_row l a.tmps w b T cs.toArray (0,0) d (by simp [Array.getD_eq_getD_getElem?,c.has _ _ i]) o m g (by simpa using q)) c.dfr (.inl ⟨_,rfl,h⟩)
def TE {St:Type} (n:Nat) (Ei:St→BP) (I:St→World→Prop) (Q:BC):BC:=fun e a w=>match e with
 | .normal=>∃s,BE n (Ei s) a∧I s w
 |e=>Q e a w
section
variable {P : Program} {n : Nat} {E : BP} {w : World} {St : Type} {Ei : St → BP} {I : St → World → Prop} {Q : BC}
theorem Cw.midQ {c:Code} (Ei:St→BP) (I:St→World→Prop) {K:Act→World→Prop} (h:Cw P (TE n Ei I Q) n c E w) (k:∀s w',I s w' →Pw n (Ei s) K w'):Cw P (BO K Q) n c E w:=fun a e=>
 Code.wp_mono (fun x f w' b=>by
  cases x with
  |normal=>
   obtain ⟨s,d,g⟩:=b
   exact k s w' g f d
  |_=>exact b) (h a e)
theorem Ff (s:St) (a:Po E (Ei s)) (c:I s w):Pw n E (TE n Ei I Q .normal) w:=fun _ b=>⟨s,b.sub a,c⟩
theorem Fe {c:List PanicEntry} (h:Pw n E (Q (.panic c)) w):Pw n E (TE n Ei I Q (.panic c)) w:=h
end
def Uy (k v:Value):Prop:=∃r ∈ HC,k=st r.word∧v=b8 (BitVec.ofNat 8 r.k)
theorem Kn:∀r ∈ HC,∀q ∈ HC,r.word=q.word→r=q:=by decide+kernel
theorem Mc {r:Rw} (h:r ∈ HC):DS r.word=BitVec.ofNat 8 r.k:=by
 revert r
 unfold DS
 decide+kernel
theorem Qu {s:List UInt8} (h:∀r ∈ HC,r.word≠s):DS s=0#8:=by
 unfold DS
 rw [List.find?_eq_none.2 fun r a=>by simpa using h r a]
 rfl
section
variable {n : Nat} {E : BP} {w : World} {ty : TypeId} {x y : Operand}
theorem Ex.kindL {M:Nat} {s:List UInt8} (g:ev E x=some (.map (some M))) (f:ev E y=some (st s)) (h:BH w M .string Uy):Ex prog n E (.lookup 135 x y false) ty w (b8 (DS s)):=by
 by_cases a:∃r ∈ HC,r.word=s
 ·obtain ⟨r,a,rfl⟩:=a
  refine Fi underlying135 LA g f trivial h ⟨_,_,(show Tryz.prog.info? 77=some Tryz.t77 by kernel_rfl),rfl⟩ ⟨r,a,rfl,by rw [Mc a]⟩ ?_
  rintro v ⟨q,b,c,rfl⟩
  rw [Kn r a q b (KU c),Mc b]
 ·rw [Qu fun r d e=>a ⟨r,d,e⟩]
  refine Ga underlying135 LA g f trivial h (show Tryz.prog.info? 77=some Tryz.t77 by kernel_rfl) O ?_
  rintro v ⟨q,b,c, -⟩
  exact a ⟨q,b,(KU c).symm⟩
theorem R2:∀k:BitVec 8,(∀r ∈ HC,¬r.k=k.toNat)→BV k=⟨0,[],0,0,[],[]⟩:=by decide+kernel
theorem R3:∀k:BitVec 8,(∃r ∈ HC,r.k=k.toNat)→BV k ∈ HC∧(BV k).k=k.toNat:=by decide+kernel
theorem Ex.rowL {M:Nat} {k:BitVec 8} (g:ev E x=some (.map (some M))) (d:ev E y=some (b8 k)) (h:BH w M (.int .u8) RD):Ex prog n E (.lookup 122 x y false) ty w (.agg (BV k).cells.toArray):=by
 by_cases hr:∃r ∈ HC,r.k=k.toNat
 ·obtain ⟨f,i⟩:=R3 k hr
  refine Fi underlying122 BR g d O h ⟨_,_,(show Tryz.prog.info? 125=some Tryz.t125 by kernel_rfl),rfl⟩ ⟨_,f,by rw [i],rfl⟩ ?_
  rintro v ⟨q,a,b,rfl⟩
  have:(k.toNat:Int)=(q.k:Int):=by injection b
  rw [LJ (BV k) f q a (by omega)]
 ·rw [R2 k fun r c e=>hr ⟨r,c,e⟩]
  refine Ga underlying122 BR g d O h (show Tryz.prog.info? 125=some Tryz.t125 by kernel_rfl) O ?_
  rintro v ⟨q,a,b, -⟩
  have:(k.toNat:Int)=(q.k:Int):=by injection b
  exact hr ⟨q,a,by omega⟩
end
theorem NI {l:List (List UInt8)} {r:Rw} (a:r=BV (DS (l.getD 0 default))) (h:r.word=[]∨EV r.word l=none):DH l=none:=by
 have e:l.headD []=l.getD 0 default:=by cases l<;>rfl
 unfold DH
 rw [e,← a]
 rcases h with h|h
 ·rw [if_pos h]
 ·split
  ·rfl
  ·rw [h];rfl
theorem RI {l a:List (List UInt8)} {r:Rw} (b:r=BV (DS (l.getD 0 default))) (c:¬r.word=[]) (h:EV r.word l=some a):DH l=(Pp r.least r.most a).bind fun q=>
 (EV r.nxt q.2).bind fun d=>(Ki r d).bind fun t=>(Nn r t.2.2).bind fun e=>
 if e.2=[] then some (DS (l.getD 0 default),q.1,t.1,t.2.1,e.1) else none:=by
 have e:l.headD []=l.getD 0 default:=by cases l<;>rfl
 unfold DH
 rw [e,← b,if_neg c,h]
 rfl
theorem PO:∀k:BitVec 8,(BV k).most≤65536:=by decide+kernel
set_option maxHeartbeats 2000000 in
theorem Tb (W w:World) (A K M:Nat) (v:Value) (l:List (List UInt8)) (hG:IU W) (h:L1 W w A v l) (hl:∀x ∈ l,x.length≤65536) (hn:l.length≤65537) (h0:0<l.length) (t:BH w K .string Uy) (hM:BH w M (.int .u8) RD) (hMA:M≠A):
  Ir prog 127 [.pointer (some ⟨A,0,none⟩), .map (some K), .map (some M)] w Nu
   (fun r w' =>∃c:N5,r=c.v∧DH l=some (pn c)∧w.grownBy w' (some A)∧(∃v' l',L1 W w' A v' l')∧NK w' w.heap.size w'.heap.size c)
   (fun w' =>DH l=none∧w.grownBy w' (some A)):=by
 obtain ⟨k,ek⟩:∃k,k=DS (l.getD 0 default):=⟨_,rfl⟩
 obtain ⟨r,hr⟩:∃r,r=BV k:=⟨_,rfl⟩
 have U:=hr
 rw [ek] at U
 have zW:=h.bel.size
 have zA:=BA h.cell
 have lM:=hM.lt
 refine Dl (n:=77) func127 (by kernel_rfl) O O O<|Ai<|Dc GY O ?_
 rintro C w1 eA_x a G zhn1
 have z1:=G.size
 have h:=h.bs G
 have t:=t.bs G
 have hM:=hM.bs G
 have X:=h.sl
 have s_v:=X.bs h.bel
 have b_A:=h.cell
 have j:=AX G (some A)
 refine Ay<|Ad O<|Ad O<|Aa (Ck O) O<|Bc underlying139 O (DW _)<|Aa (Ap (Hh _) O ‹_› rfl) O ?_
 refine Aa (Ba BU O O ‹_› 0 O (by omega)) O ?_
 refine Aa (Bf (GA _) O ‹_› (by omega)) O ?_
 refine Aa (Ex.kindL O O t) O<|Bc underlying79 O (GR _) ?_
 rw [← ek]
 refine A5 (Ce (GR _) O O O a (show 0<5 by decide)) ?_
 rintro w2 ⟨a,Z,hz2⟩
 replace a:AM w2 C 79 [b8 k, .slice none 0 0, .slice none 0 0, .int .i64 0, .int .i64 0]:=a
 replace hM:=FJ hM Z (by intro e;have:=Option.some.inj e;omega)
 have h:=h.grow Z (by rintro _ ⟨⟩;omega)
 replace j:=CX j Z (by rintro _ ⟨⟩;omega)
 clear G Z X s_v b_A t
 refine Ay<|Ad O<|Bc underlying79 O (GR _)<|Aa (Ap (Il _) O ‹_› rfl) O ?_
 refine Aa (Ex.rowL O O hM) O ?_
 rw [← hr]
 refine Cx (cs:=r.cells) Na O O O O (fun _=>rfl) (rfl) ?_
 rintro A_r w3 eA_r f J zhn3
 have z3:=J.size
 have a:=a.bs J
 have h:=h.bs J
 replace j:=AP j (AX J _)
 have lx:=BA a
 have lr:=BA f
 have xr:C<A_r:=by omega
 clear J hM
 refine Ay<|Ad O<|Bc underlying125 O (HF _)<|Aa (Ap (GA _) O ‹_› rfl) O ?_
 refine Cn O O (MD W w3 A v l r.word h) (fun w' t=>Be (Cq (⟨NI U (.inr t.1),t.2 ▸ j⟩))) ?_
 rintro _ w4 ⟨l1,e1,Y,hz4,v1,hR1⟩
 have a:=a.by Y (fun e=>by have:=Option.some.inj e;omega)
 have f:=f.by Y (fun e=>by have:=Option.some.inj e;omega)
 replace j:=AP j Y
 have c1:=hR1
 clear h
 have k1:=Iu e1
 have q1:∀x ∈ l1,x.length≤65536:=fun x S=>hl x (by rw [k1];exact mem_append_right _ S)
 have n1:l1.length≤65537:=by have:=cngA length k1;rw [length_append] at this;omega
 have hm:r.most≤65536:=by rw [hr];exact PO k
 refine A9<|Bc underlying125 O (HF _)<|Aa (Ap (GA _) O ‹_› rfl) O ?_
 refine Aa (Ew O O) O<|Ak<|Al O ?_ ?_
 ·intro g
  have g:r.word=[]:=AE g
  refine Az<|Aa (Bl (vs:=[]) (cs:=[]) O (by kernel_rfl)) O<|Aa (Dx underlying106 O) O ?_
  refine D7 O (Be (Cq (⟨NI U (.inl g),j⟩)))
 intro g
 have g:¬r.word=[]:=AD g
 have D:=RI U g e1
 rw [← ek] at D
 clear e1 g k1
 refine B8<|Ad O<|Bc underlying125 O (CA _)<|Aa (Ap (BI _) O ‹_› rfl) O ?_
 refine Bc underlying125 O (CA _)<|Aa (Ap (BI _) O ‹_› rfl) O ?_
 refine Cn O O (Hn W w4 A r.least r.most v1 l1 hG hR1 q1 n1 hm) (fun w' t=>Be (Cq (⟨by rw [D,t.1];rfl,AP j t.2⟩))) ?_
 rintro H w5 ⟨ns,l2,e2,N,d,v2,h⟩
 have a:=a.by N (fun e=>by have:=Option.some.inj e;omega)
 have f:=f.by N (fun e=>by have:=Option.some.inj e;omega)
 replace j:=AP j N
 rw [e2,Option.bind_some] at D
 dsimp only at D
 have k2:l1=ns.map Lib.itoa++l2:=(Ij e2).1
 have q2:∀x ∈ l2,x.length≤65536:=fun x S=>q1 x (by rw [k2];exact mem_append_right _ S)
 have n2:l2.length≤65537:=by have:=cngA length k2;rw [length_append] at this;omega
 have z5:=N.size
 have i5:∀b,H.ownBlock=some b→b<w5.heap.size:=fun b e=>(d.lt b e).2
 clear hR1 e2 k2 c1
 refine Bc underlying79 O (BT _)<|A5 (Ce (BT _) O O d.sl.one' a (show 1<5 by decide)) ?_
 rintro w6 ⟨q,i,T⟩
 replace d:=AC d i (fun b e=>by cases e;exact ⟨_,a⟩) (by decide)
 replace a:AM w6 C 79 [b8 k,H, .slice none 0 0, .int .i64 0, .int .i64 0]:=q
 have h:=h.grow i (by rintro _ ⟨⟩;omega)
 have f:=f.by i (fun e=>by have:=Option.some.inj e;omega)
 replace j:=CX j i (by rintro _ ⟨⟩;omega)
 clear q
 refine Ay<|Ad O<|Bc underlying125 O (HF _)<|Aa (Ap (GA _) O ‹_› rfl) O ?_
 refine Cn O O (MD W w6 A v2 l2 r.nxt h) (fun w' t=>Be (Cq (⟨by rw [D,t.1];rfl,t.2 ▸ j⟩))) ?_
 rintro _ w7 ⟨l3,e3,B,hz7,v3,hR3⟩
 replace d:=AC d B (fun b e=>by cases e;exact ⟨_,h.cell⟩) (by decide)
 have a:=a.by B (fun e=>by have:=Option.some.inj e;omega)
 have f:=f.by B (fun e=>by have:=Option.some.inj e;omega)
 replace j:=AP j B
 rw [e3,Option.bind_some] at D
 have k3:=Iu e3
 have q3:∀x ∈ l3,x.length≤65536:=fun x S=>q2 x (by rw [k3];exact mem_append_right _ S)
 have n3:l3.length≤65537:=by have:=cngA length k3;rw [length_append] at this;omega
 clear e3 k3 h
 refine Ak<|Aq ?_
 refine Cw.midQ (St:=(Value×List Int×Int×Value×List (List UInt8))) (fun z=>[(0, .pointer (some ⟨A,0,none⟩)),(6, .pointer (some ⟨C,0,none⟩)),(7, .pointer (some ⟨A_r,0,none⟩))]) (fun z w' =>Ki r l3=some (z.2.1,z.2.2.1,z.2.2.2.2)∧w.grownBy w' (some A)∧AM w' C 79 [b8 k,H,z.1, .int .i64 z.2.2.1, .int .i64 0]∧AM w' A_r 125 r.cells∧AS w' w4.heap.size 3 1 H ns.length (ns.map (Value.int .i64))∧AS w' w7.heap.size 3 1 z.1 z.2.1.length (z.2.1.map (Value.int .i64))∧L1 W w' A z.2.2.2.1 z.2.2.2.2) ?_ ?_
 ·refine As<|Ai<|Aa (Cc (Re _) (PD _) O O ‹_›) O ?_
  refine Af O O (LF r w7) ?_
  rintro _ w8 ⟨rfl,F⟩
  have z8:=F.size
  have a:=a.bs F
  have f:=f.bs F
  have d:=d.bs F
  have h:=hR3.bs F
  replace j:=AP j (AX F _)
  clear hR3 F
  refine Ab O<|Ak<|Al O ?_ ?_
  ·intro e
   refine Az<|Ad O<|Cn O O (Hn W w8 A 1 65536 v3 l3 hG h q3 n3 (AT _)) (fun w' t=>C4 (Fe (Cq (⟨by rw [D,Ki,if_pos e,t.1];rfl,AP j t.2⟩)))) ?_
   rintro y w9 ⟨s,R,V,o,m,v4,hR4⟩
   replace d:=AC d o (fun b e=>by cases e;exact ⟨_,h.cell⟩) (by decide)
   have a:=a.by o (fun e=>by have:=Option.some.inj e;omega)
   have f:=f.by o (fun e=>by have:=Option.some.inj e;omega)
   replace j:=AP j o
   replace h:=hR4
   have z9:=o.size
   refine Bc underlying79 O (BT _)<|A5 (Ce (BT _) O O m.sl.one' a (show 2<5 by decide)) ?_
   rintro L ⟨q,i,T⟩
   replace d:=AC d i (fun b e=>by cases e;exact ⟨_,a⟩) (by decide)
   replace m:=AC m i (fun b e=>by cases e;exact ⟨_,a⟩) (by decide)
   replace a:AM L C 79 [b8 k,H,y, .int .i64 0, .int .i64 0]:=q
   have h:=h.grow i (by rintro _ ⟨⟩;omega)
   have f:=f.by i (fun e=>by have:=Option.some.inj e;omega)
   replace j:=CX j i (by rintro _ ⟨⟩;omega)
   refine A7<|A8 ?_
   exact Ff ((y,s,0,v4,R)) ⟨rfl,rfl,rfl,trivial⟩ (⟨by rw [Ki,if_pos e,V];rfl,j,a,f,d,m.mono (by omega),h⟩)
  intro e
  have e:¬r.shaped=true:=by rw [e];decide
  refine Ai<|Bc underlying125 O (HF _)<|Aa (Ap (GA _) O ‹_› rfl) O ?_
  refine Aa (Eu O O) O<|Ab O<|Ak<|Al O ?_ ?_
  ·intro e9
   have e9:¬r.nxt=[]:=by simpa using e9
   refine Az<|Ad O<|Cn O O (Hn W w8 A 1 1 v3 l3 hG h q3 n3 (by decide)) (fun w' t=>C4 (Fe (Cq (⟨by rw [D,Ki,if_neg e,if_neg e9,t.1];rfl,AP j t.2⟩)))) ?_
   rintro y w9 ⟨s,R,V,o,m,v4,hR4⟩
   replace d:=AC d o (fun b e=>by cases e;exact ⟨_,h.cell⟩) (by decide)
   have a:=a.by o (fun e=>by have:=Option.some.inj e;omega)
   have f:=f.by o (fun e=>by have:=Option.some.inj e;omega)
   replace j:=AP j o
   replace h:=hR4
   have z9:=o.size
   have ls:1≤s.length:=(Ij V).2.1
   have s_y:=m.slT
   have eh:s.getD 0 default=s.headD 0:=by cases s<;>rfl
   refine Aa (Ba AG O O ‹_› 0 O (by omega)) O ?_
   refine Aa (Bf (BI _) O ‹_› (by omega)) O ?_
   refine Bc underlying79 O (CA _) ?_
   rw [eh]
   refine A5 (Ce (CA _) O O O a (show 3<5 by decide)) ?_
   rintro L ⟨q,i,T⟩
   replace d:=AC d i (fun b e=>by cases e;exact ⟨_,a⟩) (by decide)
   replace a:AM L C 79 [b8 k,H, .slice none 0 0, .int .i64 (s.headD 0), .int .i64 0]:=q
   have h:=h.grow i (by rintro _ ⟨⟩;omega)
   have f:=f.by i (fun e=>by have:=Option.some.inj e;omega)
   replace j:=CX j i (by rintro _ ⟨⟩;omega)
   refine A7<|A8 ?_
   exact Ff ((.slice none 0 0,[],s.headD 0,v4,R)) ⟨rfl,rfl,rfl,trivial⟩ (⟨by rw [Ki,if_neg e,if_neg e9,V];rfl,j,a,f,d, .inl ⟨rfl, .inl ⟨rfl,rfl⟩⟩,h⟩)
  intro e9
  have e9:r.nxt=[]:=by simpa using e9
  exact Cj<|A8<|Ff ((.slice none 0 0,[],0,v3,l3)) ⟨rfl,rfl,rfl,trivial⟩ (⟨by rw [Ki,if_neg e,if_pos e9],j,a,f,d, .inl ⟨rfl, .inl ⟨rfl,rfl⟩⟩,h⟩)
 have zg7:=j.size
 clear j a f d hR3 Y N i B
 rintro ⟨y,s,n,v4,R⟩ L ⟨V,j,a,f,d,m,h⟩
 dsimp only at V j a f d m h ⊢
 rw [V,Option.bind_some] at D
 dsimp only at D
 have k4:=Qo V
 dsimp only at k4
 have q4:∀x ∈ R,x.length≤65536:=fun x S=>q3 x (by rw [k4];exact mem_append_right _ S)
 have n4:R.length≤65537:=by have:=cngA length k4;rw [length_append] at this;omega
 clear V k4
 refine Ch<|Aq<|Ai<|Bc underlying125 O (HF _)<|Aa (Ap (GA _) O ‹_› rfl) O ?_
 refine Aa (Eu O O) O<|Ak ?_
 refine Cw.midQ (St:=(Int×Value×List (List UInt8))) (fun z=>[(0, .pointer (some ⟨A,0,none⟩)),(6, .pointer (some ⟨C,0,none⟩))]) (fun z w' =>Nn r R=some (z.1,z.2.2)∧w.grownBy w' (some A)∧AM w' C 79 [b8 k,H,y, .int .i64 n, .int .i64 z.1]∧AS w' w4.heap.size 3 1 H ns.length (ns.map (Value.int .i64))∧AS w' w7.heap.size 3 1 y s.length (s.map (Value.int .i64))∧L1 W w' A z.2.1 z.2.2) ?_ ?_
 ·refine Al O ?_ ?_
  ·intro e
   have e:¬r.last=[]:=by simpa using e
   refine Ai<|Ad O<|Bc underlying125 O (HF _)<|Aa (Ap (GA _) O ‹_› rfl) O ?_
   refine Cn O O (MD W L A v4 R r.last h) (fun w' t=>Be (Fe (Cq (⟨by rw [D,Nn,if_neg e,t.1];rfl,t.2 ▸ j⟩)))) ?_
   rintro _ w11 ⟨l5,e5,B,hz7,v5,hR5⟩
   replace d:=AC d B (fun b e=>by cases e;exact ⟨_,h.cell⟩) (by decide)
   replace m:=AC m B (fun b e=>by cases e;exact ⟨_,h.cell⟩) (by decide)
   have a:=a.by B (fun e=>by have:=Option.some.inj e;omega)
   have f:=f.by B (fun e=>by have:=Option.some.inj e;omega)
   replace j:=AP j B
   replace h:=hR5
   have k5:=Iu e5
   have q5:∀x ∈ l5,x.length≤65536:=fun x S=>q4 x (by rw [k5];exact mem_append_right _ S)
   have n5:l5.length≤65537:=by have:=cngA length k5;rw [length_append] at this;omega
   refine Ak<|Az<|Ad O<|Cn O O (Hn W w11 A 1 1 v5 l5 hG h q5 n5 (by decide)) (fun w' t=>Fe (Cq (⟨by rw [D,Nn,if_neg e,e5,Option.bind_some,t.1];rfl,AP j t.2⟩))) ?_
   rintro u w12 ⟨ps,l6,e6,o,o_u,v6,hR6⟩
   replace d:=AC d o (fun b e=>by cases e;exact ⟨_,h.cell⟩) (by decide)
   replace m:=AC m o (fun b e=>by cases e;exact ⟨_,h.cell⟩) (by decide)
   have a:=a.by o (fun e=>by have:=Option.some.inj e;omega)
   have f:=f.by o (fun e=>by have:=Option.some.inj e;omega)
   replace j:=AP j o
   replace h:=hR6
   have ls:1≤ps.length:=(Ij e6).2.1
   have s_y:=o_u.slT
   have eh:ps.getD 0 default=ps.headD 0:=by cases ps<;>rfl
   refine Aa (Ba AG O O ‹_› 0 O (by omega)) O ?_
   refine Aa (Bf (BI _) O ‹_› (by omega)) O ?_
   refine Bc underlying79 O (CA _) ?_
   rw [eh]
   refine A5 (Ce (CA _) O O O a (show 4<5 by decide)) ?_
   rintro w13 ⟨q,i,T⟩
   replace d:=AC d i (fun b e=>by cases e;exact ⟨_,a⟩) (by decide)
   replace m:=AC m i (fun b e=>by cases e;exact ⟨_,a⟩) (by decide)
   replace a:AM w13 C 79 [b8 k,H,y, .int .i64 n, .int .i64 (ps.headD 0)]:=q
   have h:=h.grow i (by rintro _ ⟨⟩;omega)
   have f:=f.by i (fun e=>by have:=Option.some.inj e;omega)
   replace j:=CX j i (by rintro _ ⟨⟩;omega)
   refine A7 ?_
   exact Ff ((ps.headD 0,v6,l6)) ⟨rfl,rfl,trivial⟩ (⟨by rw [Nn,if_neg e,e5,Option.bind_some,e6];rfl,j,a,d,m,h⟩)
  intro e
  have e:r.last=[]:=by simpa using e
  exact Cj<|Ff ((0,v4,R)) ⟨rfl,rfl,trivial⟩ (⟨by rw [Nn,if_pos e],j,a,d,m,h⟩)
 clear j a f d m h
 rintro ⟨p,v5,l5⟩ w11 ⟨e5,j,a,d,m,h⟩
 dsimp only at e5 j a d m h ⊢
 rw [e5,Option.bind_some] at D
 dsimp only at D
 refine Ch ?_
 have X:=h.sl
 have s_v:=X.bs h.bel
 have b_A:=h.cell
 refine Aq<|Ai<|Ad O<|Aa (Ck O) O<|Bc underlying139 O (DW _)<|Aa (Ap (Hh _) O ‹_› rfl) O ?_
 refine Aa (Au BU O ‹_›) O ?_
 refine Aa (C1 O O) O<|Ak<|Al O ?_ ?_
 ·intro g
  have g:¬l5=[]:=fun e=>by rw [e] at g;exact absurd (AE g) (by decide)
  refine Az<|Aa (Bl (vs:=[]) (cs:=[]) O (by kernel_rfl)) O<|Aa (Dx underlying106 O) O ?_
  refine D7 O (Be (Cq (⟨by rw [D];exact if_neg g,j⟩)))
 intro g
 have g:l5=[]:=eq_nil_of_length_eq_zero (by have:=AD g;omega)
 rw [if_pos g] at D
 have one:[b8 k,H,y, .int .i64 n, .int .i64 p].all (·.oneCell')=true:=by
  rw [all_cons,all_cons,all_cons,d.sl.one',m.sl.one'];rfl
 have zz:=j.size
 refine B8<|Aa (Cc (Ik _) (HG _) O O ‹_›) O ?_
 refine A5 (Co (cs:=[b8 k,H,y, .int .i64 n, .int .i64 p]) (k:=5) (by kernel_rfl) O O O one a O) ?_
 rintro w12 ⟨q,i,T⟩
 replace d:=AC d i (fun b e=>by cases e;exact ⟨_,a⟩) (by decide)
 replace m:=AC m i (fun b e=>by cases e;exact ⟨_,a⟩) (by decide)
 have h:=h.grow i (by rintro _ ⟨⟩;omega)
 replace j:=CX j i (by rintro _ ⟨⟩;omega)
 clear a
 refine Av<|Pw.retCq O O ‹_› underlying79 O O O ?_
 refine ⟨⟨k,H,y,ns,s,n,p⟩,rfl,D,j,⟨_,_,h⟩,d.mono (by omega),m.mono (by omega),fun b e=> ?_,fun b e=> ?_,fun b h1 h2=> ?_⟩
 ·have:=d.lt b e;omega
 ·have:=m.lt b e;omega
 ·have:=i5 b h1
  have:=(m.lt b h2).1
  omega
end Go.Proofs.YtblbopcaflaldaaGreatDoor

namespace Go.Proofs.YtblbopcaflaldaaGreatDoor
open Go Go.Dd Go.RowKit List Go.Proofs.Tryz
set_option maxRecDepth 100000
-- dd: text
structure M7 (w:World) (B Ag:Nat) (ls:List N5) (vn:Value):Prop where
 g:AM w Ag 24 [vn]
 o:w.ownsRow B 79 5 vn ls.length (Ib N5.cells ls)
 lay:FQ w B w.heap.size ls
theorem M7.bs {w w' :World} {B b:Nat} {ls:List N5} {a:Value} (h:M7 w B b ls a) (g:Below w.heap.size w w'):M7 w' B b ls a:=⟨h.g.bs g,AF h.o g,(h.lay.bs g).top g.size⟩
theorem M7.ob {w w' :World} {B c X:Nat} {ls:List N5} {a:Value} {T:TypeId} {cs:List Value} (h:M7 w B c ls a) (g:w.grownBy w' (some X)) (f:AM w X T cs) (j:3≠T) (i:24≠T) (k:79≠T):M7 w' B c ls a:=by
 have d:∀b,some X=some b→∃cs,AM w b T cs:=fun b e=>by cases e;exact ⟨_,f⟩
 refine ⟨h.g.by g fun e=> ?_,CY h.o g d k,(h.lay.other g d j).top g.size⟩
 have e:=Option.some.inj e
 subst e
 exact i (AZ h.g f)
theorem M7.gn {w:World} {B c:Nat} {ls:List N5} {b:Value} (h:M7 w B c ls b):GN w b ls:=⟨AH h.o,fun a d=>(h.lay.each a d).at⟩
theorem FE {w w' :World} {X Y:Nat} {T U:TypeId} {cs ds:List Value} (h:AM w X T cs) (g:w.grownBy w' (some Y)) (k:AM w Y U ds) (a:T≠U):AM w' X T cs:=h.by g fun e=>by
 have e:=Option.some.inj e
 subst e
 exact a (AZ h k)
theorem Jd {w w' :World} {X:Nat} {T U:TypeId} {cs:List Value} {r:Option Nat} (h:AM w X T cs) (g:w.grownBy w' r) (k:∀b,r=some b→∃ds,AM w b U ds) (a:T≠U):AM w' X T cs:=h.by g fun e=>by
 obtain ⟨ds,k⟩:=k X e.symm
 exact a (AZ h k)
set_option maxHeartbeats 1000000 in
theorem Qa (W w:World) (A t Ac X V K M B:Nat) (v H:Value) (l:List (List UInt8)) (ls:List N5) (hG:IU W) (E:L1 W w A v l) (hl:∀x ∈ l,x.length≤65536) (hn:l.length≤65537) (h0:0<l.length) (R:BH w K .string Uy) (T:BH w M (.int .u8) RD) (Z:M≠A)
  (s:M7 w B t ls H) (h32:ls.length≤32) (f:AM w Ac 137 [.pointer (some ⟨A,0,none⟩)]) (k:AM w X 135 [.map (some K)]) (h:AM w V 122 [.map (some M)]) (hB:B≤w.heap.size) (hgB:t<B):
  Ir prog 126 [.pointer (some ⟨t,0,none⟩), .pointer (some ⟨Ac,0,none⟩), .pointer (some ⟨X,0,none⟩), .pointer (some ⟨V,0,none⟩)] w Nu
   (fun r w' =>r= .tuple #[]∧∃c Y,DH l=some (pn c)∧FG (fun b=>b=A∨b=t∨H.ownBlock=some b) w w' ∧M7 w' B t (ls++[c]) Y)
   (fun w' =>DH l=none∧FG (fun b=>b=A∨b=t∨H.ownBlock=some b) w w' ∧M7 w' B t ls H):=by
 refine Dl (n:=13) func126 (by kernel_rfl) O O O ?_
 refine Cw.any mixed (fun J F _=> ?_)
 have d:FG (fun b=>b=A∨b=t∨H.ownBlock=some b) w J:=FG.of_below F
 have E:=E.bs F
 have s:=s.bs F
 have f:=f.bs F
 have k:=k.bs F
 have h:=h.bs F
 have R:=R.bs F
 have T:=T.bs F
 have zd:=F.size
 have j:=s.g
 clear F
 refine Aw.seg (St:=(N5×Value×Value)) (g:=1) [0,1,2,3,4,5,6,7,8] 9 (fun z=>[(11,z.2.1),(12, .pointer (some ⟨t,0,none⟩))]) (fun z w' =>DH l=some (pn z.1)∧FG (fun b=>b=A∨b=t∨H.ownBlock=some b) w w' ∧AM w' t 24 [H]∧w'.ownsRow B 79 5 z.2.1 (ls++[z.1]).length (Ib N5.cells (ls++[z.1]))∧FQ w' B w'.heap.size (ls++[z.1])) (by kernel_rfl) O ?_ ?_
 ·refine Dg (fun x=>AM x t 24 [H]∧AM x Ac 137 [.pointer (some ⟨A,0,none⟩)]∧AM x X 135 [.map (some K)]∧AM x V 122 [.map (some M)]) (fun hC=> ?_) (⟨j,f,k,h⟩)
  refine Ca (Am Di)<|Aj 0 O (fun J a=>Cr underlying24 O (CB _)) O<|Aj 1 O (fun J a=>Ap (EB _) O (by first|exact a.1|exact a.2.1|exact a.2.2.1|exact a.2.2.2) O) O<|Aj 2 O (fun J a=>Ap (T8 _) O (by first|exact a.1|exact a.2.1|exact a.2.2.1|exact a.2.2.2) O) O<|Aj 3 O (fun J a=>Ap (Rd _) O (by first|exact a.1|exact a.2.1|exact a.2.2.1|exact a.2.2.2) O) O<|Aj 4 O (fun J a=>Ap (Rf _) O (by first|exact a.1|exact a.2.1|exact a.2.2.1|exact a.2.2.2) O) O<|Bv ?_
  refine AR.only ((by refine ⟨?_, ?_, ?_, ?_⟩<;>assumption)) (i:=5) (by kernel_rfl) O ?_
  refine Cn O O (Tb W J A K M v l hG E hl hn h0 R T Z) (fun w' hK=>Be (Be (Cq (⟨hK.1,d.grown hK.2 (fun b e=>by cases e;exact .inl (.inl rfl)),s.ob hK.2 E.cell (by decide) (by decide) (by decide)⟩)))) ?_
  rintro _ w2 ⟨c,rfl,U,G, -,a⟩
  have d:=d.grown G (fun b e=>by cases e;exact .inl (.inl rfl))
  have m:=FQ.snoc a G.size (s.lay.other G (fun b e=>by cases e;exact ⟨_,E.cell⟩) (by decide)) (AT _)
  have s:=s.ob G E.cell (by decide) (by decide) (by decide)
  replace j:=s.g
  replace f:=FE f G E.cell (by decide)
  replace k:=FE k G E.cell (by decide)
  replace h:=FE h G E.cell (by decide)
  have z2:=G.size
  have oc:=a.at.ones
  clear E R T G
  refine AR.back ?_
  refine AR.only ((by refine ⟨?_, ?_, ?_, ?_⟩<;>assumption)) (i:=6) (by kernel_rfl) O ?_
  refine An (Fw (cs:=c.cells) CH GY O O (by decide) (by decide)) O ?_
  rintro q w3 ⟨N, -,o, -⟩
  have z3:=o.size
  have d:=d.below o
  have s:=s.bs o
  replace j:=s.g
  have f:=f.bs o
  have k:=k.bs o
  have h:=h.bs o
  replace m:=(m.bs o).top o.size
  refine AR.back ?_
  refine AR.only ((by refine ⟨?_, ?_, ?_, ?_⟩<;>assumption)) (i:=7) (by kernel_rfl) O ?_
  refine An (Bz (base:=B) CH GY O (by decide) O O s.o (AH N) oc (by omega) (by omega) (by omega)) O ?_
  rintro y w4 ⟨D, -,p, -⟩
  have C:∀b,H.ownBlock=some b→∃cs,AM w3 b 79 cs:=fun b e=>AS.ty (.inl s.o) e
  have d:=d.grown p (fun b e=> .inl (.inr (.inr e)))
  replace j:=Jd j p C (by decide)
  replace f:=Jd f p C (by decide)
  replace k:=Jd k p C (by decide)
  replace h:=Jd h p C (by decide)
  replace m:=(m.other p C (by decide)).top p.size
  clear s N
  refine AR.back<|Ca (Am Di)<|Aj 8 O (fun J a=>Cr underlying24 O (CB _)) O<|Bv ?_
  refine AR.done ((by refine ⟨?_, ?_, ?_, ?_⟩<;>assumption)) (by kernel_rfl) ?_
  exact A4 (Pw.seg ((c,y,y)) ⟨rfl,rfl,trivial⟩ (⟨U,d,j,by rw [length_append,Mr];exact D,m⟩))
 clear E s f k h R T j d
 rintro ⟨c,y,y2⟩ w4 ⟨U,d,j,D,S⟩
 dsimp only at U D S ⊢
 refine Aw.only (i:=9) (by kernel_rfl) O<|A5 (Ce (u:=y) (CB _) O O (AH D).one' j (show 0<1 by decide)) ?_
 rintro w5 ⟨Q,I, -⟩
 have L:∀b,some t=some b→∃cs,AM w4 b 24 cs:=fun b e=>by cases e;exact ⟨_,j⟩
 refine Aw.back<|Aw.done (by kernel_rfl)<|Fy O ?_
 exact ⟨rfl,c,y,U,d.grown I (fun b e=>by cases e;exact .inl (.inr (.inl rfl))),Q,CY D I L (by decide),(S.other I L (by decide)).top I.size⟩

theorem Jc (u:Value) (n:Nat) (xs:List Value) (w:World) (a:Sl w 5 u n xs):AO prog 58 [u] w (fun r w' =>r=clip u∧Below w.heap.size w w'):=by
 refine A6 (n:=9) func58 O<|Ai<|Ab O<|Ay<|Ad O<|Ad O<|Aa (Au CH O ‹_›) O ?_
 refine Ad O<|Aa (Au CH O ‹_›) O ?_
 exact Aa (Fo CH rfl rfl rfl a.shp) rfl<|Ab rfl<|Av<|Ao rfl rfl<|⟨rfl,Below.refl _ _⟩
theorem Ls (u:Value) (n:Nat) (xs:List Value) (w:World) (a:Sl w 2 u n xs):AO prog 59 [u] w (fun r w' =>r=clip u∧Below w.heap.size w w'):=by
 refine A6 (n:=9) func59 O<|Ai<|Ab O<|Ay<|Ad O<|Ad O<|Aa (Au GB O ‹_›) O ?_
 refine Ad O<|Aa (Au GB O ‹_›) O ?_
 exact Aa (Fo GB rfl rfl rfl a.shp) rfl<|Ab rfl<|Av<|Ao rfl rfl<|⟨rfl,Below.refl _ _⟩
theorem QV (a:Value) (c:a.cells=[a].toArray):Tryz.prog.built 99 [(0,a)]=some [a].toArray:=by
 have b:Tryz.prog.info? 99=some Tryz.t99:=by kernel_rfl
 have d:Tryz.prog.info? 28=some Tryz.t28:=by kernel_rfl
 simp [Program.built,b,underlying99,d,Instr.fill,c]
 rfl
theorem PR {l:Bs} {c:List PN} {ws:List PV} {r:Bs} (h:CR l=some (c,ws,r)):∃e,DE (JX c) e=some (ws,r):=by
 unfold CR at h
 cases h1:GE l with
 |none=>rw [h1] at h;cases h
 |some q=>
  obtain ⟨b,d⟩:=q
  rw [h1] at h
  simp only at h
  cases h2:BW b.toNat d with
  |none=>rw [h2] at h;cases h
  |some q2=>
   obtain ⟨a,l2⟩:=q2
   rw [h2] at h
   simp only at h
   cases h3:DE (JX a) l2 with
   |none=>rw [h3] at h;cases h
   |some q3=>
    obtain ⟨f,g⟩:=q3
    rw [h3] at h
    cases h
    exact ⟨l2,h3⟩
def U0 (W w:World) (r:Value) (l:Bs):Prop:=∃vn vw ls ts,r= .tuple #[.agg [vn,vw].toArray, .int .i64 (EL l)]∧(ls.map pn,ts.map pv)=(HY l).getD ([],[])∧Kl w W.heap.size w.heap.size vn vw ls ts
theorem Qr (w:World) {b a:Nat} (h:b≤a):Kl w b a (.slice none 0 0) (.slice none 0 0) [] []:=⟨⟨a,h,AT _⟩, .inl ⟨rfl, .inl ⟨rfl,rfl⟩⟩, .inl ⟨rfl, .inl ⟨rfl,rfl⟩⟩⟩
theorem HW {W w:World} {l:Bs} {e:Int} (c:W.heap.size≤w.heap.size) (a:EL l=e) (b:HY l=none):U0 W w (.tuple #[.agg [.slice none 0 0, .slice none 0 0].toArray, .int .i64 e]) l:=
 ⟨_,_,[],[],by rw [a],by rw [b];rfl,Qr w c⟩
set_option maxHeartbeats 1000000 in
theorem Li (v:Value) (l:Bs) (W:World) (hv:AY b8 W v l):AO prog 14 [v] W (fun r w' =>Below W.heap.size W w' ∧U0 W w' r l):=by
 have hle:=hv.le
 refine A6 (n:=63) func14 O<|Ai<|Dc K9 O ?_
 rintro o w eA_m B I zhB
 have zm:=I.size
 have ym:=BA B
 have K:=hv.bs I
 refine Ab O<|Ay<|Ad O<|Aa (Au AJ O ‹_›) O ?_
 refine Aa (Dr O O (by omega)) O<|Ab O<|A9<|Ad O<|B6 O<|Ak<|Al O ?_ ?_
 ·intro g
  have g:l.length<4:=by have:=AE g;omega
  refine Ai<|Aa (Cc (H3 _) (Hx _) O O ‹_›) O ?_
  refine A5 (Co (cs:=[.slice none 0 0, .slice none 0 0]) O O O O O B O) ?_
  rintro w2 ⟨B,V,hz⟩
  have I:=I.grown V zm (by rintro _ ⟨⟩;omega)
  refine Ab O<|Bw<|Dh O O O ‹_› underlying27 O O O ?_
  exact ⟨I,HW (AA I) (by simp [EL,g]) (by simp [HY,g])⟩
 intro g
 have g:4≤l.length:=by have:=AD g;omega
 obtain ⟨n,s⟩:∃n,n=l.length - 4:=⟨_,rfl⟩
 have nE:EL l=if gf (l.drop n)≠Crc.of (l.take n) then 11 else if (EZ (l.take n)).isSome then 0 else 4:=by rw [EL,if_neg (by omega),← s]
 have nR:HY l=if gf (l.drop n)≠Crc.of (l.take n) then none else EZ (l.take n):=by rw [HY,if_neg (by omega),← s]
 have X:n≤l.length:=by omega
 refine E1 4 (v' := .int .i64 (n:Int)) O (cngA (Value.int .i64) (by omega))<|B4<|Aq<|Ai<|Ad O<|Ad O<|Aa (Fl (i:=n) AJ O O K X) O ?_
 have l4:¬(l.drop n).length<4:=by rw [length_drop];omega
 refine Af O O (KC (cut v 1 n l.length) (l.drop n) w (AY.drop K X)) ?_
 rintro _ w2 ⟨rfl,hn2⟩
 rw [if_neg l4,if_neg l4]
 replace I:=bt I hn2
 have B:=B.bs hn2
 have K:=K.bs hn2
 refine Ad O<|Aa (Ar (i:=0) O O) O<|Aa (Ar (i:=1) O O) O<|Ab O<|Ab O<|Ay<|Ad O<|Ad O<|Ad O<|Aa (Ey (j:=n) AJ O O K X) O<|Af O O (Ta (cut v 1 0 n) (l.take n) w2 (AY.take K X)) ?_
 rintro _ w3 ⟨rfl,hn3⟩
 replace I:=bt I hn3
 have B:=B.bs hn3
 have K:=K.bs hn3
 have z3:=AA I
 have y3:o<w3.heap.size:=BA B
 clear hn2 hn3 l4
 refine Aa (Ex.neq32 O O) O<|Ak<|Al O ?_ ?_
 ·intro g2
  have g2:gf (l.drop n)≠Crc.of (l.take n):=by simpa using g2
  rw [if_pos g2] at nE nR
  refine Ai<|Aa (Cc (H3 _) (Hx _) O O ‹_›) O ?_
  refine A5 (Co (cs:=[.slice none 0 0, .slice none 0 0]) O O O O O B O) ?_
  rintro w4 ⟨B,V,hz⟩
  have I:=I.grown V z3 (by rintro _ ⟨⟩;omega)
  refine Ab O<|Bw<|Dh O O O ‹_› underlying27 O O O ?_
  exact ⟨I,HW (AA I) nE nR⟩
 intro g2
 have g2:¬gf (l.drop n)≠Crc.of (l.take n):=by simpa using g2
 rw [if_neg g2] at nE nR
 have s_t:=AY.take K X
 refine B8<|Ad O<|Ad O<|Aa (Ey (j:=n) AJ O O K X) O<|Aa (Bl (vs:=[(0,cut v 1 0 n)]) (cs:=[cut v 1 0 n]) O (QV _ s_t.one)) O<|An (Xw.box (cs:=[cut v 1 0 n]) O O) O ?_
 rintro _ w4 ⟨rfl,b_A,hn4,hz4⟩
 replace I:=bt I hn4
 have B:=B.bs hn4
 refine F9 (u:= .pointer (some ⟨w3.heap.size,0,none⟩)) Uo TQ O (fun _=>rfl) (rfl) ?_
 rintro M w5 eA_c b_c hn5 zhn5
 replace I:=bt I hn5
 have B:=B.bs hn5
 have b_A:=b_A.bs hn5
 have y5:=BA b_c
 have z5:=hn5.size
 obtain ⟨lt,hlt⟩:∃t,t=l.take n:=⟨_,rfl⟩
 have s_t0:AY b8 W (cut v 1 0 n) lt:=by rw [hlt];exact AY.take hv X
 rw [← hlt] at nE nR
 have hp:∀N A,N=w5.heap.size→Below w5.heap.size w5 A→AM A N 4 [.bool false]→
   Ir prog 51 [.pointer (some ⟨M,0,none⟩), .pointer (some ⟨o,0,none⟩)] A Nu
    (fun r w' =>r= .tuple #[]∧AM w' N 4 [.bool false]∧∃A z ls ts D E,Below w5.heap.size w5 A∧N<A.heap.size∧AM w' N 4 [.bool false]∧CR lt=some (ls.map pn,ts.map pv,z)∧Gt W A w' M w3.heap.size o w'.heap.size z ls D ts E)
    (fun w' =>AM w' N 4 [.bool false]∧CR lt=none∧∃A,Below w5.heap.size w5 A∧N<A.heap.size∧Kt A w' w3.heap.size o):=fun N A eA' hk b_k=>by
  have zk:=hk.size
  have L:S5 W A M w3.heap.size o:=⟨by omega,by omega,by omega,by omega,by omega,by omega⟩
  have hG:Gt W A A M w3.heap.size o A.heap.size lt [] (.slice none 0 0) [] (.slice none 0 0):=
   ⟨FG.refl _ _,b_c.bs hk,B.bs hk,⟨_,s_t0,bt I hk,z3,b_A.bs hk⟩,⟨rfl, .inl ⟨rfl,rfl⟩⟩,⟨rfl, .inl ⟨rfl,rfl⟩⟩,⟨A.heap.size,AT _,AT _⟩,AT _⟩
  have nS:¬(N=w3.heap.size∨N=o):=by omega
  exact (Ty W A M w3.heap.size o lt L hG).mono (fun r w' ⟨h1,z,ls,ts,D,E,h2,h3⟩=>⟨h1,b_k.chg h3.chg nS,A,z,ls,ts,D,E,hk,BA b_k,b_k.chg h3.chg nS,h2,h3⟩) fun w' ⟨h1,h2⟩=>⟨b_k.chg h2.1 nS,h1,A,hk,BA b_k,h2⟩
 refine Ay<|Aa (Ep (vs:=[]) (us:=[.pointer (some ⟨M,0,none⟩), .pointer (some ⟨o,0,none⟩)]) O O) O<|Af O O (Kz 51 [.pointer (some ⟨M,0,none⟩), .pointer (some ⟨o,0,none⟩)] w5 (fun N w' =>∃A z ls ts D E,Below w5.heap.size w5 A∧N<A.heap.size∧AM w' N 4 [.bool false]∧CR lt=some (ls.map pn,ts.map pv,z)∧Gt W A w' M w3.heap.size o w'.heap.size z ls D ts E) (fun N w' =>CR lt=none∧∃A,Below w5.heap.size w5 A∧N<A.heap.size∧Kt A w' w3.heap.size o) hp) ?_
 rintro _ w6 ⟨N,w0,eA',V,⟨rfl,A,z,ls,ts,D,E,hk,hAk,b_k0,hrd,h⟩|⟨rfl,hrd,A,hk,hAk,hK⟩⟩
 ·have zk:=hk.size
  have L:S5 W A M w3.heap.size o:=⟨by omega,by omega,by omega,by omega,by omega,by omega⟩
  obtain ⟨vr,hr⟩:=h.r
  obtain ⟨mid,J,l2⟩:=h.lay
  have ltA:N<w0.heap.size:=by have:=h.chg.size;omega
  have hB0:Below W.heap.size W w0:=(bt I hk).trans (h.chg.to_below (by rintro k (rfl|rfl)<;>omega) (by omega))
  have d:=hB0.grown V (AA hB0) (by rintro _ ⟨⟩;omega)
  have c6:=h.c.by V (fun e=>by have:=Option.some.inj e;omega)
  have c:=h.m.by V (fun e=>by have:=Option.some.inj e;omega)
  have r6:=hr.grow V (fun b e=>by cases e;omega)
  have H:=AN h.o fun b e=>V.block b (AB h.o b e).2 fun e2=>by have:=Option.some.inj e2;have:=(AB h.o b e).1;omega
  have G:=AN h.u fun b e=>V.block b (AB h.u b e).2 fun e2=>by have:=Option.some.inj e2;have:=(AB h.u b e).1;omega
  have tk:∀b,some N=some b→∃cs,AM w0 b 4 cs:=fun b e=>by cases e;exact ⟨_,b_k0⟩
  have J:=J.other V tk (by decide)
  have l2:=l2.other V tk (by decide) (by decide)
  have s_r:=r6.sl.bs d
  have b_A6:=r6.cell
  have h_g:GN w6 D ls:=⟨AH H,fun a ha=>(J.each a ha).at⟩
  have h_w:GG w6 E ts:=⟨AH G,fun a ha=>(l2.each a ha).at⟩
  have eB:EZ lt=if z=[]∧(FX ls).isSome=true then some (ls.map pn,ts.map pv) else none:=by rw [EZ,hrd];simp only [Hq]
  have z6:=V.size
  have z60:=AA d
  clear h hr b_k0 tk
  refine Ab O<|A9<|Ad O<|Aa (Cy O) O<|Ad O<|Cl 38 (v' := .bool false) O (cngA Value.bool (rfl))<|Ah (dj:=38) O O<|Aa (Ap (IP _) O ‹_› rfl) O ?_
  refine Ah (dj:=38) O O<|Aa (Ck O) O<|Ah (dj:=38) O O<|Bc underlying99 O (Ku _)<|Ah (dj:=38) O O<|Aa (Ap (H2 _) O ‹_› rfl) O ?_
  refine Ah (dj:=38) O O<|Aa (Au AJ O ‹_›) O ?_
  refine Ah (dj:=38) O O<|Aa (C1 O O) O<|Ci O<|Ad O ?_
  refine B7 46 O ?_ ?_
  ·intro g3
   have g3:0<z.length:=by simpa using g3
   have eN:EZ lt=none:=by rw [eB];exact if_neg fun ⟨q,_⟩=>by rw [q] at g3;exact absurd g3 (by decide)
   refine Ae (dj:=46) O O O O<|Ae (dj:=46) O O O O<|Ae (dj:=46) O O O O<|Bn O<|Ak<|Bx O<|Ai<|Lw.z2 O<|A5 (Co (cs:=[.slice none 0 0, .slice none 0 0]) (k:=2) (by kernel_rfl) O O O O c O) ?_
   rintro w9 ⟨S,m, -⟩
   have C:=d.grown m (AA d) (by rintro _ ⟨⟩;omega)
   refine Ab O<|Bw<|Dh O O O ‹_› underlying27 O O O ?_
   exact ⟨C,HW (AA C) (by rw [nE,eN];rfl) (by rw [nR,eN])⟩
  intro g3
  have g3:z=[]:=eq_nil_of_length_eq_zero (by have:¬0<z.length:=(by simpa using g3);omega)
  rw [g3] at eB
  refine Ah (dj:=46) O O<|Aa (Cc (k:=2) (H3 _) (Hx _) O O c) O<|Ah (dj:=46) O O<|Af O O (Ss D E ls ts w6 h_g h_w) ?_
  rintro _ w7 ⟨rfl,U⟩
  obtain ⟨l',hw'⟩:=PR hrd
  have hmay:=LY hw'
  rw [hmay]
  replace d:=bt d U
  have c:=c.bs U
  replace H:=AF H U
  replace G:=AF G U
  have J:=J.bs U
  have l2:=l2.bs U
  have z7:=U.size
  clear U h_g h_w s_r b_A6 r6 c6
  refine Ah (dj:=46) O O<|Aa (Cy O) O<|Ci O<|Ak<|Al O ?_ ?_
  ·intro g4
   have g4:(FX ls).isSome=false:=by simpa using g4
   have eN:EZ lt=none:=by rw [eB];exact if_neg fun ⟨_,q⟩=>by rw [g4] at q;cases q
   refine Ai<|Lw.z2 O<|A5 (Co (cs:=[.slice none 0 0, .slice none 0 0]) (k:=2) (by kernel_rfl) O O O O c O) ?_
   rintro w9 ⟨S,m, -⟩
   have C:=d.grown m (AA d) (by rintro _ ⟨⟩;omega)
   refine Ab O<|Bw<|Dh O O O ‹_› underlying27 O O O ?_
   exact ⟨C,HW (AA C) (by rw [nE,eN];rfl) (by rw [nR,eN])⟩
  intro g4
  have g4:(FX ls).isSome=true:=by simpa using g4
  rw [if_pos ⟨rfl,g4⟩] at eB
  refine B4<|Aq ?_
  refine Cw.any mixed (fun w8 hd _=> ?_)
  replace d:=bt d hd
  have c:=c.bs hd
  replace H:=AF H hd
  replace G:=AF G hd
  have J:=J.bs hd
  have l2:=l2.bs hd
  have z8:=hd.size
  clear hd
  refine Aw.take (i:=0) (Am Bj) O (by kernel_rfl) (by kernel_rfl) (by kernel_rfl) (fun _=>Cr underlying27 O (CK _)) O<|Aw.take (i:=1) (Am Bj) O (by kernel_rfl) (by kernel_rfl) (by kernel_rfl) (fun _=>Cr underlying24 O (CB _)) O<|Aw.take (i:=4) (Am Bj) O (by kernel_rfl) (by kernel_rfl) (by kernel_rfl) (fun _=>Cr underlying27 O (FH _)) O ?_
  refine G9 (i:=2) (j:=5) (by kernel_rfl) O O ?_ ?_
  refine Aa (Ap (EB _) O ‹_› rfl) O ?_
  refine Aw.back ?_
  refine G9 (i:=3) (j:=5) (by kernel_rfl) O O ?_ ?_
  refine Af O O (Jc D _ _ _ (AH H)) ?_
  rintro _ w ⟨rfl,s⟩
  have zn:=s.size
  replace d:=bt d s
  have c:=c.bs s
  replace H:=AF H s
  replace G:=AF G s
  have J:=J.bs s
  have l2:=l2.bs s
  refine Aw.back<|Aw.only (i:=5) (by kernel_rfl) O<|Aa (Ap (JT _) O ‹_› rfl) O ?_
  refine Aw.back<|Aw.take (i:=7) (Am Bj) O (by kernel_rfl) (by kernel_rfl) (by kernel_rfl) (fun _=>Cr underlying27 O (CK _)) O<|Aw.take (i:=8) (Am Bj) O (by kernel_rfl) (by kernel_rfl) (by kernel_rfl) (fun _=>Cr underlying24 O (CB _)) O<|Aw.only (i:=6) (by kernel_rfl) O<|Af O O (Ls E _ _ _ (AH G)) ?_
  rintro _ w ⟨rfl,s⟩
  have zn2:=s.size
  replace d:=bt d s
  have c:=c.bs s
  replace H:=AF H s
  replace G:=AF G s
  have J:=J.bs s
  have l2:=l2.bs s
  refine Aw.back<|Aw.only (i:=9) (by kernel_rfl) O ?_
  have k6:=AS.clip H
  have j6:=AS.clip G
  refine A5 (Ce (u:=clip D) (CB _) O O k6.sl.one' c (show 0<2 by decide)) ?_
  rintro w9 ⟨F,x, -⟩
  have Y:∀b,some o=some b→∃cs,AM _ b 27 cs:=fun b e=>by cases e;exact ⟨_,c⟩
  have k7:=AC k6 x Y (by decide)
  have j7:=AC j6 x Y (by decide)
  have l17:=J.other x Y (by decide)
  have l27:=l2.other x Y (by decide) (by decide)
  have zg7:=x.size
  have T:=d.grown x (AA d) (by rintro _ ⟨⟩;omega)
  refine Aw.back<|Aw.take (i:=10) (Am Bj) O (by kernel_rfl) (by kernel_rfl) (by kernel_rfl) (fun _=>Cr underlying27 O (FH _)) O<|Aw.only (i:=11) (by kernel_rfl) O<|A5 (Ce (u:=clip E) (FH _) O O j7.sl.one' F (show 1<2 by decide)) ?_
  rintro wA ⟨f,y, -⟩
  have Z:∀b,some o=some b→∃cs,AM w9 b 27 cs:=fun b e=>by cases e;exact ⟨_,F⟩
  have k8:=AC k7 y Z (by decide)
  have j8:=AC j7 y Z (by decide)
  have l18:=l17.other y Z (by decide)
  have l28:=l27.other y Z (by decide) (by decide)
  have zg8:=y.size
  have R:=T.grown y (AA T) (by rintro _ ⟨⟩;omega)
  have Q:[clip D,clip E].all (·.oneCell')=true:=by simp [k8.sl.one',j8.sl.one']
  replace f:AM wA o 27 [clip D,clip E]:=f
  refine Aw.back<|Aw.done (by kernel_rfl)<|Cf<|Aa (Cc (k:=2) (H3 _) (Hx _) O O f) O<|A5 (Co (cs:=[clip D,clip E]) (k:=2) (by kernel_rfl) O O O Q f O) ?_
  rintro wB ⟨S,m, -⟩
  have t9:∀b,some o=some b→∃cs,AM wA b 27 cs:=fun b e=>by cases e;exact ⟨_,f⟩
  have k9:=AC k8 m t9 (by decide)
  have j9:=AC j8 m t9 (by decide)
  have l19:=l18.other m t9 (by decide)
  have l29:=l28.other m t9 (by decide) (by decide)
  have zg9:=m.size
  have C:=R.grown m (AA R) (by rintro _ ⟨⟩;omega)
  refine Ab O<|Av<|Dh O O O ‹_› underlying27 O O O ?_
  exact ⟨C,clip D,clip E,ls,ts,by rw [nE,eB];rfl,by rw [nR,eB];rfl,⟨mid,FQ.low l19 (by omega),l29.topM (by omega)⟩,k9.mono (by omega),j9.mono (by omega)⟩
  refine Aa (Ap (JT _) O ‹_› rfl) O ?_
  refine Aw.back<|Aw.only (i:=3) (by kernel_rfl) O<|Af O O (Jc D _ _ _ (AH H)) ?_
  rintro _ w ⟨rfl,s⟩
  have zn:=s.size
  replace d:=bt d s
  have c:=c.bs s
  replace H:=AF H s
  replace G:=AF G s
  have J:=J.bs s
  have l2:=l2.bs s
  refine Aw.back<|Aw.take (i:=7) (Am Bj) O (by kernel_rfl) (by kernel_rfl) (by kernel_rfl) (fun _=>Cr underlying27 O (CK _)) O<|Aw.take (i:=8) (Am Bj) O (by kernel_rfl) (by kernel_rfl) (by kernel_rfl) (fun _=>Cr underlying24 O (CB _)) O<|Aw.only (i:=6) (by kernel_rfl) O<|Af O O (Ls E _ _ _ (AH G)) ?_
  rintro _ w ⟨rfl,s⟩
  have zn2:=s.size
  replace d:=bt d s
  have c:=c.bs s
  replace H:=AF H s
  replace G:=AF G s
  have J:=J.bs s
  have l2:=l2.bs s
  refine Aw.back<|Aw.only (i:=9) (by kernel_rfl) O ?_
  have k6:=AS.clip H
  have j6:=AS.clip G
  refine A5 (Ce (u:=clip D) (CB _) O O k6.sl.one' c (show 0<2 by decide)) ?_
  rintro w9 ⟨F,x, -⟩
  have Y:∀b,some o=some b→∃cs,AM _ b 27 cs:=fun b e=>by cases e;exact ⟨_,c⟩
  have k7:=AC k6 x Y (by decide)
  have j7:=AC j6 x Y (by decide)
  have l17:=J.other x Y (by decide)
  have l27:=l2.other x Y (by decide) (by decide)
  have zg7:=x.size
  have T:=d.grown x (AA d) (by rintro _ ⟨⟩;omega)
  refine Aw.back<|Aw.take (i:=10) (Am Bj) O (by kernel_rfl) (by kernel_rfl) (by kernel_rfl) (fun _=>Cr underlying27 O (FH _)) O<|Aw.only (i:=11) (by kernel_rfl) O<|A5 (Ce (u:=clip E) (FH _) O O j7.sl.one' F (show 1<2 by decide)) ?_
  rintro wA ⟨f,y, -⟩
  have Z:∀b,some o=some b→∃cs,AM w9 b 27 cs:=fun b e=>by cases e;exact ⟨_,F⟩
  have k8:=AC k7 y Z (by decide)
  have j8:=AC j7 y Z (by decide)
  have l18:=l17.other y Z (by decide)
  have l28:=l27.other y Z (by decide) (by decide)
  have zg8:=y.size
  have R:=T.grown y (AA T) (by rintro _ ⟨⟩;omega)
  have Q:[clip D,clip E].all (·.oneCell')=true:=by simp [k8.sl.one',j8.sl.one']
  replace f:AM wA o 27 [clip D,clip E]:=f
  refine Aw.back<|Aw.done (by kernel_rfl)<|Cf<|Aa (Cc (k:=2) (H3 _) (Hx _) O O f) O<|A5 (Co (cs:=[clip D,clip E]) (k:=2) (by kernel_rfl) O O O Q f O) ?_
  rintro wB ⟨S,m, -⟩
  have t9:∀b,some o=some b→∃cs,AM wA b 27 cs:=fun b e=>by cases e;exact ⟨_,f⟩
  have k9:=AC k8 m t9 (by decide)
  have j9:=AC j8 m t9 (by decide)
  have l19:=l18.other m t9 (by decide)
  have l29:=l28.other m t9 (by decide) (by decide)
  have zg9:=m.size
  have C:=R.grown m (AA R) (by rintro _ ⟨⟩;omega)
  refine Ab O<|Av<|Dh O O O ‹_› underlying27 O O O ?_
  exact ⟨C,clip D,clip E,ls,ts,by rw [nE,eB];rfl,by rw [nR,eB];rfl,⟨mid,FQ.low l19 (by omega),l29.topM (by omega)⟩,k9.mono (by omega),j9.mono (by omega)⟩
  refine Aa (Ap (JT _) O ‹_› rfl) O ?_
  refine Aw.back<|Aw.only (i:=2) (by kernel_rfl) O<|Aa (Ap (EB _) O ‹_› rfl) O ?_
  refine Aw.back<|Aw.only (i:=3) (by kernel_rfl) O<|Af O O (Jc D _ _ _ (AH H)) ?_
  rintro _ w ⟨rfl,s⟩
  have zn:=s.size
  replace d:=bt d s
  have c:=c.bs s
  replace H:=AF H s
  replace G:=AF G s
  have J:=J.bs s
  have l2:=l2.bs s
  refine Aw.back<|Aw.take (i:=7) (Am Bj) O (by kernel_rfl) (by kernel_rfl) (by kernel_rfl) (fun _=>Cr underlying27 O (CK _)) O<|Aw.take (i:=8) (Am Bj) O (by kernel_rfl) (by kernel_rfl) (by kernel_rfl) (fun _=>Cr underlying24 O (CB _)) O<|Aw.only (i:=6) (by kernel_rfl) O<|Af O O (Ls E _ _ _ (AH G)) ?_
  rintro _ w ⟨rfl,s⟩
  have zn2:=s.size
  replace d:=bt d s
  have c:=c.bs s
  replace H:=AF H s
  replace G:=AF G s
  have J:=J.bs s
  have l2:=l2.bs s
  refine Aw.back<|Aw.only (i:=9) (by kernel_rfl) O ?_
  have k6:=AS.clip H
  have j6:=AS.clip G
  refine A5 (Ce (u:=clip D) (CB _) O O k6.sl.one' c (show 0<2 by decide)) ?_
  rintro w9 ⟨F,x, -⟩
  have Y:∀b,some o=some b→∃cs,AM _ b 27 cs:=fun b e=>by cases e;exact ⟨_,c⟩
  have k7:=AC k6 x Y (by decide)
  have j7:=AC j6 x Y (by decide)
  have l17:=J.other x Y (by decide)
  have l27:=l2.other x Y (by decide) (by decide)
  have zg7:=x.size
  have T:=d.grown x (AA d) (by rintro _ ⟨⟩;omega)
  refine Aw.back<|Aw.take (i:=10) (Am Bj) O (by kernel_rfl) (by kernel_rfl) (by kernel_rfl) (fun _=>Cr underlying27 O (FH _)) O<|Aw.only (i:=11) (by kernel_rfl) O<|A5 (Ce (u:=clip E) (FH _) O O j7.sl.one' F (show 1<2 by decide)) ?_
  rintro wA ⟨f,y, -⟩
  have Z:∀b,some o=some b→∃cs,AM w9 b 27 cs:=fun b e=>by cases e;exact ⟨_,F⟩
  have k8:=AC k7 y Z (by decide)
  have j8:=AC j7 y Z (by decide)
  have l18:=l17.other y Z (by decide)
  have l28:=l27.other y Z (by decide) (by decide)
  have zg8:=y.size
  have R:=T.grown y (AA T) (by rintro _ ⟨⟩;omega)
  have Q:[clip D,clip E].all (·.oneCell')=true:=by simp [k8.sl.one',j8.sl.one']
  replace f:AM wA o 27 [clip D,clip E]:=f
  refine Aw.back<|Aw.done (by kernel_rfl)<|Cf<|Aa (Cc (k:=2) (H3 _) (Hx _) O O f) O<|A5 (Co (cs:=[clip D,clip E]) (k:=2) (by kernel_rfl) O O O Q f O) ?_
  rintro wB ⟨S,m, -⟩
  have t9:∀b,some o=some b→∃cs,AM wA b 27 cs:=fun b e=>by cases e;exact ⟨_,f⟩
  have k9:=AC k8 m t9 (by decide)
  have j9:=AC j8 m t9 (by decide)
  have l19:=l18.other m t9 (by decide)
  have l29:=l28.other m t9 (by decide) (by decide)
  have zg9:=m.size
  have C:=R.grown m (AA R) (by rintro _ ⟨⟩;omega)
  refine Ab O<|Av<|Dh O O O ‹_› underlying27 O O O ?_
  exact ⟨C,clip D,clip E,ls,ts,by rw [nE,eB];rfl,by rw [nR,eB];rfl,⟨mid,FQ.low l19 (by omega),l29.topM (by omega)⟩,k9.mono (by omega),j9.mono (by omega)⟩
 have zk:=hk.size
 obtain ⟨hC,p,q,b_m0⟩:=hK
 have hB0:Below W.heap.size W w0:=(bt I hk).trans (hC.to_below (by rintro k (rfl|rfl)<;>omega) (by omega))
 have d:=hB0.grown V (AA hB0) (by rintro _ ⟨⟩;omega)
 have c:=b_m0.by V (fun e=>by have:=Option.some.inj e;omega)
 have eN:EZ lt=none:=by rw [EZ,hrd]
 refine Ab O<|A9<|Ad O<|Aa (Cy O) O<|Ad O<|Cl 38 (v' := .bool true) O (cngA Value.bool (rfl))<|Ae (dj:=38) O O O O<|Ae (dj:=38) O O O O<|Ae (dj:=38) O O O O<|Ae (dj:=38) O O O O<|Ae (dj:=38) O O O O<|Ae (dj:=38) O O O O<|Bn O<|Ad O<|Ae (dj:=46) O O O O<|Ae (dj:=46) O O O O<|Ae (dj:=46) O O O O<|Bn O<|Ak<|Bx O<|Ai<|Lw.z2 O<|A5 (Co (cs:=[.slice none 0 0, .slice none 0 0]) (k:=2) (by kernel_rfl) O O O O c O) ?_
 rintro w9 ⟨S,m, -⟩
 have C:=d.grown m (AA d) (by rintro _ ⟨⟩;omega)
 refine Ab O<|Bw<|Dh O O O ‹_› underlying27 O O O ?_
 exact ⟨C,HW (AA C) (by rw [nE,eN];rfl) (by rw [nR,eN])⟩

-- dd: text
def U4 (ds:List Rw) (k v:Value):Prop:=∃r ∈ ds,k= .int .u8 (r.k:Int)∧v= .agg r.cells.toArray
def U5 (ds:List Rw) (k v:Value):Prop:=∃r ∈ ds,k=st r.word∧v=b8 (BitVec.ofNat 8 r.k)
def KW (ds:List Rw):Nat:=(HC.filter fun r=>decide (r ∉ ds)).length
theorem Oo {ds:List Rw} {r:Rw} (h:r ∈ HC) (a:r ∉ ds):KW (ds++[r])<KW ds:=by
 unfold KW
 have e:(HC.filter fun q=>decide (q ∉ ds++[r]))=(HC.filter fun q=>decide (q ∉ ds)).filter fun q=>decide (q≠r):=by
  rw [List.filter_filter]
  refine filter_congr fun q _=> ?_
  simp only [mem_append,mem_singleton,not_or,ne_eq]
  by_cases h1:q ∈ ds<;>by_cases h2:q=r<;>simp [h1,h2]
 rw [e]
 refine List.length_filter_lt_length_iff_exists.2 ⟨r,List.mem_filter.2 ⟨h,by simpa using a⟩,by simp⟩
theorem OI:∀r ∈ HC,(BitVec.ofNat 8 r.k).toNat=r.k:=by decide
theorem R4:∀r ∈ HC,∀q ∈ HC,r.k=q.k→r=q:=by decide
theorem Qq {ds:List Rw} {r:Rw} (h:∀q ∈ ds,q ∈ HC) (b:r ∈ HC):∀q ∈ ds++[r],q ∈ HC:=fun q a=>by
 rcases List.mem_append.1 a with a|a
 ·exact h q a
 ·rw [List.mem_singleton.1 a];exact b
theorem NT {ds:List Rw} {r:Rw} {p:Rw→Prop}:((∃q ∈ ds,p q)∨p r)↔∃q ∈ ds++[r],p q:=by
 constructor
 ·rintro (⟨q,a,e⟩|e)
  ·exact ⟨q,by simp [a],e⟩
  ·exact ⟨r,by simp,e⟩
 ·rintro ⟨q,a,e⟩
  rcases List.mem_append.1 a with h|h
  ·exact .inl ⟨q,h,e⟩
  ·rw [List.mem_singleton.1 h] at e;exact .inr e
theorem PS (ds:List Rw) (r:Rw) (k v:Value):(U4 ds k v∨(k= .int .u8 (r.k:Int)∧v= .agg r.cells.toArray))↔U4 (ds++[r]) k v:=NT (p:=fun r=>k= .int .u8 (r.k:Int)∧v= .agg r.cells.toArray)
theorem Qt (ds:List Rw) {r:Rw} (a:r ∈ HC) (k v:Value):(U5 ds k v∨(k=st r.word∧v= .int .u8 (r.k:Int)))↔U5 (ds++[r]) k v:=by
 rw [show Value.int .u8 (r.k:Int)=b8 (BitVec.ofNat 8 r.k) by rw [b8,OI r a]]
 exact NT (p:=fun r=>k=st r.word∧v=b8 (BitVec.ofNat 8 r.k))
theorem Sc (a:Value) (c:a.cells=[a].toArray):Tryz.prog.built 139 [(0,a)]=some [a].toArray:=by
 have b:Tryz.prog.info? 139=some Tryz.t139:=by kernel_rfl
 have d:Tryz.prog.info? 126=some Tryz.t126:=by kernel_rfl
 simp [Program.built,b,underlying139,d,Instr.fill,c]
 rfl
theorem JO (c:UInt8):∀s:List UInt8,(CE c s).length≤s.length+1∧∀x ∈ CE c s,x.length≤s.length
 |[]=>⟨AT 1,fun x a=>by rw [List.mem_singleton.1 a];exact AT _⟩
 |b::l=>by
  obtain ⟨g,f⟩:=JO c l
  obtain ⟨y,d,e⟩:∃y d,CE c l=y::d:=by
   cases h:CE c l with
   |nil=>exact absurd h (Lr c l)
   |cons y d=>exact ⟨y,d,rfl⟩
  rw [e] at g f
  unfold CE
  rw [e]
  split
  ·refine ⟨by simp at g ⊢;omega,fun x a=> ?_⟩
   rcases List.mem_cons.1 a with rfl|a
   ·exact Nat.zero_le _
   ·have:=f x a;simp only [length_cons];omega
  ·refine ⟨by simp at g ⊢;omega,fun x a=> ?_⟩
   rcases List.mem_cons.1 a with rfl|a
   ·have:=f y (by simp);simp only [List.headD_cons,length_cons];omega
   ·have:=f x (mem_cons_of_mem _ a);simp only [length_cons];omega
theorem QM (v:Value) (n:Nat):∀b,(cut v 1 0 n).ownBlock=some b→v.ownBlock=some b:=fun b h=>RY h
theorem K6 {w w' :World} {M:Nat} {d:TypeDesc} {S:Value→Value→Prop} {T:Nat→Prop} (h:BH w M d S) (g:FG T w w') (f:¬T M):BH w' M d S:=by
 have a:=h.lt
 obtain ⟨i,c,e,b⟩:=h
 exact ⟨i,c,by rw [g.block M a f];exact e,b⟩
def ED (ts:List (List UInt8)) (i:Nat) (pre:List PN):Prop:=EP 0 ts=match EP i (ts.drop i) with
 | .inl j=> .inl j
 | .inr ns=> .inr (pre++ns)
theorem Gu (ts:List (List UInt8)):ED ts 0 []:=by
 unfold ED
 rw [drop_zero]
 cases EP 0 ts<;>rfl
theorem ED.step {ts:List (List UInt8)} {i:Nat} {a:List PN} {t:List UInt8} {p:PN} (h:ED ts i a) (b:ts.drop i=t::ts.drop (i+1)) (d:i<32) (c:DH (CE 32 t)=some p):ED ts (i+1) (a++[p]):=by
 unfold ED at h ⊢
 rw [b] at h
 exact Qb h d c
theorem ED.no {ts:List (List UInt8)} {i:Nat} {a:List PN} {t:List UInt8} (h:ED ts i a) (b:ts.drop i=t::ts.drop (i+1)) (c:32≤i∨DH (CE 32 t)=none):EP 0 ts= .inl i:=by
 unfold ED at h
 rw [b] at h
 exact SU h c
theorem ED.done {ts:List (List UInt8)} {i:Nat} {a:List PN} (h:ED ts i a) (b:i=ts.length):EP 0 ts= .inr a:=by
 unfold ED at h
 rw [b,drop_length] at h
 rw [h]
 simp [EP]
theorem SV {s:List UInt8} (h:¬65536<s.length):(∀i,EP 0 (GX s)= .inl i→Jv s=(i:Int)∧Ju s=4∧MS s=[])∧∀a,EP 0 (GX s)= .inr a→Jv s=0∧Ju s=(if (Nj a).isSome then 0 else 1)∧MS s=if (Nj a).isSome then a else []:=by
 unfold Jv Ju MS
 rw [if_neg h,if_neg h,if_neg h]
 exact ⟨fun i e=>by rw [e];exact ⟨rfl,rfl,rfl⟩,fun a e=>by rw [e];exact ⟨rfl,rfl,rfl⟩⟩
def Uw (W w:World) (r:Value) (s:List UInt8):Prop:=∃vn ls,r= .tuple #[.agg [vn].toArray, .int .i64 (Jv s), .int .i64 (Ju s)]∧ls.map pn=MS s∧FQ w W.heap.size w.heap.size ls∧AS w W.heap.size 79 5 vn ls.length (Ib N5.cells ls)
theorem IX {W w:World} {s:List UInt8} {a e:Int} (f:W.heap.size≤w.heap.size) (c:Jv s=a) (b:Ju s=e) (d:MS s=[]):Uw W w (.tuple #[.agg [.slice none 0 0].toArray, .int .i64 a, .int .i64 e]) s:=
 ⟨_,[],by rw [c,b],by rw [d];rfl,f, .inl ⟨rfl, .inl ⟨rfl,rfl⟩⟩⟩
set_option maxHeartbeats 4000000 in
theorem NG (s:List UInt8) (W:World) (hG:IU W):AO prog 27 [st s] W (fun r w' =>Below W.heap.size W w' ∧Uw W w' r s):=by
 refine A6 (n:=74) func27 O<|Ai<|Dc NO O ?_
 rintro o w1 eA_g a m zhB
 have z1:=m.size
 refine Ab O<|Ab O<|A9<|Ad O<|Aa (Gb LA O) O<|Aa (C1 O O) O<|Ak<|Al O ?_ ?_
 ·intro g
  have g:65536<s.length:=by have:=AE g;omega
  refine Ai<|Aa (Cc (Im _) (CK _) O O ‹_›) O ?_
  refine A5 (Co (cs:=[.slice none 0 0]) (k:=1) (by kernel_rfl) O O O O a O) ?_
  rintro w2 ⟨a,hg,hz⟩
  have m:=m.grown hg (by omega) (by rintro _ ⟨⟩;omega)
  refine Ab O<|Ab O<|Bw<|En O O O O ‹_› underlying24 O O O ?_
  exact ⟨m,IX (AA m) (by rw [Jv,if_pos g]) (by rw [Ju,if_pos g]) (by rw [MS,if_pos g])⟩
 intro g
 have hs:¬65536<s.length:=by have:=AD g;omega
 clear g
 refine B8<|Af O O (PM w1) ?_
 rintro _ w2 ⟨hn2,M,rfl,zM,mM⟩
 have z2:=hn2.size
 have lM0:=mM.lt
 replace m:=bt m hn2
 have a:=a.bs hn2
 refine An (Ft (d:= .string)) O ?_
 rintro _ w3 ⟨rfl,E,hn3,zK⟩
 obtain ⟨K,hK⟩:∃K,K=w2.heap.size:=⟨_,rfl⟩
 rw [← hK] at E ⊢
 replace m:=bt m hn3
 have a:=a.bs hn3
 have mM:=mM.bs hn3
 refine Dc Tq O ?_
 rintro Q w4 eA_a f hn4 zhn4
 have z4:=hn4.size
 replace m:=bt m hn4
 have a:=a.bs hn4
 have mM:=mM.bs hn4
 have E:=E.bs hn4
 refine Dc Tp O ?_
 rintro N w5 eA_k l hn5 zhn5
 have z5:=hn5.size
 replace m:=bt m hn5
 have a:=a.bs hn5
 have f:=f.bs hn5
 have mM:=mM.bs hn5
 have E:=E.bs hn5
 have lM:=mM.lt
 have lK:=E.lt
 refine A5 (Ce (u:= .map (some M)) (SN _) O O O f (show 0<1 by decide)) ?_
 rintro w6 ⟨b_a6,hg6,hz6⟩
 have m:=m.grown hg6 (AA m) (by rintro _ ⟨⟩;omega)
 replace a:=FE a hg6 f (by decide)
 replace l:=FE l hg6 f (by decide)
 have l4:∀{X:Nat},X<w3.heap.size→some X≠some Q:=fun h e=>by have:=Option.some.inj e;omega
 have mM:=mM.keep (hg6.block M lM (l4 (by omega)))
 have E:=E.keep (hg6.block K lK (l4 (by omega)))
 replace f:AM w6 Q 122 [.map (some M)]:=b_a6
 clear hg6 b_a6
 refine A5 (Ce (u:= .map (some K)) (SM _) O O O l (show 0<1 by decide)) ?_
 rintro w7 ⟨b_k7,hg7,hz7⟩
 have m:=m.grown hg7 (AA m) (by rintro _ ⟨⟩;omega)
 replace a:=FE a hg7 l (by decide)
 replace f:=FE f hg7 l (by decide)
 have l5:∀{X:Nat},X<w3.heap.size→some X≠some N:=fun h e=>by have:=Option.some.inj e;omega
 have mM:=mM.keep (hg7.block M mM.lt (l5 (by omega)))
 have E:=E.keep (hg7.block K E.lt (l5 (by omega)))
 replace l:AM w7 N 135 [.map (some K)]:=b_k7
 clear hg7 b_k7 l4 l5
 refine A9<|Aa (Ap (Rf _) O ‹_› rfl) O ?_
 refine An (Xw.rangeM underlying122 O mM) O ?_
 rintro _ w8 ⟨rfl,mI,hn8,z8⟩
 obtain ⟨I,hI⟩:∃I,I=w7.heap.size:=⟨_,rfl⟩
 rw [← hI] at mI ⊢
 replace m:=bt m hn8
 have a:=a.bs hn8
 have f:=f.bs hn8
 have l:=l.bs hn8
 have E:=E.bs hn8
 have zz:=AA m
 clear mM hn8
 refine Ak<|As ?_
 refine B1 (S:=List Rw) (fun ds=>[(0,st s),(2, .pointer (some ⟨o,0,none⟩)),(5, .pointer (some ⟨Q,0,none⟩)),(6, .pointer (some ⟨N,0,none⟩)),(21, .pointer (some ⟨I,0,none⟩))]) (fun ds w' =>(∀r ∈ ds,r ∈ HC)∧Below W.heap.size W w' ∧w8.heap.size≤w'.heap.size∧AM w' o 24 [.slice none 0 0]∧AM w' Q 122 [.map (some M)]∧AM w' N 135 [.map (some K)]∧Lx w' I M (.int .u8) RD (U4 ds)∧EH w' K .string (U5 ds)) (fun ds=>KW ds) ([]) ⟨rfl,rfl,rfl,rfl,rfl,trivial⟩ ?_ ?_
 ·exact ⟨by simp,m,AT _,a,f,l,mI.congr fun k v=>by simp [U4],E.congr fun k v=>by simp [U5]⟩
 clear m a f l mI E zz
 rintro ds w9 ⟨hds,m,z9,a,f,l,mI,E⟩
 refine Ai<|An (Xw.nextM O mI) O ?_
 rintro x w10 hx
 rcases hx.symm with ⟨k,u,rfl,L,hno,mI2,hcur,hg,hz⟩|⟨rfl,rfl,hall⟩
 ·obtain ⟨r,hr,rfl,rfl⟩:=L
  have hrd:r ∉ ds:=fun h=>hno _ ⟨r,h,rfl,rfl⟩
  have hKI:K≠I:=by omega
  have m:=m.grown hg (AA m) (by rintro _ ⟨⟩;omega)
  have tI:∀{X:Nat},X<w7.heap.size→some X≠some I:=fun h e=>by have:=Option.some.inj e;omega
  have a:=a.by hg (tI (by omega))
  have f:=f.by hg (tI (by omega))
  have l:=l.by hg (tI (by omega))
  have E:=E.keep (hg.block K E.lt (tI (by omega)))
  refine Aa (Ar (i:=0) O O) O<|Ak<|Aq<|Cm O true (rfl)<|B4<|As<|Ai<|Aa (Ex.entryM O hcur) O<|Aa (Ar (i:=0) O O) O<|Aa (Ar (i:=1) O O) O<|Dc Na O ?_
  rintro A_r w11 eA_r T F zhn11
  have z11:=F.size
  replace m:=bt m F
  have a:=a.bs F
  have f:=f.bs F
  have l:=l.bs F
  have E:=E.bs F
  have mI2:=mI2.bs F
  clear hcur mI F
  refine Ab O<|A5 (Co (cs:=r.cells) (k:=5) (by kernel_rfl) O O O O T O) ?_
  rintro w12 ⟨b_r12,R,hz12⟩
  have m:=m.grown R (AA m) (by rintro _ ⟨⟩;omega)
  replace a:=FE a R T (by decide)
  replace f:=FE f R T (by decide)
  replace l:=FE l R T (by decide)
  have tr:∀{X:Nat},X<w10.heap.size→some X≠some A_r:=fun h e=>by have:=Option.some.inj e;omega
  have E:=E.keep (R.block K E.lt (tr (by omega)))
  have lI:=mI2.lt
  have mI2:=mI2.keep (R.block I lI.1 (tr (by omega))) (R.block M lI.2 (tr (by omega)))
  clear T tr
  refine Ak<|Az<|Aa (Ap (Rd _) O ‹_› rfl) O ?_
  refine Bc underlying125 O (HF _)<|Aa (Ap (GA _) O b_r12 (rfl:r.cells[0]? =some (st r.word))) O<|Ad O<|A5 (G5 (d:= .string) (u:= .int .u8 (r.k:Int)) underlying135 LA O O O trivial E (by rintro v ⟨q,hq,e1, -⟩;exact hrd (Kn r hr q (hds q hq) (KU e1) ▸ hq))) ?_
  rintro w13 ⟨mK13,Y,hz13⟩
  have tK:∀{X:Nat},X≠K→some X≠some K:=fun h e=>h (Option.some.inj e)
  have m:=m.grown Y (AA m) (by rintro _ ⟨⟩;omega)
  have a:=a.by Y (tK (by omega))
  have f:=f.by Y (tK (by omega))
  have l:=l.by Y (tK (by omega))
  have mI2:=mI2.keep (Y.block I (by omega) (tK (by omega))) (Y.block M (by omega) (tK (by omega)))
  exact A7<|A8<|A4 (Bu (ds++[r]) ⟨rfl,rfl,rfl,rfl,rfl,trivial⟩ (⟨Qq hds hr,m,by omega,a,f,l,mI2.congr (PS ds r),mK13.congr (Qt ds hr)⟩) (Oo hr hrd))
 have hall2:∀r ∈ HC,r ∈ ds:=fun r hr=>by
  obtain ⟨q,hq,e, -⟩:=hall _ _ ⟨r,hr,rfl,rfl⟩
  have:(r.k:Int)=(q.k:Int):=by injection e
  rwa [R4 r hr q (hds q hq) (by omega)]
 have jK:BH w10 K .string Uy:=(E.congr fun k v=>⟨fun ⟨r,h,e⟩=>⟨r,hds r h,e⟩,fun ⟨r,h,e⟩=>⟨r,hall2 r h,e⟩⟩).in
 have jM:BH w10 M (.int .u8) RD:=mI.map.in
 have zk:=jK.lt
 have zm:=jM.lt
 clear E mI hall hall2 hds
 refine Aa (Ar (i:=0) O O) O<|Ak<|Aq<|Cm O false (rfl)<|Bt<|Ax<|Ax<|Bg<|Cf<|Ad O<|Af O O (N8 s 10 w10 (hG.bs m) (by omega)) ?_
 rintro y w11 ⟨hn,o_y⟩
 replace m:=bt m hn
 have a:=a.bs hn
 have f:=f.bs hn
 have l:=l.bs hn
 have jK:=jK.bs hn
 have jM:=jM.bs hn
 have z11:=hn.size
 have s_y:=AK o_y
 have sh_y:=s_y.shp
 obtain ⟨c1,c2⟩:=JO 10 s
 have c0:=Lr 10 s
 have e0:(CE 10 s).getLastD []=(CE 10 s).getD ((CE 10 s).length - 1) default:=by
  rw [List.getLastD_eq_getLast?,List.getLast?_eq_getElem?,getD_eq_getElem?_getD];rfl
 obtain ⟨cs,hcs⟩:∃cs,cs=CE 10 s:=⟨_,rfl⟩
 have hlT:GX s=if cs.getD (cs.length - 1) default=[] then cs.dropLast else cs:=by rw [GX,e0,hcs]
 rw [← hcs] at c0 c1 c2 s_y sh_y
 have cp:0<cs.length:=List.length_pos_iff.2 c0
 obtain ⟨n,hn⟩:∃n,n=cs.length - 1:=⟨_,rfl⟩
 rw [← hn] at hlT
 refine Ab O<|A9<|Ad O<|Aa (Au BU O ‹_›) O ?_
 refine Aa (Dr O O (by omega)) O<|Ab O<|Ak<|Aq<|E1 10 (v' := .int .i64 (n:Int)) O (cngA (Value.int .i64) (by omega))<|Az<|Ad O<|Ad O<|Aa (Ba BU O O ‹_› _ O (by omega)) O ?_
 refine Aa (Bf (GA _) O ‹_› (by omega)) O ?_
 refine Aa (Ew O O) O<|Ak ?_
 refine D1 (St:=(Value×List (List UInt8))) (fun z=>[(2, .pointer (some ⟨o,0,none⟩)),(5, .pointer (some ⟨Q,0,none⟩)),(6, .pointer (some ⟨N,0,none⟩)),(9,z.1)]) (fun z w' =>w' =w11∧z.2=GX s∧AY st w' z.1 z.2∧(∀x ∈ z.2,x ∈ cs)∧z.2.length≤cs.length∧∀b,z.1.ownBlock=some b→y.ownBlock=some b) ?_ ?_
 ·refine Al O ?_ ?_
  ·intro e
   have e:cs.getD n default=[]:=AE e
   refine Az<|Ad O<|Ad O<|Aa (Ey (j:=n) BU O O s_y (by omega)) O<|Ab O<|A7 ?_
   exact Bo ((cut y 1 0 n,cs.take n)) ⟨rfl,rfl,rfl,rfl,trivial⟩ (⟨rfl,by rw [hlT,if_pos e,List.dropLast_eq_take,hn],AY.take s_y (by omega),fun x hx=>mem_of_mem_take hx,by rw [length_take];omega,QM y n⟩)
  intro e
  have e:¬cs.getD n default=[]:=AD e
  exact Cj<|Bo ((y,cs)) ⟨rfl,rfl,rfl,rfl,trivial⟩ (⟨rfl,by rw [hlT,if_neg e],s_y,fun x hx=>hx,AT _,fun b e=>e⟩)
 rintro ⟨yl,ts⟩ w12 ⟨rfl,hts,D,m1,m2,m3⟩
 dsimp only at hts D m1 m2 m3 ⊢
 have yo:∀b,yl.ownBlock=some b→w10.heap.size≤b∧b<w12.heap.size:=fun b e=>AB o_y b (m3 b e)
 have tl:∀x ∈ ts,x.length≤65536:=fun x hx=>by have:=c2 x (m1 x hx);omega
 obtain ⟨r1,r2⟩:=SV hs
 rw [← hts] at r1 r2
 clear s_y sh_y o_y hlT c0 c2 e0 hts m1 m3
 obtain ⟨B,eB⟩:∃B,B=w12.heap.size:=⟨_,rfl⟩
 rw [← eB] at yo
 refine Ch<|Aq<|Ai<|Ad O<|Aa (Au BU O ‹_›) O ?_
 refine Ad O<|Ak<|As ?_
 refine B1 (S:=(Nat×List N5×Value)) (fun z=>[(2, .pointer (some ⟨o,0,none⟩)),(5, .pointer (some ⟨Q,0,none⟩)),(6, .pointer (some ⟨N,0,none⟩)),(44,yl),(45, .int .i64 (ts.length:Int)),(46, .int .i64 (z.1:Int))]) (fun z w' =>z.1≤ts.length∧z.2.1.length=z.1∧z.1≤32∧ED ts z.1 (z.2.1.map pn)∧Below W.heap.size W w' ∧M7 w' B o z.2.1 z.2.2∧AM w' Q 122 [.map (some M)]∧AM w' N 135 [.map (some K)]∧BH w' K .string Uy∧BH w' M (.int .u8) RD∧AY st w' yl ts) (fun z=>ts.length - z.1) ((0,[], .slice none 0 0)) ⟨rfl,rfl,rfl,rfl,rfl,rfl,trivial⟩ ?_ ?_
 ·exact ⟨Nat.zero_le _,rfl,Nat.zero_le _,Gu ts,m,⟨a,World.ownsRow_nil _ _ _ _,Nat.le_of_eq eB⟩,f,l,jK,jM,D⟩
 clear m a f l jK jM D
 rintro ⟨i,ls,vn⟩ w13 ⟨hi,hl,h32,hA,m,L,f,l,jK,jM,D⟩
 dsimp only at hi hl h32 hA m L f l jK jM D ⊢
 have zB:B≤w13.heap.size:=L.lay.le
 refine Ai<|B6 O<|Ak<|Aq<|Al O ?_ ?_
 ·intro gi
  have gi:i<ts.length:=by have:=AE gi;omega
  obtain ⟨t,ht⟩:∃t,t=ts.getD i default:=⟨_,rfl⟩
  have hd:ts.drop i=t::ts.drop (i+1):=by
   rw [ht,getD_eq_getElem?_getD,getElem?_eq_getElem gi]
   exact drop_eq_getElem_cons gi
  have lt:t.length≤65536:=tl t (by
   rw [ht,getD_eq_getElem?_getD,getElem?_eq_getElem gi]
   exact getElem_mem gi)
  refine B4<|Aq<|As<|Ai<|Ad O<|Aa (Ba BU O O ‹_› _ O (by omega)) O ?_
  refine Aa (Bf (GA _) O ‹_› (by omega)) O ?_
  refine Ab O<|Ab O<|Ay<|Ad O ?_
  rw [← ht]
  refine Af O O (N8 t 32 w13 (hG.bs m) (by omega)) ?_
  rintro q w14 ⟨J,o_q⟩
  have z14:=J.size
  replace m:=bt m J
  have L:=L.bs J
  have f:=f.bs J
  have l:=l.bs J
  have jK:=jK.bs J
  have jM:=jM.bs J
  have D:=D.bs J
  have hG14:=hG.bs m
  have s_q:=AK o_q
  obtain ⟨q1,q2⟩:=JO 32 t
  have q0:=List.length_pos_iff.2 (Lr 32 t)
  refine Aa (Bl (vs:=[(0,q)]) (cs:=[q]) O (Sc _ s_q.one)) O<|An (Xw.box (cs:=[q]) O O) O ?_
  rintro _ w15 ⟨rfl,T,G,z15⟩
  obtain ⟨A,eA⟩:∃A,A=w14.heap.size:=⟨_,rfl⟩
  rw [← eA] at T ⊢
  replace m:=bt m G
  have L:=L.bs G
  have f:=f.bs G
  have l:=l.bs G
  have jK:=jK.bs G
  have jM:=jM.bs G
  have D:=D.bs G
  refine F9 (u:= .pointer (some ⟨A,0,none⟩)) To SL O (fun _=>rfl) (rfl) ?_
  rintro A_c w eA_c b_c C zhn16
  have z16:=C.size
  have hn1416:Below w14.heap.size w14 w:=bt G C
  replace m:=bt m C
  have L:=L.bs C
  have f:=f.bs C
  have l:=l.bs C
  have jK:=jK.bs C
  have jM:=jM.bs C
  have D:=D.bs C
  have T:=T.bs C
  refine Ay<|Ad O<|Aa (E5 O O) O<|Ad O ?_
  refine B7 57 O ?_ ?_
  ·intro g
   have g:32≤i:=by have:=AE g;omega
   have eP:=hA.no hd (.inl g)
   have a:=L.g
   refine Ae (dj:=57) O O O O<|Ae (dj:=57) O O O O<|Ae (dj:=57) O O O O<|Bn O<|Ak<|Bx O<|Ai<|Aa (Bl (vs:=[]) (cs:=[.slice none 0 0]) O (by kernel_rfl)) O<|Ad O<|A5 (Co (cs:=[.slice none 0 0]) (k:=1) (by kernel_rfl) O O O O a O) ?_
   rintro wb ⟨b_gb,hgb,hzb⟩
   have hBb:=m.grown hgb (AA m) (by rintro _ ⟨⟩;omega)
   refine Ab O<|Ab O<|Av<|Bh<|A0<|A0<|Bh<|A0<|En O O O O ‹_› underlying24 O O O ?_
   exact ⟨hBb,IX (AA hBb) (r1 _ eP).1 (r1 _ eP).2.1 (r1 _ eP).2.2⟩
  intro g
  have g:i<32:=by have:=AD g;omega
  have vo:∀b,vn.ownBlock=some b→B≤b∧b<w.heap.size:=fun b e=>AB L.o b e
  have hp:∀Z H,Z=w.heap.size→Below w.heap.size w H→AM H Z 4 [.bool false]→
    Ir prog 126 [.pointer (some ⟨o,0,none⟩), .pointer (some ⟨A_c,0,none⟩), .pointer (some ⟨N,0,none⟩), .pointer (some ⟨Q,0,none⟩)] H Nu
     (fun r w' =>r= .tuple #[]∧AM w' Z 4 [.bool false]∧∃H c vn',Below w.heap.size w H∧Z<H.heap.size∧AM w' Z 4 [.bool false]∧DH (CE 32 t)=some (pn c)∧FG (fun b=>b=A∨b=o∨vn.ownBlock=some b) H w' ∧M7 w' B o (ls++[c]) vn')
     (fun w' =>AM w' Z 4 [.bool false]∧DH (CE 32 t)=none∧∃H,Below w.heap.size w H∧Z<H.heap.size∧AM w' Z 4 [.bool false]∧FG (fun b=>b=A∨b=o∨vn.ownBlock=some b) H w' ∧M7 w' B o ls vn):=fun Z H eA' U p=>by
   have zk:=U.size
   have nS:¬(Z=A∨Z=o∨vn.ownBlock=some Z):=by
    rintro (e|e|e)
    ·omega
    ·omega
    ·have:=vo _ e;omega
   have hR:L1 w14 H A q (CE 32 t):=⟨s_q,bt hn1416 U,Nat.le_of_eq eA.symm,T.bs U⟩
   exact (Qa w14 H A o A_c N Q K M B q vn (CE 32 t) ls hG14 hR (fun x hx=>by have:=q2 x hx;omega) (by omega) q0 (jK.bs U) (jM.bs U) (by omega) (L.bs U) (by omega) (b_c.bs U) (l.bs U) (f.bs U) (by omega) (by omega)).mono
    (fun r w' ⟨h1,c,vn',h2,h3,h4⟩=>⟨h1,p.chg h3 nS,H,c,vn',U,BA p,p.chg h3 nS,h2,h3,h4⟩)
    fun w' ⟨h1,h2,h3⟩=>⟨p.chg h2 nS,h1,H,U,BA p,p.chg h2 nS,h2,h3⟩
  refine Ah (dj:=57) O O<|Aa (Ep (vs:=[]) (us:=[.pointer (some ⟨o,0,none⟩), .pointer (some ⟨A_c,0,none⟩), .pointer (some ⟨N,0,none⟩), .pointer (some ⟨Q,0,none⟩)]) O O) O<|Ah (dj:=57) O O<|Af O O (Kz 126 [.pointer (some ⟨o,0,none⟩), .pointer (some ⟨A_c,0,none⟩), .pointer (some ⟨N,0,none⟩), .pointer (some ⟨Q,0,none⟩)] w (fun Z w' =>∃H c vn',Below w.heap.size w H∧Z<H.heap.size∧AM w' Z 4 [.bool false]∧DH (CE 32 t)=some (pn c)∧FG (fun b=>b=A∨b=o∨vn.ownBlock=some b) H w' ∧M7 w' B o (ls++[c]) vn') (fun Z w' =>DH (CE 32 t)=none∧∃H,Below w.heap.size w H∧Z<H.heap.size∧AM w' Z 4 [.bool false]∧FG (fun b=>b=A∨b=o∨vn.ownBlock=some b) H w' ∧M7 w' B o ls vn) hp) ?_
  rintro _ w17 ⟨Z,w0,eA',hg,⟨rfl,H,c,vn',U,hAk,p,eN,V,hS2⟩|⟨rfl,eN,H,U,hAk,p,V,hS2⟩⟩
  ·have zk:=U.size
   have zc:=V.size
   have nS:∀{X:Nat},X<B→X≠o→¬(X=A∨X=o∨vn.ownBlock=some X):=fun h1 h2=>by
    rintro (e|e|e)
    ·omega
    ·exact h2 e
    ·have:=vo _ e;omega
   have hB0:Below W.heap.size W w0:=(bt m U).trans (V.to_below (by rintro k (rfl|rfl|e);omega;omega;have:=vo _ e;omega) (by omega))
   replace m:=hB0.grown hg (AA hB0) (by rintro _ ⟨⟩;omega)
   have tA:∀{X:Nat},X<B→some X≠some Z:=fun h e=>by have:=Option.some.inj e;omega
   replace f:=((f.bs U).chg V (nS (by omega) (by omega))).by hg (tA (by omega))
   replace l:=((l.bs U).chg V (nS (by omega) (by omega))).by hg (tA (by omega))
   replace jK:=FJ (K6 (jK.bs U) V (nS (by omega) (by omega))) hg (tA (by omega))
   replace jM:=FJ (K6 (jM.bs U) V (nS (by omega) (by omega))) hg (tA (by omega))
   replace D:=((D.bs U).chg V (fun b e _=>nS (yo b e).2 (by have:=yo b e;omega))).by hg (.inr fun e=>by have:=yo _ e;omega)
   replace L:=hS2.ob hg p (by decide) (by decide) (by decide)
   clear hp V p hS2 hB0 U b_c T o_q s_q
   have hN:ED ts (i+1) ((ls++[c]).map pn):=by
    rw [map_append]
    exact hA.step hd g eN
   refine Ah (dj:=57) O O<|Aa (Cy O) O<|Ci O<|Ak<|Cm O false (rfl)<|Cj<|A8<|Cs<|Cd O (by omega)<|Ad O<|A7 ?_
   exact A4 (Bu ((i+1,ls++[c],vn')) ⟨rfl,rfl,rfl,rfl,rfl,rfl,trivial⟩ (⟨gi,by rw [length_append,hl];rfl,g,hN,m,L,f,l,jK,jM,D⟩) (by simp only;omega))
  have zk:=U.size
  have zc:=V.size
  have hB0:Below W.heap.size W w0:=(bt m U).trans (V.to_below (by rintro k (rfl|rfl|e);omega;omega;have:=vo _ e;omega) (by omega))
  replace m:=hB0.grown hg (AA hB0) (by rintro _ ⟨⟩;omega)
  replace L:=hS2.ob hg p (by decide) (by decide) (by decide)
  have a:=L.g
  have eP:=hA.no hd (.inr eN)
  refine Ah (dj:=57) O O<|Aa (Cy O) O<|Ci O<|Ak<|Cm O true (rfl)<|Ai<|Aa (Bl (vs:=[]) (cs:=[.slice none 0 0]) O (by kernel_rfl)) O<|Ad O<|A5 (Co (cs:=[.slice none 0 0]) (k:=1) (by kernel_rfl) O O O O a O) ?_
  rintro wb ⟨b_gb,hgb,hzb⟩
  have hBb:=m.grown hgb (AA m) (by rintro _ ⟨⟩;omega)
  refine Ab O<|Ab O<|Av<|Bh<|A0<|A0<|Bh<|A0<|En O O O O ‹_› underlying24 O O O ?_
  exact ⟨hBb,IX (AA hBb) (r1 _ eP).1 (r1 _ eP).2.1 (r1 _ eP).2.2⟩
 intro gi
 have gi:i=ts.length:=by have:=AD gi;omega
 have eP:=hA.done gi
 obtain ⟨rA,rE,rR⟩:=r2 _ eP
 rw [Hq] at rE rR
 have a:=L.g
 clear f l jK jM D hA eP
 refine Bt<|Ax<|Ax<|Bg<|A4<|Ch<|Aq<|Ai<|Aa (Cc (Im _) (CK _) O O ‹_›) O ?_
 refine Af O O (JI vn ls w13 L.gn) ?_
 rintro _ w14 ⟨hn,rfl⟩
 have z14:=hn.size
 replace m:=bt m hn
 have L:=L.bs hn
 have a:=a.bs hn
 refine Aa (Cy O) O<|Ak<|Al O ?_ ?_
 ·intro g
  have g:(FX ls).isSome=false:=by simpa using g
  refine Ai<|Aa (Bl (vs:=[]) (cs:=[.slice none 0 0]) O (by kernel_rfl)) O<|A5 (Co (cs:=[.slice none 0 0]) (k:=1) (by kernel_rfl) O O O O a O) ?_
  rintro wb ⟨b_gb,hgb,hzb⟩
  have hBb:=m.grown hgb (AA m) (by rintro _ ⟨⟩;omega)
  refine Ab O<|Ab O<|Bw<|En O O O O ‹_› underlying24 O O O ?_
  exact ⟨hBb,IX (AA hBb) rA (by rw [rE,g];rfl) (by rw [rR,g];rfl)⟩
 intro g
 have g:(FX ls).isSome=true:=by simpa using g
 rw [g] at rE rR
 refine B8<|Bc underlying24 O (CB _)<|Aa (Ap (EB _) O ‹_› rfl) O ?_
 refine Af O O (Jc vn _ _ _ (AH L.o)) ?_
 rintro _ w15 ⟨rfl,hn⟩
 have z15:=hn.size
 replace m:=bt m hn
 have L:=L.bs hn
 have a:=a.bs hn
 have k6:=AS.clip L.o
 refine Bc underlying24 O (CB _)<|A5 (Ce (u:=clip vn) (CB _) O O k6.sl.one' a (show 0<1 by decide)) ?_
 rintro w ⟨b_g16,hg16,hz16⟩
 have t6:∀b,some o=some b→∃cs,AM w15 b 24 cs:=fun b e=>by cases e;exact ⟨_,a⟩
 have k7:=AC k6 hg16 t6 (by decide)
 have l7:=L.lay.other hg16 t6 (by decide)
 have m:=m.grown hg16 (AA m) (by rintro _ ⟨⟩;omega)
 replace a:AM w o 24 [clip vn]:=b_g16
 have one7:[clip vn].all (·.oneCell')=true:=by simp [k7.sl.one']
 clear b_g16
 refine Ay<|Aa (Cc (Im _) (CK _) O O ‹_›) O ?_
 refine A5 (Co (cs:=[clip vn]) (k:=1) (by kernel_rfl) O O O one7 a O) ?_
 rintro w17 ⟨b_g17,hg17,hz17⟩
 have t7:∀b,some o=some b→∃cs,AM w b 24 cs:=fun b e=>by cases e;exact ⟨_,a⟩
 have k8:=AC k7 hg17 t7 (by decide)
 have l8:=l7.other hg17 t7 (by decide)
 have m:=m.grown hg17 (AA m) (by rintro _ ⟨⟩;omega)
 refine Ab O<|Ab O<|Av<|En O O O O ‹_› underlying24 O O O ?_
 exact ⟨m,clip vn,ls,by rw [rA,rE];rfl,by rw [rR];rfl,FQ.low (l8.top (by omega)) (by omega),k8.mono (by omega)⟩

-- dd: text
theorem EM {w:World} {n p m i k o:Nat} {c d:TypeId} {u v:Value} {xs h:List Value} (l:w.ownsRow n c m u k xs) (j:w.ownsRow p d i v o h) (a:c≠d):u.ownBlock=none∨u.ownBlock≠v.ownBlock:=by
 cases hu:u.ownBlock with
 |none=>exact .inl rfl
 |some b=>
  refine .inr fun e=> ?_
  obtain ⟨cs,f⟩:=AS.ty (.inl l) hu
  obtain ⟨ds,g⟩:=AS.ty (.inl j) e.symm
  exact a (AZ f g)
set_option maxHeartbeats 1000000 in
theorem RA (v:Value) (ls:List N5) (W:World) (Q:IU W) (h:GN W v ls):AO prog 25 [.agg [v].toArray] W (fun r w' =>Below W.heap.size W w' ∧r= .tuple #[st (Kq ls), .int .i64 (Kr ls)]):=by
 have A:=Below.refl W.heap.size W
 have zG:=Q.sz
 have hG0:=Q
 have h0:=h
 have N:=h.sl
 refine A6 (n:=73) func25 O<|Ai<|C2 (cs:=[v]) O O O ?_
 rintro A_g w eA_g F b -
 have A:=A.bs b
 have Q:=Q.bs b
 have h:=h.bs b
 have N:=N.bs b
 refine Ab O<|Ab O<|A9<|Aa (Cc (Im _) (CK _) O O ‹_›) O ?_
 refine Af O O (JI v ls _ h) ?_
 rintro _ w ⟨b,rfl⟩
 have A:=A.bs b
 have Q:=Q.bs b
 have h:=h.bs b
 have N:=N.bs b
 have F:=F.bs b
 refine Aa (Cy O) O<|Ak<|Al O ?_ ?_
 ·intro g
  have g:(FX ls).isSome=false:=by simpa using g
  refine Ai<|Ab O<|Ab O<|Bw<|Bp O O O ?_
  exact ⟨A,by unfold Kq Kr;rw [g];rfl⟩
 intro g
 have g:(FX ls).isSome=true:=by simpa using g
 obtain ⟨h32,hL⟩:=Mk g
 rw [show Kq ls=CQ ls by unfold Kq;rw [g];rfl,show Kr ls=0 by unfold Kr;rw [g];rfl]
 clear g
 have z0:=AA A
 refine B8<|Dc Tr O ?_
 rintro G w eA_b b_b b zhn
 have zb:=b.size
 have yb:=BA b_b
 have A:=A.bs b
 have Q:=Q.bs b
 have h:=h.bs b
 have N:=N.bs b
 have F:=F.bs b
 have u:=Sd b_b
 refine Ay<|Af O O (PM w) ?_
 rintro _ w ⟨b,M,rfl,zM,K⟩
 have K:=K.in
 have zr:=b.size
 have A:=A.bs b
 have Q:=Q.bs b
 have h:=h.bs b
 have N:=N.bs b
 have F:=F.bs b
 have u:=u.bs b
 refine Ab O<|A9<|Bc underlying24 O (CB _)<|Aa (Ap (EB _) O ‹_› rfl) O ?_
 refine Aa (Au CH O ‹_›) O ?_
 refine Ad O<|Ak<|As ?_
 refine B1 (S:=Nat) (fun i=>[(4, .pointer (some ⟨G,0,none⟩)),(5, .map (some M)),(15,v),(16, .int .i64 (ls.length:Int)),(17, .int .i64 (i:Int))]) (fun i w' =>i≤ls.length∧Below W.heap.size W w' ∧S8 w' G (CQ (ls.take i))∧BH w' M (.int .u8) RD) (fun i=>ls.length - i) (0) ⟨rfl,rfl,rfl,rfl,rfl,trivial⟩ ?_ ?_
 ·exact ⟨Nat.zero_le _,A,u,K⟩
 clear u K A Q h N F
 rintro i w ⟨hi,A,u,K⟩
 have D:=hG0.bs A
 have hw:=h0.bs A
 have N:=hw.sl
 refine Ai<|B6 O<|Ak<|Aq<|Al O ?_ ?_
 ·intro gi
  have E:i<ls.length:=by have:=AE gi;omega
  obtain ⟨x,hx⟩:∃x,x=ls[i]:=⟨_,rfl⟩
  have hxm:x ∈ ls:=hx ▸ getElem_mem E
  have J:=hw.each x hxm
  have hcl:=hw.cells E
  rw [← hx] at hcl
  have L:=hL x hxm
  obtain ⟨r1,r2⟩:=PP L.kd
  obtain ⟨l1,l2⟩:=K7 L
  obtain ⟨r,hr⟩:∃r,r=BV x.k:=⟨_,rfl⟩
  rw [← hr] at r1 r2 l1 l2
  refine B4<|Aq<|As<|Ai<|Aa (Dy CH O O N i O E) O<|Aa (Es (cs:=x.cells) (Ik _) (HG _) O N O (by decide) hcl) O<|Cx (cs:=x.cells) GY O O O O (fun _=>rfl) (J.ones) ?_
  rintro A_x w eA_x s b zhn
  have A:=A.bs b
  have D:=D.bs b
  have u:=u.bs b
  have K:=K.bs b
  have J:=J.bs b
  refine Ay<|Ad O<|Bc underlying79 O (GR _)<|Aa (Ap (Il _) O ‹_› rfl) O ?_
  refine Aa (Fi underlying122 BR O O O K ⟨_,_,(show Tryz.prog.info? 125=some Tryz.t125 by kernel_rfl),rfl⟩ r1 r2) O<|Cx (cs:=r.cells) Na O O O O (fun _=>rfl) (rfl) ?_
  rintro A_r z eA_r t b zhn
  have A:=A.bs b
  have D:=D.bs b
  have u:=u.bs b
  have K:=K.bs b
  have J:=J.bs b
  have s:=s.bs b
  have zw:=A.size
  have hx0:=J
  have R:=s
  have U:=t
  have a:=Below.refl z.heap.size z
  obtain ⟨A1,hA1⟩:∃A1,A1=[r.word]++x.i.map Lib.itoa:=⟨_,rfl⟩
  obtain ⟨A2,V⟩:∃A2,A2=A1++(if r.nxt=[] then [] else [r.nxt]):=⟨_,rfl⟩
  obtain ⟨C,T⟩:∃C,C=A2++(if r.shaped then x.s.map Lib.itoa else if r.nxt=[] then [] else [Lib.itoa x.n]):=⟨_,rfl⟩
  have eW:EK r x=C++(if r.last=[] then [] else [r.last,Lib.itoa x.p]):=by rw [T,V,hA1];rfl
  have n3:C.length≤12:=by have:=cngA length eW;rw [length_append] at this;omega
  have n2:A2.length≤12:=by have:=cngA length T;rw [length_append] at this;omega
  have n1:A1.length≤12:=by have:=cngA length V;rw [length_append] at this;omega
  have b64:∀{l:List Int},(∀d ∈ l,0≤d∧d≤65536)→∀d ∈ l, -9223372036854775808≤d∧d≤9223372036854775807:=fun hl d H=>by have:=hl d H;omega
  refine Ay<|Bc underlying125 O (HF _)<|Aa (Ap (GA _) O ‹_› rfl) O ?_
  refine An (B5 (vs:=[r.word].map st) BU Kj O O O O O) O ?_
  rintro y w ⟨c, -,b, -⟩
  have a:=a.trans b
  have s:=R.bs a
  have t:=U.bs a
  have c:w.ownsRow z.heap.size 9 1 y ([r.word]:List (List UInt8)).length (([r.word]:List (List UInt8)).map st):=c
  refine Bc underlying79 O (BT _)<|Aa (Ap (BF _) O ‹_› rfl) O ?_
  refine Af O O (Hk y x.x [r.word] x.i z _ D a c (fun w' g _=>hx0.i.bs g) (b64 L.ii) (by have:=L.il;simp only [length_singleton];omega)) ?_
  rintro y w ⟨a,c, -⟩
  rw [← hA1] at c
  have s:=R.bs a
  have t:=U.bs a
  refine Ab O<|A9<|Bc underlying125 O (HF _)<|Aa (Ap (GA _) O ‹_› rfl) O ?_
  refine Aa (Eu O O) O<|Ak ?_
  refine D1 (St:=Value) (fun y=>[(4, .pointer (some ⟨G,0,none⟩)),(5, .map (some M)),(7, .pointer (some ⟨A_x,0,none⟩)),(8, .pointer (some ⟨A_r,0,none⟩)),(9,y),(15,v),(16, .int .i64 (ls.length:Int)),(17, .int .i64 (i:Int))]) (fun y w' =>Below z.heap.size z w' ∧w'.ownsRow z.heap.size 9 1 y A2.length (A2.map st)) ?_ ?_
  ·refine Al O ?_ ?_
   ·intro e
    have e:¬r.nxt=[]:=by simpa using e
    refine Az<|Ad O<|Bc underlying125 O (HF _)<|Aa (Ap (GA _) O ‹_› rfl) O ?_
    refine An (B5 (vs:=[r.nxt].map st) BU Kj O O O O O) O ?_
    rintro q w2 ⟨m, -,b, -⟩
    replace c:=AF c b
    have o:=a.size
    have a:=a.trans (b.mono o)
    have z2:=a.size
    refine An (Bz (base:=z.heap.size) BU Kj O (by decide) O O c (AH m) (Jm _) (by omega) (by omega) z2) O ?_
    rintro y w3 ⟨c,I, -, -⟩
    have a:=a.trans I
    rw [← map_append,show A1.length+1=(A1++[r.nxt]).length by rw [length_append];rfl] at c
    refine Ab O<|A7 ?_
    exact Bo (y) ⟨rfl,rfl,rfl,rfl,rfl,rfl,rfl,rfl,trivial⟩ (⟨a,by rw [V,if_neg e];exact c⟩)
   intro e
   have e:r.nxt=[]:=by simpa using e
   refine Cj ?_
   exact Bo (y) ⟨rfl,rfl,rfl,rfl,rfl,rfl,rfl,rfl,trivial⟩ (⟨a,by rw [V,if_pos e,append_nil];exact c⟩)
  clear a c s t
  rintro y w ⟨a,c⟩
  have s:=R.bs a
  have t:=U.bs a
  refine Aq ?_
  refine D1 (St:=Value) (fun y=>[(4, .pointer (some ⟨G,0,none⟩)),(5, .map (some M)),(7, .pointer (some ⟨A_x,0,none⟩)),(8, .pointer (some ⟨A_r,0,none⟩)),(9,y),(15,v),(16, .int .i64 (ls.length:Int)),(17, .int .i64 (i:Int))]) (fun y w' =>Below z.heap.size z w' ∧w'.ownsRow z.heap.size 9 1 y C.length (C.map st)) ?_ ?_
  ·refine As<|Ai<|Aa (Cc (k:=5) (Re _) (PD _) O O t) O<|Af O O (LF r w) ?_
   rintro _ w2 ⟨rfl,b⟩
   replace c:=AF c b
   have o:=a.size
   have a:=a.trans (b.mono o)
   have s:=R.bs a
   have t:=U.bs a
   refine Ab O<|Ak<|Al O ?_ ?_
   ·intro e
    refine Az<|Ad O<|Bc underlying79 O (BT _)<|Aa (Ap (BF _) O ‹_› rfl) O ?_
    refine Af O O (Hk y x.y A2 x.s z _ D a c (fun w' g _=>hx0.s.bs g) (b64 L.ss) (by have:=L.sl;omega)) ?_
    rintro y w3 ⟨a,c, -⟩
    refine Ab O<|A7<|A8 ?_
    exact Bo (y) ⟨rfl,rfl,rfl,rfl,rfl,rfl,rfl,rfl,trivial⟩ (⟨a,by rw [T,if_pos e];exact c⟩)
   intro e
   refine Ai<|Bc underlying125 O (HF _)<|Aa (Ap (GA _) O ‹_› rfl) O ?_
   refine Aa (Eu O O) O<|Ab O<|Ak<|Al O ?_ ?_
   ·intro e2
    have e2:¬r.nxt=[]:=by simpa using e2
    refine Az<|Ad O<|Bc underlying79 O (CA _)<|Aa (Ap (BI _) O ‹_› rfl) O ?_
    refine An (B5 (vs:=[x.n].map (Value.int .i64)) AG DY O O O O O) O ?_
    rintro q w3 ⟨m, -,I, -⟩
    replace c:=AF c I
    have z2:=a.size
    have a:=a.trans (I.mono z2)
    have m:w3.ownsRow w2.heap.size 3 1 q ([x.n]:List Int).length (([x.n]:List Int).map (Value.int .i64)):=m
    refine Af O O (Hk y q A2 [x.n] z _ D a c (fun w' _ g=>(AK m).by g (EM m c (by decide))) (fun d H=>by rw [List.mem_singleton.1 H];have:=L.nn;omega) (by simp only [length_singleton];omega)) ?_
    rintro y w4 ⟨a,c, -⟩
    refine Ab O<|A7<|A8 ?_
    exact Bo (y) ⟨rfl,rfl,rfl,rfl,rfl,rfl,rfl,rfl,trivial⟩ (⟨a,by rw [T,if_neg (by rw [e];decide),if_neg e2];exact c⟩)
   intro e2
   have e2:r.nxt=[]:=by simpa using e2
   refine Cj<|A8 ?_
   exact Bo (y) ⟨rfl,rfl,rfl,rfl,rfl,rfl,rfl,rfl,trivial⟩ (⟨a,by rw [T,if_neg (by rw [e];decide),if_pos e2,append_nil];exact c⟩)
  clear a c s t
  rintro y w ⟨a,c⟩
  have s:=R.bs a
  have t:=U.bs a
  refine Aq<|Ai<|Bc underlying125 O (HF _)<|Aa (Ap (GA _) O ‹_› rfl) O ?_
  refine Aa (Eu O O) O<|Ak ?_
  refine D1 (St:=Value) (fun y=>[(4, .pointer (some ⟨G,0,none⟩)),(5, .map (some M)),(9,y),(15,v),(16, .int .i64 (ls.length:Int)),(17, .int .i64 (i:Int))]) (fun y w' =>Below z.heap.size z w' ∧w'.ownsRow z.heap.size 9 1 y (EK r x).length ((EK r x).map st)) ?_ ?_
  ·refine Al O ?_ ?_
   ·intro e
    have e:¬r.last=[]:=by simpa using e
    refine Cw.any mixed (fun w2 H _=> ?_)
    replace c:=AF c H
    have o:=a.size
    have a:=a.trans (H.mono o)
    have s:=s.bs H
    have t:=t.bs H
    clear H o
    refine Dg (fun w' =>Below z.heap.size z w') (fun hC=> ?_) (a)
    refine Ca Cb<|Aj 0 O (fun w1 X=>Bq O) O<|Aj 1 O (fun w1 X=>Cr underlying125 O (HF _)) O<|Aj 2 O (fun w1 X=>Ap (GA _) O (AM.bs ‹_› X) O) O<|Aj 5 O (fun w1 X=>Cr underlying79 O (CA _)) O<|Aj 6 O (fun w1 X=>Ap (BI _) O (AM.bs ‹_› X) O) O<|Bv ?_
    refine E2 ‹_› (i:=3) (j:=7) (by kernel_rfl) O O ?_ ?_
    refine An (B5 (vs:=[r.last].map st) BU Kj O O O O O) O ?_
    rintro q w ⟨m, -,b, -⟩
    have o:=a.size
    have a:=a.trans (b.mono o)
    replace c:=AF c b
    try replace f:=AF f b
    clear o b
    refine AR.back ?_
    refine E2 ‹_› (i:=4) (j:=7) (by kernel_rfl) O O ?_ ?_
    have o:=a.size
    refine An (Bz (base:=z.heap.size) BU Kj O (by decide) O O c (AH m) (Jm _) (by omega) (by omega) o) O ?_
    rintro y w ⟨B,b,Y, -⟩
    try replace f:=f.kept Y (EM f c (by decide))
    have a:=a.trans b
    rw [← map_append,show C.length+1=(C++[r.last]).length by rw [length_append];rfl] at B
    replace c:=B
    clear o b Y m B
    refine AR.back<|AR.only ‹_› (i:=7) (by kernel_rfl) O ?_
    refine An (B5 (vs:=[x.p].map (Value.int .i64)) AG DY O O O O O) O ?_
    rintro p w ⟨f, -,b, -⟩
    have o:=a.size
    have a:=a.trans (b.mono o)
    replace c:=AF c b
    try replace m:=AF m b
    clear o b
    refine AR.back<|AR.only ‹_› (i:=8) (by kernel_rfl) O ?_
    refine Af O O (Hk y p (C++[r.last]) [x.p] z _ D a c (fun w' _ g=>(show AY (Value.int .i64) _ p [x.p] from AK f).by g (EM f c (by decide))) (fun d H=>by rw [List.mem_singleton.1 H];have:=L.pp;omega) (by simp only [length_append,length_singleton];omega)) ?_
    rintro y w ⟨a,c, -⟩
    refine AR.back<|Ca Cb<|Aj 9 O (fun w1 X=>Br O) O<|Bv<|AR.done ‹_› (by kernel_rfl) ?_
    exact Bo (y) ⟨rfl,rfl,rfl,rfl,rfl,rfl,trivial⟩ (⟨a,by rw [eW,if_neg e,show C++[r.last,Lib.itoa x.p]=C++[r.last]++[x.p].map Lib.itoa by simp];exact c⟩)
    refine An (B5 (vs:=[x.p].map (Value.int .i64)) AG DY O O O O O) O ?_
    rintro p w ⟨f, -,b, -⟩
    have o:=a.size
    have a:=a.trans (b.mono o)
    replace c:=AF c b
    try replace m:=AF m b
    clear o b
    refine AR.back<|AR.only ‹_› (i:=4) (by kernel_rfl) O ?_
    have o:=a.size
    refine An (Bz (base:=z.heap.size) BU Kj O (by decide) O O c (AH m) (Jm _) (by omega) (by omega) o) O ?_
    rintro y w ⟨B,b,Y, -⟩
    try replace f:=f.kept Y (EM f c (by decide))
    have a:=a.trans b
    rw [← map_append,show C.length+1=(C++[r.last]).length by rw [length_append];rfl] at B
    replace c:=B
    clear o b Y m B
    refine AR.back<|AR.only ‹_› (i:=8) (by kernel_rfl) O ?_
    refine Af O O (Hk y p (C++[r.last]) [x.p] z _ D a c (fun w' _ g=>(show AY (Value.int .i64) _ p [x.p] from AK f).by g (EM f c (by decide))) (fun d H=>by rw [List.mem_singleton.1 H];have:=L.pp;omega) (by simp only [length_append,length_singleton];omega)) ?_
    rintro y w ⟨a,c, -⟩
    refine AR.back<|Ca Cb<|Aj 9 O (fun w1 X=>Br O) O<|Bv<|AR.done ‹_› (by kernel_rfl) ?_
    exact Bo (y) ⟨rfl,rfl,rfl,rfl,rfl,rfl,trivial⟩ (⟨a,by rw [eW,if_neg e,show C++[r.last,Lib.itoa x.p]=C++[r.last]++[x.p].map Lib.itoa by simp];exact c⟩)
    refine An (B5 (vs:=[x.p].map (Value.int .i64)) AG DY O O O O O) O ?_
    rintro p w ⟨f, -,b, -⟩
    have o:=a.size
    have a:=a.trans (b.mono o)
    replace c:=AF c b
    try replace m:=AF m b
    clear o b
    refine AR.back<|AR.only ‹_› (i:=3) (by kernel_rfl) O ?_
    refine An (B5 (vs:=[r.last].map st) BU Kj O O O O O) O ?_
    rintro q w ⟨m, -,b, -⟩
    have o:=a.size
    have a:=a.trans (b.mono o)
    replace c:=AF c b
    try replace f:=AF f b
    clear o b
    refine AR.back<|AR.only ‹_› (i:=4) (by kernel_rfl) O ?_
    have o:=a.size
    refine An (Bz (base:=z.heap.size) BU Kj O (by decide) O O c (AH m) (Jm _) (by omega) (by omega) o) O ?_
    rintro y w ⟨B,b,Y, -⟩
    try replace f:=f.kept Y (EM f c (by decide))
    have a:=a.trans b
    rw [← map_append,show C.length+1=(C++[r.last]).length by rw [length_append];rfl] at B
    replace c:=B
    clear o b Y m B
    refine AR.back<|AR.only ‹_› (i:=8) (by kernel_rfl) O ?_
    refine Af O O (Hk y p (C++[r.last]) [x.p] z _ D a c (fun w' _ g=>(show AY (Value.int .i64) _ p [x.p] from AK f).by g (EM f c (by decide))) (fun d H=>by rw [List.mem_singleton.1 H];have:=L.pp;omega) (by simp only [length_append,length_singleton];omega)) ?_
    rintro y w ⟨a,c, -⟩
    refine AR.back<|Ca Cb<|Aj 9 O (fun w1 X=>Br O) O<|Bv<|AR.done ‹_› (by kernel_rfl) ?_
    exact Bo (y) ⟨rfl,rfl,rfl,rfl,rfl,rfl,trivial⟩ (⟨a,by rw [eW,if_neg e,show C++[r.last,Lib.itoa x.p]=C++[r.last]++[x.p].map Lib.itoa by simp];exact c⟩)
   intro e
   have e:r.last=[]:=by simpa using e
   refine Cj ?_
   exact Bo (y) ⟨rfl,rfl,rfl,rfl,rfl,rfl,trivial⟩ (⟨a,by rw [eW,if_pos e,append_nil];exact c⟩)
  clear a c s t
  rintro y w ⟨a,c⟩
  have l3:=Md 32 (EK r x)
  have l4:=MJ l2
  have eT:CQ (ls.take (i+1))=CQ (ls.take i)++(Lib.join (EK r x) [32]++[10]):=by
   rw [take_succ_eq_append_getElem E,On,← hx,hr]
   simp [CQ,JA]
  have lT:=Ko (ls:=ls.take i) fun y hy=>hL y (mem_of_mem_take hy)
  have lk:(ls.take i).length≤32:=by rw [length_take];omega
  have hne:0<(EK r x).length:=by unfold EK;simp only [length_append,length_singleton];omega
  refine Az<|Ad O<|Af O O (Tj y (EK r x) [32] _ _ c hne (by omega) (by omega)) ?_
  rintro _ w2 ⟨rfl,b⟩
  have o:=a.size
  have a:=a.trans (b.mono o)
  have hbl2:=u.bs a
  have hM2:=K.bs a
  have zM2:=hM2.lt
  have z2:=a.size
  refine Aa (Ex.addT O O (by simp only [length_singleton];omega)) O<|Af O O (Rm G (CQ (ls.take i)) (Lib.join (EK r x) [32]++[10]) _ hbl2 (by omega) (by simp only [length_append,length_singleton];omega)) ?_
  rintro _ w3 ⟨Z,I,hk3⟩
  rw [← eT] at Z
  have hM3:=hM2.oth hk3 (by omega)
  have hB3:=(A.trans (a.mono zw)).trans (I.mono (by omega))
  refine A7<|A8<|Cs<|Cd O (by omega)<|Ad O<|A7 ?_
  exact A4 (Bu (i+1) ⟨rfl,rfl,rfl,rfl,rfl,trivial⟩ (⟨E,hB3,Z,hM3⟩) (by omega))
 intro gi
 have E:i=ls.length:=by have:=AD gi;omega
 subst E
 rw [take_length] at u
 have zz:=A.size
 have zM2:=K.lt
 refine Bt<|Ax<|Ax<|Bg<|Cf<|Af O O (PF G (CQ ls) _ u (by omega)) ?_
 rintro _ w2 ⟨rfl,b⟩
 exact Ab rfl<|Ab rfl<|Av<|Bp rfl rfl rfl<|⟨A.trans (b.mono (by omega)),rfl⟩

-- dd: text
theorem Lj (n:BitVec 32) (W:World):AO prog 38 [u32 n] W (fun r w' =>Below W.heap.size W w' ∧w'.ownsRow W.heap.size 5 1 r (Crc.four n).length ((Crc.four n).map b8)):=by
 refine A6 (n:=15) func38 O<|Ai<|Ab O<|Ay<|Ad O<|Aa (C3 GO GP O) O<|Ad O<|Aa (D2 (j:=8) O O (by decide)) O<|Aa (C3 GO GP O) O<|Ad O<|Aa (D2 (j:=16) O O (by decide)) O<|Aa (C3 GO GP O) O<|Ad O<|Aa (D2 (j:=24) O O (by decide)) O<|Aa (C3 GO GP O) O<|An (B5 (vs:=(Crc.four n).map b8) AJ CO O O O O O) O ?_
 rintro q w ⟨a, -,b, -⟩
 exact Ab rfl<|Av<|Ao rfl rfl<|⟨b,a⟩
def Rt (l:Bs):Bs:=l++Crc.four (Crc.of l)
theorem PE (v:Value) (l:Bs) (W:World) (i:AY b8 W v l) (B:l.length≤16777216):AO prog 37 [v] W (fun r w' =>Below W.heap.size W w' ∧w'.ownsRow W.heap.size 5 1 r (Rt l).length ((Rt l).map b8)):=by
 have s:v.cells=[v].toArray:=i.one
 refine A6 (n:=9) func37 O<|Ai<|Ab O<|Ay<|Ad O<|An (C5 (k:=0) (xs:=[]) (base:=W.heap.size) AJ CO O (by decide) O O (World.ownsRow_nil _ _ _ _) i (BB (fun _=>rfl) _) (by omega) (by omega) (AT _)) O ?_
 rintro y o ⟨b,m, -⟩
 rw [nil_append,Nat.zero_add] at b
 have e:=i.bs m
 refine Ad O<|Af O O (Ta v l o e) ?_
 rintro _ u ⟨rfl,c⟩
 have g:=bt m c
 have p:=AF b c
 refine Af O O (Lj (Crc.of l) u) ?_
 rintro q x ⟨a,f⟩
 have d:=bt g a
 have t:=AF p a
 have A:(Crc.four (Crc.of l)).length=4:=rfl
 refine An (C5 (base:=W.heap.size) AJ CO O (by decide) O O t (AH f) (BB (fun _=>rfl) _) (by omega) (by omega) (AA d)) O ?_
 rintro z w ⟨j,h, -⟩
 rw [← map_append,← length_append] at j
 exact Ab rfl<|Av<|Ao rfl rfl<|⟨d.trans h,j⟩
theorem J8 (s:List UInt8) (W:World) (h:IU W):AO prog 134 [st s] W (fun r w' =>Below W.heap.size W w' ∧r= .tuple #[.int .i64 (Jv s), .int .i64 (Ju s)]):=by
 refine A6 (n:=15) func134 O<|Ai<|Ab O<|Ab O<|Ay<|Ad O<|Af O O (NG s W h) ?_
 rintro _ w ⟨e,a,ls,rfl, -,m,c⟩
 have k:[a].all (·.oneCell')=true:=by rw [all_cons,c.sl.one'];rfl
 refine Ad O<|Aa (Ar (i:=0) O O) O<|Aa (Ar (i:=1) O O) O<|Aa (Ar (i:=2) O O) O<|Cx (cs:=[a]) NO O O O O (fun _=>rfl) (k) ?_
 rintro g l b f d j
 exact Ab rfl<|Ab rfl<|Ay<|Ad rfl<|Ad rfl<|Ab rfl<|Ab rfl<|Av<|Bp rfl rfl rfl<|⟨bt e d,rfl⟩
def Iq:List PN:=[(1#8,[],[2,3],0,0),(2#8,[],[3,2],0,0),(7#8,[0,1],[],0,0),(5#8,[2],[],0,0)]
theorem My (k:BitVec 8) (v:Value) (a:v.cells=[v].toArray):Tryz.prog.built 79 [(0,b8 k),(2,v)]=some [b8 k, .slice none 0 0,v, .int .i64 0, .int .i64 0].toArray:=by
 have d:Tryz.prog.info? 79=some Tryz.t79:=by kernel_rfl
 have b:Tryz.prog.info? 3=some Tryz.t3:=by kernel_rfl
 have e:Tryz.prog.info? 77=some Tryz.t77:=by kernel_rfl
 have c:Tryz.prog.info? 70=some Tryz.t70:=by kernel_rfl
 simp [Program.built,d,underlying79,b,e,c,Instr.fill,a]
 rfl
theorem Mz (k:BitVec 8) (v:Value) (a:v.cells=[v].toArray):Tryz.prog.built 79 [(0,b8 k),(1,v)]=some [b8 k,v, .slice none 0 0, .int .i64 0, .int .i64 0].toArray:=by
 have d:Tryz.prog.info? 79=some Tryz.t79:=by kernel_rfl
 have b:Tryz.prog.info? 3=some Tryz.t3:=by kernel_rfl
 have e:Tryz.prog.info? 77=some Tryz.t77:=by kernel_rfl
 have c:Tryz.prog.info? 70=some Tryz.t70:=by kernel_rfl
 simp [Program.built,d,underlying79,b,e,c,Instr.fill,a]
 rfl
theorem QU (v:Value) (b:v.cells=[v].toArray):Tryz.prog.built 24 [(0,v)]=some [v].toArray:=by
 have a:Tryz.prog.info? 24=some Tryz.t24:=by kernel_rfl
 have c:Tryz.prog.info? 22=some Tryz.t22:=by kernel_rfl
 simp [Program.built,a,underlying24,c,Instr.fill,b]
 rfl
theorem RJ (W:World):AO prog 133 [] W (fun r w' =>Below W.heap.size W w' ∧∃N ls,r= .agg [N].toArray∧GN w' N ls∧ls.map pn=Iq):=by
 refine A6 (n:=11) func133 O<|Ai<|Dc NO O ?_
 rintro J w0 L E Q V
 refine Ay<|An (B5 (vs:=([2,3]:List Int).map (Value.int .i64)) AG DY O O O O O) O ?_
 rintro a R ⟨D, -,m, -⟩
 have t:AY (Value.int .i64) R a [2,3]:=AK D
 refine Aa (Bl (cs:=[b8 1#8, .slice none 0 0,a, .int .i64 0, .int .i64 0]) O (My 1#8 a t.one)) O<|An (B5 (vs:=([3,2]:List Int).map (Value.int .i64)) AG DY O O O O O) O ?_
 rintro b Y ⟨G, -,j, -⟩
 have o:AY (Value.int .i64) Y b [3,2]:=AK G
 refine Aa (Bl (cs:=[b8 2#8, .slice none 0 0,b, .int .i64 0, .int .i64 0]) O (My 2#8 b o.one)) O<|An (B5 (vs:=([0,1]:List Int).map (Value.int .i64)) AG DY O O O O O) O ?_
 rintro c U ⟨w, -,i, -⟩
 have q:AY (Value.int .i64) U c [0,1]:=AK w
 refine Aa (Bl (cs:=[b8 7#8,c, .slice none 0 0, .int .i64 0, .int .i64 0]) O (Mz 7#8 c q.one)) O<|An (B5 (vs:=([2]:List Int).map (Value.int .i64)) AG DY O O O O O) O ?_
 rintro d S ⟨A, -,h, -⟩
 have p:AY (Value.int .i64) S d [2]:=AK A
 refine Aa (Bl (cs:=[b8 5#8,d, .slice none 0 0, .int .i64 0, .int .i64 0]) O (Mz 5#8 d p.one)) O ?_
 obtain ⟨ls,g⟩:∃ls:List N5,ls=[⟨1#8, .slice none 0 0,a,[],[2,3],0,0⟩,⟨2#8, .slice none 0 0,b,[],[3,2],0,0⟩,⟨7#8,c, .slice none 0 0,[0,1],[],0,0⟩,⟨5#8,d, .slice none 0 0,[2],[],0,0⟩]:=⟨_,rfl⟩
 refine An (Xw.litA (cs:=Ib N5.cells ls) (k:=4) (vs:=[(0, .agg [b8 1#8, .slice none 0 0,a, .int .i64 0, .int .i64 0].toArray),(1, .agg [b8 2#8, .slice none 0 0,b, .int .i64 0, .int .i64 0].toArray),(2, .agg [b8 7#8,c, .slice none 0 0, .int .i64 0, .int .i64 0].toArray),(3, .agg [b8 5#8,d, .slice none 0 0, .int .i64 0, .int .i64 0].toArray)]) CH GY O (by decide) (by decide) (by decide) (by rw [g];kernel_rfl) (by rw [g];rfl)) O ?_
 rintro v K ⟨z, -,f, -⟩
 have C:=bt (bt (bt (bt (bt Q m) j) i) h) f
 have l:=((((E.bs m).bs j).bs i).bs h).bs f
 have s:=bt (bt i h) f
 have B:=bt j s
 have y:GN K v ls:=by
  refine ⟨by have:=AH z;rw [g] at this ⊢;exact this, ?_⟩
  rw [g]
  intro x F
  simp only [mem_cons,not_mem_nil,or_false] at F
  rcases F with rfl|rfl|rfl|rfl
  ·exact ⟨Ct _ _,t.bs B⟩
  ·exact ⟨Ct _ _,o.bs s⟩
  ·exact ⟨q.bs (bt h f),Ct _ _⟩
  ·exact ⟨p.bs f,Ct _ _⟩
 have H:ls.map pn=Iq:=by rw [g];rfl
 refine Aa (Bl (cs:=[v]) O (QU v y.sl.one)) O ?_
 have I:[v].all (·.oneCell')=true:=by rw [all_cons,y.sl.one'];rfl
 refine A5 (Co (cs:=[v]) (k:=1) (by kernel_rfl) O O O I l O) ?_
 rintro Z ⟨M,u,hz⟩
 have zB:=AA Q
 have X:∀b,some J=some b→∃cs,AM K b 24 cs:=fun b e=>by cases e;exact ⟨_,l⟩
 refine Av<|Gi O O ‹_› underlying24 O O O ?_
 refine ⟨C.grown u (AA C) (by rintro _ ⟨⟩;omega),v,ls,rfl, ?_,H⟩
 have T:=CY z u X (by decide)
 refine ⟨by have:=AH T;rw [g] at this ⊢;exact this, ?_⟩
 have n0:=m.size
 have n1:=j.size
 have n2:=i.size
 have n3:=h.size
 have n4:=f.size
 have lg:=BA E
 rw [g]
 intro x F
 simp only [mem_cons,not_mem_nil,or_false] at F
 rcases F with rfl|rfl|rfl|rfl
 ·exact ⟨Ct _ _,(t.bs B).by u (.inr fun e=>by have:=(AB D _ e).1;omega)⟩
 ·exact ⟨Ct _ _,(o.bs s).by u (.inr fun e=>by have:=(AB G _ e).1;omega)⟩
 ·exact ⟨(q.bs (bt h f)).by u (.inr fun e=>by have:=(AB w _ e).1;omega),Ct _ _⟩
 ·exact ⟨(p.bs f).by u (.inr fun e=>by have:=(AB A _ e).1;omega),Ct _ _⟩
theorem HT {d:Nat} (h:d<10):Lib.itoa (d:Int)=[UInt8.ofNat (48+d)]:=by rw [Lib.itoa_nonneg,Lib.decDigits_one h]
theorem OH:(FX (Iq.map un)).isSome=true:=by decide+kernel
theorem MY:CQ (Iq.map un)=[105,110,112,117,116,32,50,32,51,10,119,101,105,103,104,116,32,51,32,50,10,112,114,111,100,117,99,116,32,48,32,49,10,114,101,108,117,32,50,10]:=by
 have f:BV 1#8=⟨1,[105,110,112,117,116],0,0,[],[]⟩:=rfl
 have i:BV 2#8=⟨2,[119,101,105,103,104,116],0,0,[],[]⟩:=rfl
 have h:BV 7#8=⟨7,[112,114,111,100,117,99,116],2,2,[],[]⟩:=rfl
 have c:BV 5#8=⟨5,[114,101,108,117],1,1,[],[]⟩:=rfl
 have a:Lib.itoa 0=[48]:=HT (d:=0) (by decide)
 have g:Lib.itoa 1=[49]:=HT (d:=1) (by decide)
 have b:Lib.itoa 2=[50]:=HT (d:=2) (by decide)
 have e:Lib.itoa 3=[51]:=HT (d:=3) (by decide)
 simp [Iq,un,CQ,JA,EK,f,i,h,c,a,g,b,e,Rw.shaped,Lib.join,Lib.joinTail]
theorem PJ:Jv [105,110,112,117,116,32,52,10,114,101,108,117,32,48]=0∧Ju [105,110,112,117,116,32,52,10,114,101,108,117,32,48]=0∧(MS [105,110,112,117,116,32,52,10,114,101,108,117,32,48]).length=2:=by decide+kernel
theorem Sp:Jv [105,110,112,117,116,32,52,10,114,101,108,117]=1∧Ju [105,110,112,117,116,32,52,10,114,101,108,117]=4:=by decide+kernel
theorem So:Jv [105,110,112,117,116,32,52,10,114,101,108,117,32,49]=0∧Ju [105,110,112,117,116,32,52,10,114,101,108,117,32,49]=1:=by decide+kernel
theorem Sn:Jv [105,110,112,117,116,32,48,52]=0∧Ju [105,110,112,117,116,32,48,52]=4:=by decide+kernel
theorem TX:EL [1#8,2#8,3#8]=5:=by decide+kernel
theorem TW:EL [0#8,0#8,0#8,0#8]=4:=by decide+kernel
theorem TV:EL (Rt [7#8])=4:=by decide+kernel
theorem Lv (W:World) (c:IU W):AO prog 32 [] W (fun r w' =>r= .bool true∧Below W.heap.size W w'):=by
 have d:=Below.refl W.heap.size W
 refine A6 (n:=108) func32 O<|Ai<|Ab O<|Ay<|Af O O (RJ W) ?_
 rintro _ w ⟨a,L,ls,rfl,v,t⟩
 have d:=d.bs a
 have c:=c.bs a
 have B:Kq ls=[105,110,112,117,116,32,50,32,51,10,119,101,105,103,104,116,32,51,32,50,10,112,114,111,100,117,99,116,32,48,32,49,10,114,101,108,117,32,50,10]∧Kr ls=0:=by
  have E:(Iq.map un).map pn=ls.map pn:=by rw [t];rfl
  have I:FX ls=FX (Iq.map un):=by rw [← Hq,← Hq,E]
  have M:CQ ls=CQ (Iq.map un):=by
   have k:∀l:List N5,CQ l=((l.map pn).map fun p=>JA (un p)).flatten:=fun l=>by
    unfold CQ
    rw [map_map]
    rfl
   rw [k,k (Iq.map un),E]
  unfold Kq Kr
  rw [I,OH,M,MY]
  exact ⟨rfl,rfl⟩
 refine Af O O (RA L ls w c v) ?_
 rintro _ w ⟨a,rfl⟩
 have d:=d.bs a
 have c:=c.bs a
 clear a v
 rw [B.1,B.2]
 clear B t
 refine Ad O<|Aa (Ar (i:=0) O O) O<|Aa (Ar (i:=1) O O) O<|Ab O<|Ab O<|Ay<|Af O O (NG [105,110,112,117,116,32,52,10,114,101,108,117,32,48] w c) ?_
 rintro _ w ⟨a,C,xs,rfl,D, -,A⟩
 have d:=d.bs a
 have c:=c.bs a
 have J:xs.length=2:=by rw [← PJ.2.2,← D,length_map]
 rw [PJ.1,PJ.2.1]
 have N:[C].all (·.oneCell')=true:=by rw [all_cons,A.sl.one'];rfl
 have R:=A.sl.shp
 clear A D
 refine Ad O<|Aa (Ar (i:=0) O O) O<|Aa (Ar (i:=1) O O) O<|Aa (Ar (i:=2) O O) O<|Cx (cs:=[C]) NO O O O O (fun _=>rfl) (N) ?_
 rintro G w F b a -
 have d:=d.bs a
 have c:=c.bs a
 refine Ab O<|Ab O<|Ay<|Af O O (J8 [105,110,112,117,116,32,52,10,114,101,108,117] w c) ?_
 rintro _ w ⟨a,rfl⟩
 have d:=d.bs a
 have c:=c.bs a
 have b:=b.bs a
 rw [Sp.1,Sp.2]
 refine Ad O<|Aa (Ar (i:=0) O O) O<|Aa (Ar (i:=1) O O) O<|Ab O<|Ab O<|Ay<|Af O O (J8 [105,110,112,117,116,32,52,10,114,101,108,117,32,49] w c) ?_
 rintro _ w ⟨a,rfl⟩
 have d:=d.bs a
 have c:=c.bs a
 have b:=b.bs a
 rw [So.1,So.2]
 refine Ad O<|Aa (Ar (i:=0) O O) O<|Aa (Ar (i:=1) O O) O<|Ab O<|Ab O<|Ay<|Af O O (J8 [105,110,112,117,116,32,48,52] w c) ?_
 rintro _ w ⟨a,rfl⟩
 have d:=d.bs a
 have c:=c.bs a
 have b:=b.bs a
 rw [Sn.1,Sn.2]
 refine Ad O<|Aa (Ar (i:=0) O O) O<|Aa (Ar (i:=1) O O) O<|Ab O<|Ab O<|Ay<|An (B5 (vs:=[1#8,2#8,3#8].map b8) AJ CO O O O O O) O ?_
 rintro q w ⟨h, -,a, -⟩
 have d:=d.bs a
 have c:=c.bs a
 have b:=b.bs a
 refine Af O O (Li q [1#8,2#8,3#8] w (AK h)) ?_
 rintro _ w ⟨a,e,f,x,y,rfl, -,j⟩
 have d:=d.bs a
 have c:=c.bs a
 have b:=b.bs a
 have m:[e,f].all (·.oneCell')=true:=by rw [all_cons,all_cons,j.nv.sl.one',j.wv.sl.one'];rfl
 clear j
 rw [TX]
 refine Ad O<|Aa (Ar (i:=0) O O) O<|Aa (Ar (i:=1) O O) O<|Cx (cs:=[e,f]) K9 O O O O (fun _=>rfl) (m) ?_
 rintro z w o g a u
 have d:=d.bs a
 have c:=c.bs a
 have b:=b.bs a
 clear a g m
 refine Ab O<|Ay<|An (B5 (vs:=[0#8,0#8,0#8,0#8].map b8) AJ CO O O O O O) O ?_
 rintro Q w ⟨h, -,a, -⟩
 have d:=d.bs a
 have c:=c.bs a
 have b:=b.bs a
 refine Af O O (Li Q [0#8,0#8,0#8,0#8] w (AK h)) ?_
 rintro _ w ⟨a,e,f,x,y,rfl, -,j⟩
 have d:=d.bs a
 have c:=c.bs a
 have b:=b.bs a
 have m:[e,f].all (·.oneCell')=true:=by rw [all_cons,all_cons,j.nv.sl.one',j.wv.sl.one'];rfl
 clear j
 rw [TW]
 refine Ad O<|Aa (Ar (i:=0) O O) O<|Aa (Ar (i:=1) O O) O<|Cx (cs:=[e,f]) K9 O O O O (fun _=>rfl) (m) ?_
 rintro z w o g a u
 have d:=d.bs a
 have c:=c.bs a
 have b:=b.bs a
 clear a g m
 refine Ab O<|Ay<|An (B5 (vs:=[7#8].map b8) AJ CO O O O O O) O ?_
 rintro H w ⟨h, -,a, -⟩
 have d:=d.bs a
 have c:=c.bs a
 have b:=b.bs a
 refine Af O O (PE H [7#8] w (AK h) (by decide)) ?_
 rintro K w ⟨a,s⟩
 have d:=d.bs a
 have c:=c.bs a
 have b:=b.bs a
 refine Af O O (Li K (Rt [7#8]) w (AK s)) ?_
 rintro _ w ⟨a,e,f,x,y,rfl, -,j⟩
 have d:=d.bs a
 have c:=c.bs a
 have b:=b.bs a
 have m:[e,f].all (·.oneCell')=true:=by rw [all_cons,all_cons,j.nv.sl.one',j.wv.sl.one'];rfl
 clear j
 rw [TV]
 refine Ad O<|Aa (Ar (i:=0) O O) O<|Aa (Ar (i:=1) O O) O<|Cx (cs:=[e,f]) K9 O O O O (fun _=>rfl) (m) ?_
 rintro z w o g a u
 have d:=d.bs a
 have c:=c.bs a
 have b:=b.bs a
 clear a g m
 refine Ab O<|Ay<|Ad O<|Aa (Ew O O) O<|Ad O<|Cl 58 (v' := .bool true) O (cngA Value.bool ((by decide)))<|Ah (dj:=58) O O<|Ad O<|Ah (dj:=58) O O<|Aa (Cp O O) O<|Bn O<|Ad O<|Cl 62 (v' := .bool true) O (cngA Value.bool ((by decide)))<|Ah (dj:=62) O O<|Bc underlying24 O (CB _)<|Ah (dj:=62) O O<|Aa (Ap (EB _) O ‹_› rfl) O ?_
 refine Ah (dj:=62) O O<|Aa (Ed CH O R) O<|Ah (dj:=62) O O<|Aa (Cp O O) O<|Bn O<|Ad O<|Cl 68 (v' := .bool true) O (cngA Value.bool ((by rw [J];rfl)))<|Ah (dj:=68) O O<|Ad O<|Ah (dj:=68) O O<|Aa (Cp O O) O<|Bn O<|Ad O<|Cl 72 (v' := .bool true) O (cngA Value.bool ((by decide)))<|Ah (dj:=72) O O<|Ad O<|Ah (dj:=72) O O<|Aa (Cp O O) O<|Bn O<|Ad O<|Cl 76 (v' := .bool true) O (cngA Value.bool ((by decide)))<|Ah (dj:=76) O O<|Ad O<|Ah (dj:=76) O O<|Aa (Cp O O) O<|Bn O<|Ad O<|Cl 80 (v' := .bool true) O (cngA Value.bool ((by decide)))<|Ah (dj:=80) O O<|Ad O<|Ah (dj:=80) O O<|Aa (Cp O O) O<|Bn O<|Ad O<|Cl 84 (v' := .bool true) O (cngA Value.bool ((by decide)))<|Ah (dj:=84) O O<|Ad O<|Ah (dj:=84) O O<|Aa (Cp O O) O<|Bn O<|Ad O<|Cl 88 (v' := .bool true) O (cngA Value.bool ((by decide)))<|Ah (dj:=88) O O<|Ad O<|Ah (dj:=88) O O<|Aa (Cp O O) O<|Bn O ?_
 refine Ad O<|Cl 92 (v' := .bool true) O (cngA Value.bool ((by decide)))<|Ah (dj:=92) O O<|Ad O<|Ah (dj:=92) O O<|Aa (Cp O O) O<|Bn O<|Ad O<|Cl 96 (v' := .bool true) O (cngA Value.bool ((by decide)))<|Ah (dj:=96) O O<|Ad O<|Ah (dj:=96) O O<|Aa (Cp O O) O<|Bn O<|Ad O<|Cl 100 (v' := .bool true) O (cngA Value.bool ((by decide)))<|Ah (dj:=100) O O<|Ad O<|Ah (dj:=100) O O<|Aa (Cp O O) O<|Bn O<|Ad O<|Cl 104 (v' := .bool true) O (cngA Value.bool ((by decide)))<|Ah (dj:=104) O O<|Ad O<|Ah (dj:=104) O O<|Aa (Cp O O) O<|Bn O<|Ab O<|Av<|Ao O O ?_
 exact ⟨rfl,d⟩
end Go.Proofs.YtblbopcaflaldaaGreatDoor

namespace Go.Dd
open Go Go.RowKit List
section
variable {H : Type} {enc : TypeId × Value → H} {P : Program} {w : World}
def In (enc:TypeId×Value→H) (P:Program) (w:World) (t:TypeId) (cs:List Value):Prop:=
 ∃fuel d ps,DataW.trod enc P w 0 (fun _=>true) true fuel t cs=some (d,ps)∧∀x ∈ d.weights P t,x≤reachBytes
theorem In.int {t:TypeId} {k:IntKind} {cs:List Value} (b:P.underlying t=some (.int k)) (h:In enc P w t cs):∃m,cs=[.int k m]∧(Lit.int k m).wf=true:=by
 obtain ⟨a,d,ps,h,_⟩:=h
 cases a with
 |zero=>simp [DataW.trod] at h
 |succ a=>
  unfold DataW.trod at h
  rw [b] at h
  split at h<;>simp_all
theorem In.bool {t:TypeId} {cs:List Value} (c:P.underlying t=some .bool) (h:In enc P w t cs):∃b,cs=[.bool b]:=by
 obtain ⟨a,d,ps,h,_⟩:=h
 cases a with
 |zero=>simp [DataW.trod] at h
 |succ a=>
  unfold DataW.trod at h
  rw [c] at h
  split at h<;>simp_all
theorem HR {α β:Type} {f:α→Option β}:∀{l:List α} {r:List β},l.mapM f=some r→∀(i:Nat) (a:α),l[i]? =some a→∃b,f a=some b∧r[i]? =some b
 |[],r,h,i,a,hi=>by simp at hi
 |x::l,r,h,i,a,hi=>by
  simp only [mapM_cons,Option.bind_eq_bind,Option.pure_def] at h
  cases hx:f x with
  |none=>simp [hx] at h
  |some b=>
   cases hl:l.mapM f with
   |none=>simp [hx,hl] at h
   |some r' =>
    simp only [hx,hl,Option.bind_some,Option.some.injEq] at h
    subst h
    cases i with
    |zero=>simp at hi;subst hi;exact ⟨b,hx,by simp⟩
    |succ i=>simpa using HR hl i a (by simpa using hi)
theorem HQ {α β:Type} {f:α→Option β}:∀{l:List α} {r:List β},l.mapM f=some r→r.length=l.length
 |[],r,h=>by simp at h;simp [← h]
 |x::l,r,h=>by
  simp only [mapM_cons,Option.bind_eq_bind,Option.pure_def] at h
  cases hx:f x with
  |none=>simp [hx] at h
  |some b=>
   cases hl:l.mapM f with
   |none=>simp [hx,hl] at h
   |some r' =>
    simp only [hx,hl,Option.bind_some,Option.some.injEq] at h
    subst h
    simpa using HQ hl
theorem KH {base n:Nat} {a:Addr} {cs:List Value} (h:w.cells? base a n=some cs):cs.length=n∧∀j u,cs[j]? =some u→w.cell? (a.add j)=some u:=by
 unfold World.cells? at h
 split at h
 ·refine ⟨by simpa using HQ h,fun j u c=> ?_⟩
  have e:j<n:=by
   have:=HQ h
   have d:j<cs.length:=by
    rcases Nat.lt_or_ge j cs.length with h|h
    ·exact h
    ·simp [getElem?_eq_none h] at c
   simp at this;omega
  obtain ⟨b,g,f⟩:=HR h j j (by simp [e])
  rw [f] at c
  simp only [Option.some.injEq] at c
  rw [g,c]
 ·cases h
theorem GM {e:TypeId}:∀{ds:List (DataW H)} {i:Nat} {d:DataW H},ds[i]? =some d→∀x ∈ d.weights P e,x ∈ DataW.weightsAll P e ds
 |d0::ds,0,d,hd,x,hx=>by
  simp only [getElem?_cons_zero,Option.some.injEq] at hd
  subst hd
  simp only [DataW.weightsAll,mem_append];exact .inl hx
 |d0::ds,i+1,d,hd,x,hx=>by
  simp only [getElem?_cons_succ] at hd
  simp only [DataW.weightsAll,mem_append];exact .inr (GM hd x hx)
 |[],_,_,hd,_,_=>by simp at hd
theorem JK {sz:Nat}:∀{a:List (List Value)} (_:∀c ∈ a,c.length=sz) (i:Nat) (c:List Value),a[i]? =some c→(a.flatten.drop (i*sz)).take sz=c
 |c0::a,hl,0,c,b=>by
  simp only [getElem?_cons_zero,Option.some.injEq] at b
  subst b
  have:=hl c0 (by simp)
  simp [flatten_cons,← this]
 |c0::a,hl,i+1,c,b=>by
  simp only [getElem?_cons_succ] at b
  have e:=hl c0 (by simp)
  have d:=JK (fun c b=>hl c (by simp [b])) i c b
  rw [flatten_cons,show (i+1)*sz=c0.length+i*sz by rw [e,Nat.succ_mul];omega,← drop_drop,drop_left]
  exact d
 |[],_,_,_,b=>by simp at b
theorem IL {sz:Nat}:∀{a:List (List Value)} (_:∀c ∈ a,c.length=sz) (j:Nat) (u:Value),a.flatten[j]? =some u→∃i c,a[i]? =some c∧c[j - i*sz]? =some u∧i*sz≤j
 |[],_,j,u,h=>by simp at h
 |c0::a,hl,j,u,h=>by
  have f:=hl c0 (by simp)
  rw [flatten_cons,getElem?_append] at h
  split at h
  ·exact ⟨0,c0,by simp,by simpa using h,by simp⟩
  ·obtain ⟨i,c,d,b,g⟩:=IL (fun c e=>hl c (by simp [e])) (j - c0.length) u h
   refine ⟨i+1,c,by simpa using d, ?_,by rw [Nat.succ_mul];omega⟩
   rw [← b];congr 1;rw [Nat.succ_mul];omega
theorem In.slice {t e:TypeId} {sz:Nat} {cs:List Value} (I:P.underlying t=some (.slice e)) (E:P.cellsOf e=sz) (h:In enc P w t cs):
  ∃v n xs,cs=[v]∧Sl w sz v n xs∧n*P.bytesOf e≤reachBytes∧∀i,i<n→In enc P w e ((xs.drop (i*sz)).take sz):=by
 obtain ⟨g,d,ps,h,Q⟩:=h
 cases g with
 |zero=>simp [DataW.trod] at h
 |succ g=>
  unfold DataW.trod at h
  rw [I] at h
  split at h<;>try (simp_all;done)
  ·exact ⟨_,0,[],rfl,Ct w sz,by simp,fun i o=>by omega⟩
  ·rename_i W a len cap s
   simp only [Option.some.injEq,TypeDesc.slice.injEq] at s
   subst s
   simp only at h
   split at h
   ·rename_i k
    obtain ⟨_,L,C⟩:=k
    cases hel:(List.range len).mapM (fun i=>(w.cells? 0 (a.add (i*P.cellsOf e)) (P.cellsOf e)).bind (DataW.trod enc P w 0 (fun _=>true) true g e)) with
    |none=>simp [hel] at h
    |some elems=>
     rw [hel] at h
     simp only [Option.bind_some,Option.map_eq_some_iff] at h
     obtain ⟨A,M,h⟩:=h
     simp only [Prod.mk.injEq] at h
     obtain ⟨h,_⟩:=h
     subst h
     rw [E] at hel
     have z:elems.length=len:=by simpa using HQ hel
     have CP:∀i,i<len→∃c,w.cells? 0 (a.add (i*sz)) sz=some c∧∃b,DataW.trod enc P w 0 (fun _=>true) true g e c=some b∧elems[i]? =some b:=by
      intro i o
      obtain ⟨b,r,G⟩:=HR hel i i (by simp [o])
      cases hcc:w.cells? 0 (a.add (i*sz)) sz with
      |none=>simp [hcc] at r
      |some c=>rw [hcc] at r;exact ⟨c,rfl,b,r,G⟩
     have J:∃f:List (List Value),f.length=len∧∀i c,f[i]? =some c→w.cells? 0 (a.add (i*sz)) sz=some c:=by
      refine ⟨(List.range len).map (fun i=>(w.cells? 0 (a.add (i*sz)) sz).getD []),by simp,fun i c k=> ?_⟩
      have o:i<len:=by
       rcases Nat.lt_or_ge i len with h|h
       ·exact h
       ·rw [getElem?_eq_none (by simpa using h)] at k;cases k
      obtain ⟨U,y,_⟩:=CP i o
      simp [o,y] at k
      rw [y,k]
     obtain ⟨f,N,p⟩:=J
     have m:∀c ∈ f,c.length=sz:=fun c k=>by
      obtain ⟨i,o⟩:=List.mem_iff_getElem?.1 k
      exact (KH (p i c o)).1
     have F:∀(l:List (List Value)),(∀c ∈ l,c.length=sz)→l.flatten.length=l.length*sz:=by
      intro l
      induction l with
      |nil=>intro _;simp
      |cons c l ih=>intro h;rw [flatten_cons,length_append,ih (fun c k=>h c (by simp [k])),h c (by simp),length_cons,Nat.succ_mul];omega
     refine ⟨_,len,f.flatten,rfl,⟨by rw [F f m,N],some a,cap,rfl,L,C,(fun h=>by cases h),fun V T j u D=> ?_⟩, ?_,fun i o=> ?_⟩
     ·cases T
      obtain ⟨i,c,B,R,X⟩:=IL m j u D
      have:=(KH (p i c B)).2 _ _ R
      rw [Hi] at this
      rwa [show i*sz+(j - i*sz)=j by omega] at this
     ·have:=Q ((elems.length+A.length)*P.bytesOf e) (by simp [DataW.weights,I])
      rw [z] at this
      exact Nat.le_trans (Nat.mul_le_mul_right _ (Nat.le_add_right _ _)) this
     ·obtain ⟨c,k,b,r,G⟩:=CP i o
      have K:f[i]? =some c:=by
       have q:i<f.length:=by omega
       have B:=p i f[i] (getElem?_eq_getElem q)
       rw [k] at B
       rw [getElem?_eq_getElem q]
       exact B.symm
      rw [JK m i c K]
      refine ⟨g,b.1,b.2,by simpa using r,fun x S=>Q x ?_⟩
      simp only [DataW.weights,I,mem_cons,mem_append]
      right;left
      exact GM (i:=i) (d:=b.1) (by simp [G]) x S
   ·cases h
theorem In.struct {t:TypeId} {l:Array Field} {cs:List Value} (k:P.underlying t=some (.struct l)) (h:In enc P w t cs):
  cs.length=P.cellsOf t∧∀(i:Nat) (f:Field),l[i]? =some f→In enc P w f.type ((cs.drop f.offset).take (P.cellsOf f.type)):=by
 obtain ⟨a,d,ps,h,m⟩:=h
 cases a with
 |zero=>simp [DataW.trod] at h
 |succ a=>
  unfold DataW.trod at h
  rw [k] at h
  split at h<;>try (simp_all;done)
  rename_i r o c
  simp only [Option.some.injEq,TypeDesc.struct.injEq] at c
  subst c
  split at h
  ·rename_i n
   simp only [Option.map_eq_some_iff] at h
   obtain ⟨xs,e,h⟩:=h
   simp only [Prod.mk.injEq] at h
   obtain ⟨h,_⟩:=h
   subst h
   refine ⟨n,fun i f g=> ?_⟩
   obtain ⟨b,q,p⟩:=HR e i f (by simpa using g)
   refine ⟨a,b.1,b.2,by simpa using q,fun x s=>m x ?_⟩
   simp only [DataW.weights,k]
   exact DataW.weights_mem_each (j:=i) (t:=f.type) (d:=b.1) (by simp [g]) (by simp [p]) x s
  ·cases h
theorem Sk {m:Int} (h:(Lit.int .u8 m).wf=true):Value.int .u8 m=b8 (BitVec.ofInt 8 m):=by
 simp [Lit.wf,IntKind.min,IntKind.max,IntKind.signed,IntKind.bits] at h
 have:((BitVec.ofInt 8 m).toNat:Int)=m:=by rw [BitVec.toNat_ofInt];omega
 unfold b8;rw [this]
theorem SE {m:Int} (h:(Lit.int .u16 m).wf=true):Value.int .u16 m=u16 (BitVec.ofInt 16 m):=by
 simp [Lit.wf,IntKind.min,IntKind.max,IntKind.signed,IntKind.bits] at h
 have:((BitVec.ofInt 16 m).toNat:Int)=m:=by rw [BitVec.toNat_ofInt];omega
 unfold u16;rw [this]
theorem SD {m:Int} (h:(Lit.int .u32 m).wf=true):Value.int .u32 m=u32 (BitVec.ofInt 32 m):=by
 simp [Lit.wf,IntKind.min,IntKind.max,IntKind.signed,IntKind.bits] at h
 have:((BitVec.ofInt 32 m).toNat:Int)=m:=by rw [BitVec.toNat_ofInt];omega
 unfold u32;rw [this]
theorem SF {m:Int} (h:(Lit.int .i32 m).wf=true):Value.int .i32 m=i32 (BitVec.ofInt 32 m):=by
 simp [Lit.wf,IntKind.min,IntKind.max,IntKind.signed,IntKind.bits] at h
 have:(BitVec.ofInt 32 m).toInt=m:=by rw [BitVec.toInt_ofInt,Int.bmod_def];omega
 unfold i32;rw [this]
theorem Pv {m:Int} (h:(Lit.int .i64 m).wf=true): -9223372036854775808≤m∧m≤9223372036854775807:=by
 simp [Lit.wf,IntKind.min,IntKind.max,IntKind.signed,IntKind.bits] at h
 omega
theorem In.num {α:Type} {e:TypeId} {k:IntKind} (f:Int→α) (g:α→Value) (c:∀m,(Lit.int k m).wf=true→Value.int k m=g (f m)) (d:P.underlying e=some (.int k)) {cs:List Value} (h:In enc P w e cs):∃a,cs=[g a]:=by
 obtain ⟨m,rfl,b⟩:=h.int d
 exact ⟨f m,by rw [c m b]⟩
theorem In.slT {α:Type} {t e:TypeId} {g:α→Value} {cs:List Value} (r:P.underlying t=some (.slice e)) (o:P.cellsOf e=1) (q:∀cs,In enc P w e cs→∃a,cs=[g a]) (h:In enc P w t cs):
  ∃v l,cs=[v]∧AY g w v l∧l.length*P.bytesOf e≤reachBytes:=by
 obtain ⟨v,n,xs,rfl,p,s,j⟩:=h.slice r o
 have hall:∀i,i<n→∃a,xs[i]? =some (g a):=by
  intro i m
  obtain ⟨a,d⟩:=q _ (j i m)
  refine ⟨a, ?_⟩
  have:=cngA (fun l=>l[0]?) d
  simpa [getElem?_take,getElem?_drop] using this
 have b:xs.length=n:=by have:=p.len;omega
 have k:∀(c:List Value),(∀i,i<c.length→∃a,c[i]? =some (g a))→∃l:List α,c=l.map g:=by
  intro c
  induction c with
  |nil=>intro _;exact ⟨[],rfl⟩
  |cons y c ih=>
   intro h
   obtain ⟨a,d⟩:=h 0 (by simp)
   obtain ⟨l,rfl⟩:=ih (fun i m=>by simpa using h (i+1) (by simpa using m))
   simp only [getElem?_cons_zero,Option.some.injEq] at d
   exact ⟨a::l,by simp [d]⟩
 obtain ⟨l,rfl⟩:=k xs (by rw [b];exact hall)
 have f:l.length=n:=by simpa using b
 subst f
 exact ⟨v,l,rfl,p,s⟩
theorem Q5 {ts:List TypeId} {ds:List (DataW H)} {j:Nat} {t:TypeId} {v:Value} {d:DataW H} {ps:List MemPlace} (f:(DataW.weightsEach P ts ds).all (·≤reachBytes)=true) (c:ts[j]? =some t) (b:ds[j]? =some d)
  (h:DataW.Trod enc P w 0 (fun _=>true) true t v d ps):In enc P w t v.cells.toList:=by
 obtain ⟨a,h⟩:=h
 exact ⟨a,d,ps,h,fun x e=>by simpa using List.all_eq_true.1 f x (DataW.weights_mem_each c b x e)⟩
open Go.WideShapes in
theorem Si {α:Type} {base:Nat} {t e:TypeId} {g:α→Value} {v:Value} (d:P.underlying t=some (.slice e)) (b:P.cellsOf e=1) (i:∀cs,In enc P w e cs→∃a,cs=[g a]) (f:Value.okWide P w .any base t v) (h:In enc P w t v.cells.toList):
  ∃l,AY g w v l∧l.length*P.bytesOf e≤reachBytes:=by
 obtain ⟨a,len,cap,rfl⟩:=okWide_slice d f
 obtain ⟨v,l,c,k,j⟩:=h.slT d b i
 simp [Value.cells] at c
 subst c
 exact ⟨l,k,j⟩
open Go.WideShapes in
theorem JR {base:Nat} {t:TypeId} {c:Array Field} {v:Value} (b:P.underlying t=some (.struct c)) (a:Value.okWide P w .any base t v) (h:In enc P w t v.cells.toList):∃cs:List Value,v= .agg cs.toArray∧In enc P w t cs:=by
 obtain ⟨cs,rfl,_⟩:=okWide_struct b a
 exact ⟨cs.toList,by simp,by simpa [Value.cells] using h⟩
theorem OF {f:FuncId} {args:Array Value} (h:AO P f args.toList w (fun r w' =>r= .bool true∧Below w.heap.size w w')):
  Calls P f args w fun e w' =>e= .returned (.bool true)∧Below w.heap.size w w' :=by
 have:=h.2
 rw [Array.toArray_toList] at this
 exact this.mono fun e w' ⟨v,a,b,c⟩=>⟨by rw [a,b],c⟩
end
end Go.Dd

namespace Go.Proofs.YtblbopcaflaldaaGreatDoor
open Go Go.Dd Go.RowKit Go.ChangeShapes Go.WideShapes List Go.Proofs.Tryz
set_option maxRecDepth 100000
theorem SG {α:Type} {l:List α} (h:l.length=2):∃a b,l=[a,b]:=by
 match l,h with
 |[a,b],_=>exact ⟨a,b,rfl⟩
theorem Tu {H:Type} {enc:TypeId×Value→H} {w:World} {cs:List Value} (h:In enc prog w 75 cs):∃a:T4,cs=[a.x,a.y]∧a.at w∧a.s.length≤17592186044416∧a.l.length≤35184372088832:=by
 obtain ⟨b,c⟩:=h.struct underlying75
 have p:Tryz.prog.cellsOf 75=2:=by kernel_rfl
 have o:Tryz.prog.cellsOf 70=1:=by kernel_rfl
 have m:Tryz.prog.cellsOf 73=1:=by kernel_rfl
 rw [p] at b
 obtain ⟨x,y,rfl⟩:=SG b
 obtain ⟨q,s,d,i,g⟩:=(c 0 _ rfl).slT N1 (by kernel_rfl) (fun cs h=>(In.int Hr h).imp fun _ h=>h.1)
 obtain ⟨r,l,e,n,k⟩:=(c 1 _ rfl).slT TL (by kernel_rfl) (fun cs h=>In.num (BitVec.ofInt 32) i32 (fun _ h=>SF h) P0 h)
 have j:Tryz.prog.bytesOf 3=8:=by kernel_rfl
 have f:Tryz.prog.bytesOf 21=4:=by kernel_rfl
 rw [j] at g
 rw [f] at k
 simp [o,m] at d e
 subst d e
 have t:reachBytes≤140737488355328:=by decide
 exact ⟨⟨x,y,s,l⟩,rfl,⟨i,n⟩,by simp only;omega,by simp only;omega⟩

def Nm (a:T4):Prop:=a.s.length≤1125899906842624∧a.l.length≤1125899906842624
theorem N4 {H:Type} {enc:TypeId×Value→H} {w:World}:∀{n:Nat} {xs:List Value},xs.length=n*2→(∀i,i<n→In enc prog w 75 ((xs.drop (i*2)).take 2))→
  ∃ts:List T4,ts.length=n∧cellsOf ts=xs∧∀t ∈ ts,t.at w∧Nm t
 |0,xs,hl,_=>by
  obtain rfl:xs=[]:=eq_nil_of_length_eq_zero (by omega)
  exact ⟨[],rfl,rfl,fun t b=>by simp at b⟩
 |n+1,[],hl,_=>by simp at hl
 |n+1,[_],hl,_=>by simp at hl;omega
 |n+1,x::y::xs,hl,h=>by
  obtain ⟨a,c,d,j,k⟩:=Tu (h 0 (by omega))
  obtain ⟨ts,f,e,g⟩:=N4 (n:=n) (xs:=xs) (by simp at hl;omega) fun i l=>by
   have:=h (i+1) (by omega)
   rw [show (i+1)*2=i*2+1+1 by omega] at this
   simpa using this
  simp at c
  refine ⟨a::ts,by simp [f],by rw [cellsOf,e,c.1,c.2],fun t b=> ?_⟩
  rcases List.mem_cons.1 b with rfl|b
  ·exact ⟨d,by omega,by omega⟩
  ·exact g t b
theorem RN {H:Type} {enc:TypeId×Value→H} {w:World} {cs:List Value} (h:In enc prog w 25 cs):∃v,cs=[v]∧∃ts:List T4,GG w v ts∧ts.length≤1125899906842624∧∀t ∈ ts,Nm t:=by
 obtain ⟨v,n,xs,e,c,g,j⟩:=h.slice TO (sz:=2) (by kernel_rfl)
 obtain ⟨ts,f,d,b⟩:=N4 c.len j
 subst f d
 have k:reachBytes≤140737488355328:=by decide
 have i:Tryz.prog.bytesOf 75=48:=by kernel_rfl
 rw [i] at g
 exact ⟨v,e,ts,⟨c,fun t a=>(b t a).1⟩,by omega,fun t a=>(b t a).2⟩
def JW:Int→List Int→Int
 |n,[]=>n
 |n,x::l=>if n≤1048576 then JW (n+x) l else n
theorem KS:∀{l:List Int} {n:Int},(∀x ∈ l,0≤x)→n≤JW n l
 |[],n,_=>Int.le_refl _
 |x::l,n,h=>by
  unfold JW
  split
  ·have:=KS (n:=n+x) fun y a=>h y (mem_cons_of_mem _ a)
   have:=h x (by simp)
   omega
  ·exact Int.le_refl _
theorem N2 (s:List Int) (l:List (BitVec 32)):1≤KR s l:=by unfold KR;split<;>omega
theorem N3 {a:T4} (h:Nm a):KR a.s a.l≤4503599627370496:=by have b:=h.1;have c:=h.2;unfold KR;split<;>omega
theorem LC {l:List Int} {i:Nat} {n:Int} (a:i<l.length):JW n (l.drop i)=if n≤1048576 then JW (n+l.getD i default) (l.drop (i+1)) else n:=by
 rw [drop_eq_getElem_cons a]
 simp only [JW,getD_eq_getElem?_getD,getElem?_eq_getElem a,Option.getD_some]
theorem MI {ts:List T4} {j:Nat} (h:j<ts.length):∀i,i<2→∃q,[ts[j].x,ts[j].y][i]? =some q∧(cellsOf ts)[j*2+i]? =some q:=Iv (Hf h).1 (Hf h).2
theorem P4 (v:Value) (ts:List T4) (w:World) (h:GG w v ts) (F:ts.length≤1125899906842624) (B:∀t ∈ ts,Nm t):AO prog 39 [v] w (fun r w' =>r= .int .i64 (JW (ts.length:Int) (ts.map fun t=>KR t.s t.l))∧Below w.heap.size w w'):=by
 have f:=h.1
 have H:=f.le
 obtain ⟨T,s⟩:∃T,T=JW (ts.length:Int) (ts.map fun t=>KR t.s t.l):=⟨_,rfl⟩
 rw [← s]
 refine A6 (n:=25) func39 O<|Ai<|Ab O<|Ay<|Ad O<|Aa (Au GB O ‹_›) O ?_
 refine Ab O<|A9<|Ab O<|Ak<|As ?_
 refine B1 (S:=(Nat×Int)) (fun p=>[(0,v),(3, .int .i64 p.2),(4, .int .i64 (p.1:Int))]) (fun p w' =>p.1≤ts.length∧0≤p.2∧p.2≤1125899906842624+4503599627370496+1048576∧JW p.2 ((ts.map fun t=>KR t.s t.l).drop p.1)=T∧Below w.heap.size w w') (fun p=>ts.length - p.1) ((0,(ts.length:Int))) ⟨rfl,rfl,rfl,trivial⟩ ?_ ?_
 ·exact ⟨Nat.zero_le _,by simp only;omega,by simp only;omega,s.symm,Below.refl _ _⟩
 rintro ⟨i,n⟩ z ⟨x,q,u,c,k⟩
 replace x:i≤ts.length:=x
 replace q:0≤n:=q
 replace u:n≤1125899906842624+4503599627370496+1048576:=u
 replace c:JW n ((ts.map fun t=>KR t.s t.l).drop i)=T:=c
 have f:=f.bs k
 refine Aq<|Ai<|Ad O<|Ad O<|Aa (Au GB O ‹_›) O ?_
 refine B6 O<|Ad O ?_
 refine B7 11 O ?_ ?_
 ·intro g
  have b:i<ts.length:=by have:=AE g;omega
  have D:=LC (n:=n) (l:=ts.map fun t=>KR t.s t.l) (i:=i) (by rw [length_map];exact b)
  obtain ⟨a,o⟩:∃a,a=ts[i]:=⟨_,rfl⟩
  have A:(ts.map fun t=>KR t.s t.l).getD i default=KR a.s a.l:=by rw [getD_eq_getElem?_getD,getElem?_map,getElem?_eq_getElem b,← o];rfl
  have y:a ∈ ts:=o ▸ getElem_mem b
  have d:=B a y
  have E:=N2 a.s a.l
  have G:=N3 d
  have j:=MI b
  rw [← o] at j
  rw [D,A] at c
  refine Ah (dj:=11) O O<|Ad O<|Ah (dj:=11) O O<|Aa (D9 O O) O<|Bn O<|Ak<|Al O ?_ ?_
  ·intro e
   have e:n≤1048576:=AE e
   rw [if_pos e] at c
   refine B4<|Aq<|As<|Az<|Ad O<|Ad O<|Ad O<|Aa (Dy GB O O f i O b) O<|Aa (Es (cs:=[a.x,a.y]) (KJ _) (Ks _) O f O (by decide) j) O<|Af O O (Rn a z ((h.2 a y).bs k) d.1 d.2) ?_
   rintro _ I ⟨rfl,C⟩
   refine Cd O (by omega)<|Ab O<|A7<|A8<|Cs<|Ad O<|Cd O (by omega)<|Ab O<|A7 ?_
   exact A4 (Bu ((i+1,n+KR a.s a.l)) ⟨rfl,rfl,rfl,trivial⟩ (⟨b,by simp only;omega,by simp only;omega,c,bt k C⟩) (by simp only;omega))
  intro e
  have e:¬n≤1048576:=AD e
  rw [if_neg e] at c
  exact Bt<|Ax<|Ax<|Bg<|Cf<|Ad rfl<|Ab rfl<|Av<|Ao rfl rfl<|⟨by rw [← c],k⟩
 intro g
 have b:i=ts.length:=by have:=AD g;omega
 have m:n=T:=by
  rw [b,drop_of_length_le (by simp)] at c;exact c
 exact Ae (dj:=11) rfl rfl rfl rfl<|Ae (dj:=11) rfl rfl rfl rfl<|Ci rfl<|Ak<|F3 rfl<|Bt<|Ax<|Ax<|Bg<|Cf<|Ad rfl<|Ab rfl<|Av<|Ao rfl rfl<|⟨by rw [m],k⟩
theorem KT:∀{l:List Int} {n m:Int},(∀x ∈ l,x≤m)→0≤m→JW n l≤max n (1048576+m)
 |[],n,m,_,_=>by simp only [JW];omega
 |x::l,n,m,h,hm=>by
  unfold JW
  split
  ·have:=KT (n:=n+x) (m:=m) (fun y a=>h y (mem_cons_of_mem _ a)) hm
   have:=h x (by simp)
   omega
  ·omega

structure N5.few (a:N5):Prop where
 i:a.i.length≤1125899906842624
 s:a.s.length≤1125899906842624
 n: -9223372036854775808≤a.n∧a.n≤9223372036854775807
 p: -9223372036854775808≤a.p∧a.p≤9223372036854775807
theorem RV {α:Type} {l:List α} (h:l.length=5):∃a b c d e,l=[a,b,c,d,e]:=by
 match l,h with
 |[a,b,c,d,e],_=>exact ⟨a,b,c,d,e,rfl⟩
theorem RO {H:Type} {enc:TypeId×Value→H} {w:World} {cs:List Value} (h:In enc prog w K5 cs):∃a:N5,cs=a.cells∧N5.at w a∧a.few:=by
 obtain ⟨c,b⟩:=h.struct underlying79
 have x:Tryz.prog.cellsOf K5=5:=by kernel_rfl
 have v:Tryz.prog.cellsOf 70=1:=by kernel_rfl
 have t:Tryz.prog.cellsOf 3=1:=by kernel_rfl
 have B:Tryz.prog.cellsOf 77=1:=by kernel_rfl
 rw [x] at c
 obtain ⟨f,m,A,D,G,rfl⟩:=RV c
 obtain ⟨k,e⟩:=In.num (BitVec.ofInt 8) b8 (fun _ h=>Sk h) BR (b 0 _ rfl)
 obtain ⟨C,i,d,q,o⟩:=(b 1 _ rfl).slT N1 (by kernel_rfl) (fun cs h=>(In.int Hr h).imp fun _ h=>h.1)
 obtain ⟨E,s,g,u,r⟩:=(b 2 _ rfl).slT N1 (by kernel_rfl) (fun cs h=>(In.int Hr h).imp fun _ h=>h.1)
 obtain ⟨n,j,z⟩:=In.int Hr (b 3 _ rfl)
 obtain ⟨p,l,y⟩:=In.int Hr (b 4 _ rfl)
 have f:Tryz.prog.bytesOf 3=8:=by kernel_rfl
 rw [f] at o r
 simp [v,t,B] at e d g j l
 subst d g e j l
 have F:reachBytes≤140737488355328:=by decide
 exact ⟨⟨k,m,A,i,s,n,p⟩,rfl,⟨q,u⟩,⟨by simp only;omega,by simp only;omega,Pv z,Pv y⟩⟩
theorem LS {H:Type} {enc:TypeId×Value→H} {w:World}:∀{n:Nat} {xs:List Value},xs.length=n*5→(∀i,i<n→In enc prog w K5 ((xs.drop (i*5)).take 5))→
  ∃ls:List N5,ls.length=n∧Ib N5.cells ls=xs∧∀a ∈ ls,N5.at w a∧a.few
 |0,xs,hl,_=>by
  obtain rfl:xs=[]:=eq_nil_of_length_eq_zero (by omega)
  exact ⟨[],rfl,rfl,fun t b=>by simp at b⟩
 |n+1,xs,hl,h=>by
  obtain ⟨a,g,d,c⟩:=RO (h 0 (by omega))
  obtain ⟨ls,f,e,j⟩:=LS (n:=n) (xs:=xs.drop 5) (by simp;omega) fun i k=>by
   have:=h (i+1) (by omega)
   rwa [drop_drop,show 5+i*5=(i+1)*5 by omega]
  refine ⟨a::ls,by simp [f], ?_,fun t b=> ?_⟩
  ·rw [show Ib N5.cells (a::ls)=a.cells++Ib N5.cells ls from by simp [Ib],e,← g]
   simp
  ·rcases List.mem_cons.1 b with rfl|b
   ·exact ⟨d,c⟩
   ·exact j t b
theorem Q6 {H:Type} {enc:TypeId×Value→H} {w:World} {cs:List Value} (h:In enc prog w 22 cs):∃v,cs=[v]∧∃ls:List N5,GN w v ls∧ls.length≤1125899906842624∧∀t ∈ ls,t.few:=by
 obtain ⟨v,n,xs,e,c,g,j⟩:=h.slice TP (sz:=5) (by kernel_rfl)
 obtain ⟨ls,f,d,b⟩:=LS c.len j
 subst f d
 have k:reachBytes≤140737488355328:=by decide
 have i:Tryz.prog.bytesOf 79=72:=by kernel_rfl
 rw [i] at g
 exact ⟨v,e,ls,⟨c,fun t a=>(b t a).1⟩,by omega,fun t a=>(b t a).2⟩
theorem Q7 {H:Type} {enc:TypeId×Value→H} {w:World} {cs:List Value} (h:In enc prog w 24 cs):∃v,cs=[v]∧∃ls:List N5,GN w v ls∧ls.length≤1125899906842624∧∀t ∈ ls,t.few:=by
 obtain ⟨a,b⟩:=h.struct underlying24
 have e:Tryz.prog.cellsOf 24=1:=by kernel_rfl
 have d:Tryz.prog.cellsOf 22=1:=by kernel_rfl
 rw [e] at a
 have c:In enc prog w 22 ((cs.drop 0).take (Tryz.prog.cellsOf 22)):=b 0 _ rfl
 rw [d,drop_zero,take_of_length_le (by omega)] at c
 exact Q6 c
def Kg (a:N5):Int:=if 1+(a.i.length:Int)≤1048576 then 1+(a.i.length:Int)+(a.s.length:Int) else 1+(a.i.length:Int)
theorem Lc (a:N5):1≤Kg a:=by unfold Kg;split<;>omega
theorem Ld {a:N5} (h:a.few):Kg a≤4503599627370496:=by have b:=h.i;have c:=h.s;unfold Kg;split<;>omega
theorem R9 (a:N5) (w:World) (k:N5.at w a) (j:a.few):AO prog 199 [a.v] w (fun r w' =>r= .int .i64 (Kg a)∧Below w.heap.size w w'):=by
 have f:=Below.refl w.heap.size w
 have c:=k.i
 have b:=k.s
 have o:=j.i
 have p:=j.s
 refine A6 (n:=19) func199 O<|Ai<|C2 (cs:=a.cells) O O O ?_
 rintro l w i e d -
 have f:=f.bs d
 have c:=c.bs d
 have b:=b.bs d
 refine Ab O<|Ay<|Ab O<|A9<|Ad O<|Aa (D9 O O) O<|Ak<|Cm O true (by decide)<|Az<|Ad O<|Bc underlying79 O (BT _)<|Aa (Ap (BF _) O ‹_› rfl) O ?_
 refine Af O O (HA a.x a.i _ c) ?_
 rintro _ m ⟨rfl,d⟩
 have f:=f.bs d
 have c:=c.bs d
 have b:=b.bs d
 have e:=e.bs d
 refine Cd O (by omega)<|Ab O<|A9<|Ad O<|Aa (D9 O O) O<|Ak<|Al O ?_ ?_
 ·intro g
  have h:=AE g
  refine Az<|Ad O<|Bc underlying79 O (BT _)<|Aa (Ap (BF _) O ‹_› rfl) O ?_
  refine Af O O (HA a.y a.s m b) ?_
  rintro _ q ⟨rfl,d⟩
  have f:=f.bs d
  have c:=c.bs d
  have b:=b.bs d
  have e:=e.bs d
  refine Cd O (by omega)<|Ab O<|Ay<|Ad O<|Ab O<|Av<|Ao O O ?_
  exact ⟨by rw [Kg,if_pos h],f⟩
 ·intro g
  have h:=AD g
  exact B8<|Ad rfl<|Ab rfl<|Av<|Ao rfl rfl<|⟨by rw [Kg,if_neg h],f⟩
theorem Ql (v:Value) (ls:List N5) (w:World) (h:GN w v ls) (F:ls.length≤1125899906842624) (B:∀t ∈ ls,t.few):AO prog 116 [v] w (fun r w' =>r= .int .i64 (JW (ls.length:Int) (ls.map Kg))∧Below w.heap.size w w'):=by
 have f:=h.1
 have H:=f.le
 obtain ⟨T,s⟩:∃T,T=JW (ls.length:Int) (ls.map Kg):=⟨_,rfl⟩
 rw [← s]
 refine A6 (n:=25) func116 O<|Ai<|Ab O<|Ay<|Ad O<|Aa (Au CH O ‹_›) O ?_
 refine Ab O<|A9<|Ab O<|Ak<|As ?_
 refine B1 (S:=(Nat×Int)) (fun p=>[(0,v),(3, .int .i64 p.2),(4, .int .i64 (p.1:Int))]) (fun p w' =>p.1≤ls.length∧0≤p.2∧p.2≤1125899906842624+4503599627370496+1048576∧JW p.2 ((ls.map Kg).drop p.1)=T∧Below w.heap.size w w') (fun p=>ls.length - p.1) ((0,(ls.length:Int))) ⟨rfl,rfl,rfl,trivial⟩ ?_ ?_
 ·exact ⟨Nat.zero_le _,by simp only;omega,by simp only;omega,s.symm,Below.refl _ _⟩
 rintro ⟨i,n⟩ z ⟨x,q,u,c,k⟩
 replace x:i≤ls.length:=x
 replace q:0≤n:=q
 replace u:n≤1125899906842624+4503599627370496+1048576:=u
 replace c:JW n ((ls.map Kg).drop i)=T:=c
 have f:=f.bs k
 refine Aq<|Ai<|Ad O<|Ad O<|Aa (Au CH O ‹_›) O ?_
 refine B6 O<|Ad O ?_
 refine B7 11 O ?_ ?_
 ·intro g
  have b:i<ls.length:=by have:=AE g;omega
  have D:=LC (n:=n) (l:=ls.map Kg) (i:=i) (by rw [length_map];exact b)
  obtain ⟨a,o⟩:∃a,a=ls[i]:=⟨_,rfl⟩
  have A:(ls.map Kg).getD i default=Kg a:=by rw [getD_eq_getElem?_getD,getElem?_map,getElem?_eq_getElem b,← o];rfl
  have y:a ∈ ls:=o ▸ getElem_mem b
  have e:=B a y
  have E:=Lc a
  have G:=Ld e
  have j:=h.cells b
  rw [← o] at j
  rw [D,A] at c
  refine Ah (dj:=11) O O<|Ad O<|Ah (dj:=11) O O<|Aa (D9 O O) O<|Bn O<|Ak<|Al O ?_ ?_
  ·intro d
   have d:n≤1048576:=AE d
   rw [if_pos d] at c
   refine B4<|Aq<|As<|Az<|Ad O<|Ad O<|Ad O<|Aa (Dy CH O O f i O b) O<|Aa (Es (cs:=a.cells) (Ik _) (HG _) O f O (by decide) j) O<|Af O O (R9 a z ((h.each a y).bs k) e) ?_
   rintro _ I ⟨rfl,C⟩
   refine Cd O (by omega)<|Ab O<|A7<|A8<|Cs<|Ad O<|Cd O (by omega)<|Ab O<|A7 ?_
   exact A4 (Bu ((i+1,n+Kg a)) ⟨rfl,rfl,rfl,trivial⟩ (⟨b,by simp only;omega,by simp only;omega,c,bt k C⟩) (by simp only;omega))
  intro d
  have d:¬n≤1048576:=AD d
  rw [if_neg d] at c
  exact Bt<|Ax<|Ax<|Bg<|Cf<|Ad rfl<|Ab rfl<|Av<|Ao rfl rfl<|⟨by rw [← c],k⟩
 intro g
 have b:i=ls.length:=by have:=AD g;omega
 have m:n=T:=by
  rw [b,drop_of_length_le (by simp)] at c;exact c
 exact Ae (dj:=11) rfl rfl rfl rfl<|Ae (dj:=11) rfl rfl rfl rfl<|Ci rfl<|Ak<|F3 rfl<|Bt<|Ax<|Ax<|Bg<|Cf<|Ad rfl<|Ab rfl<|Av<|Ao rfl rfl<|⟨by rw [m],k⟩
def RR (ls:List N5):Int:=1+JW (ls.length:Int) (ls.map Kg)
theorem RS (v:Value) (ls:List N5) (w:World) (h:GN w v ls) (j:ls.length≤1125899906842624) (g:∀t ∈ ls,t.few):AO prog 23 [.agg [v].toArray] w (fun r w' =>r= .int .i64 (RR ls)∧Below w.heap.size w w'):=by
 have d:=Below.refl w.heap.size w
 have o:=KT (l:=ls.map Kg) (n:=(ls.length:Int)) (m:=4503599627370496) (fun x e=>by
  obtain ⟨a,i,rfl⟩:=List.mem_map.1 e
  exact Ld (g a i)) (by decide)
 have p:=KS (l:=ls.map Kg) (n:=(ls.length:Int)) (fun x e=>by
  obtain ⟨a,i,rfl⟩:=List.mem_map.1 e
  have:=Lc a;omega)
 refine A6 (n:=12) func23 O<|Ai<|C2 (cs:=[v]) O O O ?_
 rintro k w f c b -
 have d:=d.bs b
 have h:=h.bs b
 refine Ab O<|Ay<|Ab O<|A9<|Ad O<|Aa (D9 O O) O<|Ak<|Cm O true (by decide)<|Az<|Ad O<|Bc underlying24 O (CB _)<|Aa (Ap (EB _) O ‹_› rfl) O ?_
 refine Af O O (Ql v ls _ h j g) ?_
 rintro _ q ⟨rfl,b⟩
 have d:=d.bs b
 have h:=h.bs b
 have c:=c.bs b
 refine Cd O (by omega)<|Ab O<|Ay<|Ad O<|Ab O<|Av<|Ao O O ?_
 exact ⟨rfl,d⟩
end Go.Proofs.YtblbopcaflaldaaGreatDoor

namespace Go.Proofs.YtblbopcaflaldaaGreatDoor
open Go Go.Dd Go.RowKit List
set_option maxRecDepth 100000
theorem LB {α:Type} {w:World} {B c:Nat} {T:TypeId} {enc:α→Value} {a v:Value} {l:List α} (h:Go.Dd.Twn w B T enc a v l) (f:c≤B):Go.Dd.Twn w c T enc a v l:=by
 obtain ⟨b,cap,e,d⟩:=h
 exact ⟨b,cap,e,CL d f⟩
theorem P2 {α:Type} {w w' :World} {B:Nat} {r:Option Nat} {T:TypeId} {enc:α→Value} {a v:Value} {l:List α} (h:Go.Dd.Twn w B T enc a v l) (f:w.grownBy w' r) (d:v.ownBlock≠r):Go.Dd.Twn w' B T enc a v l:=by
 obtain ⟨b,cap,rfl,c⟩:=h
 exact ⟨b,cap,rfl,c.kept f (.inr fun e=>d e)⟩
abbrev tI (w:World) (B:Nat) (v:Value) (l:List Int):Prop:=Go.Dd.Twn w B 3 (Value.int .i64) (Value.int .i64 77) v l
structure EC (w:World) (lo hi:Nat) (x y:Value) (a:N5):Prop where
 tx:tI w lo x a.i
 ty:tI w lo y a.s
 bx:∀b,x.ownBlock=some b→lo≤b∧b<hi
 by' :∀b,y.ownBlock=some b→lo≤b∧b<hi
 apart:∀b,x.ownBlock=some b→y.ownBlock≠some b
theorem EC.bs {w w' :World} {b c:Nat} {x y:Value} {a:N5} (h:EC w b c x y a) (g:Below w.heap.size w w'):EC w' b c x y a:=⟨h.tx.bs g,h.ty.bs g,h.bx,h.by',h.apart⟩
theorem EC.at {w:World} {b c:Nat} {x y:Value} {a:N5} (h:EC w b c x y a) (k:BitVec 8) (n p:Int):N5.at w ⟨k,x,y,a.i,a.s,n,p⟩:=⟨h.tx.sl,h.ty.sl⟩
theorem EC.by {w w' :World} {c b r:Nat} {x y:Value} {a:N5} (h:EC w c b x y a) (g:w.grownBy w' (some r)) (d:b≤r):EC w' c b x y a:=
 ⟨P2 h.tx g fun e=>by have:=h.bx _ e;omega,P2 h.ty g fun e=>by have:=h.by' _ e;omega,h.bx,h.by',h.apart⟩



abbrev I3 (v:Value) (k:Nat) (xs:List Value) (n:Int):Hd:=⟨v,k,xs,n, .slice none 0 0⟩
structure Bm (w:World) (lo A:Nat) (n:Int) (hb hi hn ht hd:List Hd) (ub ui un ut ud:Value):Prop where
 box:AM w A S0 [.int .i64 n,ub,ui,un, .slice none 0 0, .slice none 0 0,ut,ud, .slice none 0 0, .slice none 0 0, .slice none 0 0, .slice none 0 0, .slice none 0 0, .slice none 0 0, .slice none 0 0, .slice none 0 0]
 ob:w.ownsRow lo 179 3 ub hb.length (CP hb)
 oi:w.ownsRow lo 182 3 ui hi.length (CP hi)
 on:w.ownsRow lo 185 3 un hn.length (CP hn)
 ot:w.ownsRow lo 194 3 ut ht.length (CP ht)
 od:w.ownsRow lo 197 3 ud hd.length (CP hd)
 loA:lo≤A
 q_b:ub.ownBlock≠some A
 q_i:ui.ownBlock≠some A
 q_n:un.ownBlock≠some A
 q_t:ut.ownBlock≠some A
 q_d:ud.ownBlock≠some A
 p_bi:IQ ub ui
 p_bn:IQ ub un
 p_bt:IQ ub ut
 p_bd:IQ ub ud
 p_in:IQ ui un
 p_it:IQ ui ut
 p_id:IQ ui ud
 p_nt:IQ un ut
 p_nd:IQ un ud
 p_td:IQ ut ud
 many:((hb.length+hi.length+hn.length+ht.length+hd.length:Nat):Int)=n
theorem Bm.size {w:World} {a A:Nat} {n:Int} {i j k f b:List Hd} {c g un e d:Value} (h:Bm w a A n i j k f b c g un e d):a<w.heap.size:=Nat.lt_of_le_of_lt h.loA (BA h.box)
theorem Bm.bs {w w' :World} {j A:Nat} {n:Int} {i k l e a:List Hd} {b f un d c:Value} (h:Bm w j A n i k l e a b f un d c) (g:Below w.heap.size w w'):Bm w' j A n i k l e a b f un d c:=
 ⟨h.box.bs g,AF h.ob g,AF h.oi g,AF h.on g,AF h.ot g,AF h.od g,h.loA,h.q_b,h.q_i,h.q_n,h.q_t,h.q_d,h.p_bi,h.p_bn,h.p_bt,h.p_bd,h.p_in,h.p_it,h.p_id,h.p_nt,h.p_nd,h.p_td,h.many⟩
theorem Bm.low {w w' :World} {a A:Nat} {n:Int} {m p q k c:List Hd} {d l un g f u:Value} (h:Bm w a A n m p q k c d l un g f) (j:∀b,u.ownBlock=some b→a≤b) (o:FG (fun b=>b=A∨u.ownBlock=some b) w w'):Below a w w' :=o.to_below (fun b i=>by
 rcases i with rfl|e
 ·exact h.loA
 ·exact j b e) (Nat.le_of_lt h.size)



def UI (n:Int):List T4→List Hd
 |[]=>[]
 |t::ts=>I3 t.x t.s.length (t.s.map (Value.int .i64)) (n+1)::UI (n+2) ts
def UH (n:Int):List T4→List Hd
 |[]=>[]
 |t::ts=>I3 t.y t.l.length (t.l.map i32) (n+2)::UH (n+2) ts
def T4.low (lo:Nat) (t:T4):Prop:=(∀b,t.x.ownBlock=some b→b<lo)∧∀b,t.y.ownBlock=some b→b<lo
theorem Iw {w w' :World} {a sz n:Nat} {v:Value} {xs:List Value} (h:Sl w sz v n xs) (c:∀b,v.ownBlock=some b→b<a) (g:Below a w w'):Sl w' sz v n xs:=h.keep fun b _ e=>g.block b (c b e)
def S4 (w:World) (v:Value) (ts:List T4):Prop:=Sl w 2 v ts.length (cellsOf ts)∧∀t ∈ ts,t.at w
theorem P7 {w w' :World} {a:Nat} {v:Value} {ts:List T4} (h:S4 w v ts) (d:∀b,v.ownBlock=some b→b<a) (c:∀t ∈ ts,t.low a) (g:Below a w w'):S4 w' v ts:=
 ⟨Iw h.1 d g,fun t m=>⟨Iw (h.2 t m).1 (c t m).1 g,Iw (h.2 t m).2 (c t m).2 g⟩⟩
end Go.Proofs.YtblbopcaflaldaaGreatDoor

namespace Go.Proofs.YtblbopcaflaldaaGreatDoor
open Go Go.Dd Go.RowKit
open List hiding all
set_option maxRecDepth 100000
def Nw (w:World) (base:Nat) (T:TypeId) (sz:Nat) (r:Value) (n:Nat) (cells mk:List Value):Prop:=
 ∃b cap,r= .slice (some ⟨b,0,none⟩) n cap∧w.ownsRow base T sz (.slice (some ⟨b,0,none⟩) (n+1) cap) (n+1) (cells++mk)
theorem Nw.bs {w w' :World} {base:Nat} {T:TypeId} {sz:Nat} {r:Value} {n:Nat} {a mk:List Value} (h:Nw w base T sz r n a mk) (g:Below w.heap.size w w'):Nw w' base T sz r n a mk:=by
 obtain ⟨b,cap,e,c⟩:=h
 exact ⟨b,cap,e,AF c g⟩
theorem Ur {b n m cap sz:Nat}:cut (.slice (some ⟨b,0,none⟩) m cap) sz 0 n= .slice (some ⟨b,0,none⟩) n cap:=by
 show Value.slice (if cap=0 then _ else Option.map _ _) (n - 0) (cap - 0)=_
 have a:(if cap=0 then some (⟨b,0,none⟩:Addr) else (some (⟨b,0,none⟩:Addr)).map (·.add (0*sz)))=some ⟨b,0,none⟩:=by
  split
  ·rfl
  ·simp [add_lit]
 rw [a];rfl
theorem Nw.own {w:World} {base:Nat} {T:TypeId} {sz:Nat} {r:Value} {n:Nat} {a mk:List Value} (h:Nw w base T sz r n a mk) (d:a.length=n*sz):w.ownsRow base T sz r n a:=by
 obtain ⟨b,cap,rfl,c⟩:=h
 have:=Qc c (Nat.le_succ n)
 rw [take_append_of_le_length (by omega),take_of_length_le (by omega),Ur] at this
 exact this
theorem JU.wide {w:World} {e f a b:Nat} {x y:Value} {c:T4} (h:JU w e f x y c) (d:a≤e) (g:f≤b):JU w a b x y c:=
 ⟨h.held.wide d g,Twn.mono h.tx d,Twn.mono h.ty d⟩
theorem AV.top {w:World} {b:Nat}:∀{cs:List T4} {base a:Nat},AV w base a cs→a≤b→AV w base b cs
 |[],_,_,h,ht=>Nat.le_trans h ht
 |_::_,_,_,⟨l1,h1,q1,q2,q3,q4⟩,ht=>⟨l1,h1,q1,q2,q3,AV.top q4 ht⟩
theorem Ih:∀us:List T4,(cellsOf us).length=us.length*2
 |[]=>rfl
 |_::us=>by simp only [cellsOf,length_cons,Ih us];omega
def vl (t:T4):List Int×List (BitVec 32):=(t.s,t.l)
structure EN (w:World) (lo hi:Nat) (r:Value) (us:List T4):Prop where
 all:AV w lo hi us
 tw:∀c ∈ us,JU w lo hi c.x c.y c
 m:∃m,Nw w lo 75 2 r us.length (cellsOf us) [m, .slice none 0 0]∧AY (Value.int .i64) w m [77]
 rb:∀b,r.ownBlock=some b→lo≤b∧b<hi
theorem EN.bs {w w' :World} {a b:Nat} {r:Value} {us:List T4} (h:EN w a b r us) (g:Below w.heap.size w w'):EN w' a b r us:=
 ⟨h.all.bs g,fun c f=>(h.tw c f).bs g,by obtain ⟨m,e,d⟩:=h.m;exact ⟨m,e.bs g,d.bs g⟩,h.rb⟩
theorem EN.own {w:World} {a c:Nat} {r:Value} {us:List T4} (h:EN w a c r us):w.ownsRow a 75 2 r us.length (cellsOf us):=by
 obtain ⟨m,b,_⟩:=h.m
 exact b.own (Ih us)
end Go.Proofs.YtblbopcaflaldaaGreatDoor

namespace Go.Proofs.YtblbopcaflaldaaGreatDoor
open Go Go.Dd Go.RowKit List
set_option maxRecDepth 100000
structure Nz (w:World) (lo hi:Nat) (E:TypeId) (sz:Nat) (hs:List Hd):Prop where
 kept:JV w lo E sz hs
 top:∀b,IS hs b→b<hi
theorem Nz.low {w:World} {c d:Nat} {E:TypeId} {sz:Nat} {a:List Hd} (h:Nz w c d E sz a) {b:Nat} (e:IS a b):c≤b:=(h.kept.blk e).1
theorem Nz.below {w w' :World} {d a B:Nat} {E:TypeId} {sz:Nat} {c:List Hd} (h:Nz w d a E sz c) (g:Below B w w') (i:a≤B):Nz w' d a E sz c:=
 ⟨⟨h.kept.toKOk,fun x f=>(h.kept.own x f).heap fun b e=>g.block b (by have:=h.top b ⟨x,f,e⟩;omega)⟩,h.top⟩
theorem Nz.bs {w w' :World} {b c:Nat} {E:TypeId} {sz:Nat} {a:List Hd} (h:Nz w b c E sz a) (g:Below w.heap.size w w'):Nz w' b c E sz a:=⟨h.kept.bs g,h.top⟩
theorem Nz.wide {w:World} {f g a c:Nat} {E:TypeId} {sz:Nat} {d:List Hd} (h:Nz w f g E sz d) (i:a≤f) (k:g≤c):Nz w a c E sz d:=
 ⟨⟨h.kept.toKOk,fun x j=>(h.kept.own x j).mono i⟩,fun b e=>by have:=h.top b e;omega⟩

theorem EC.below {w w' :World} {d i B:Nat} {x y:Value} {a:N5} (h:EC w d i x y a) (g:Below B w w') (l:i≤B):EC w' d i x y a:=by
 have k:tI w' d x a.i:=by
  obtain ⟨b,cap,rfl,f⟩:=h.tx
  exact ⟨b,cap,rfl,AN f fun c e=>g.block c (by have:=h.bx c (by simpa [Value.ownBlock] using e);omega)⟩
 have j:tI w' d y a.s:=by
  obtain ⟨b,cap,rfl,f⟩:=h.ty
  exact ⟨b,cap,rfl,AN f fun c e=>g.block c (by have:=h.by' c (by simpa [Value.ownBlock] using e);omega)⟩
 exact ⟨k,j,h.bx,h.by',h.apart⟩
end Go.Proofs.YtblbopcaflaldaaGreatDoor

namespace Go.Proofs.YtblbopcaflaldaaGreatDoor
open Go Go.Dd Go.RowKit
open List hiding all
set_option maxRecDepth 100000
theorem LO {w w' :World} {base A:Nat} {e T:TypeId} {sz n:Nat} {v:Value} {xs cs:List Value} (h:w.ownsRow base e sz v n xs) (k:AM w A T cs) (c:e≠T) (g:w.grownBy w' (some A)):w'.ownsRow base e sz v n xs:=
 AN h fun b a=>g.block b (AB h b a).2 fun i=>by
  cases i
  rcases h.2 with ⟨rfl,_⟩|⟨j,cap,f,rfl,_,d,_⟩
  ·cases a
  ·simp only [Value.ownBlock,Option.some.injEq] at a
   subst a
   unfold AM at k
   rw [k] at d
   have:=Option.some.inj d
   injection this with _ h2 _
   exact c h2.symm
def nl (a:N5):BitVec 8×List Int×List Int×Int×Int:=(a.k,a.i,a.s,a.n,a.p)
def BN (w:World):Nat→Nat→List N5→Prop
 |base,top,[]=>base≤top
 |base,top,c::cs=>∃lo hi,base≤lo∧lo≤hi∧EC w lo hi c.x c.y c∧BN w hi top cs
theorem BN.le:∀{w:World} {cs:List N5} {base a:Nat},BN w base a cs→base≤a
 |_,[],_,_,h=>h
 |_,_::_,_,_,⟨_,_,h1,h2,_,h3⟩=>by have:=h3.le;omega
theorem BN.bs {w w' :World} (g:Below w.heap.size w w'):∀{cs:List N5} {base a:Nat},BN w base a cs→BN w' base a cs
 |[],_,_,h=>h
 |_::_,_,_,⟨lo,hi,h1,h2,h3,h4⟩=>⟨lo,hi,h1,h2,h3.bs g,BN.bs g h4⟩
theorem BN.below {w w' :World} {B:Nat} (g:Below B w w'):∀{cs:List N5} {base a:Nat},BN w base a cs→a≤B→BN w' base a cs
 |[],_,_,h,_=>h
 |_::_,_,_,⟨lo,hi,h1,h2,h3,h4⟩,hB=>⟨lo,hi,h1,h2,h3.below g (Nat.le_trans h4.le hB),BN.below g h4 hB⟩
theorem BN.top {w:World} {b:Nat}:∀{cs:List N5} {base a:Nat},BN w base a cs→a≤b→BN w base b cs
 |[],_,_,h,ht=>Nat.le_trans h ht
 |_::_,_,_,⟨l1,h1,q1,q2,q3,q4⟩,ht=>⟨l1,h1,q1,q2,q3,BN.top q4 ht⟩
theorem EC.wide {w:World} {g i a d:Nat} {x y:Value} {c:N5} (h:EC w g i x y c) (f:a≤g) (j:i≤d):EC w a d x y c:=
 ⟨LB h.tx f,LB h.ty f,fun b e=>by have:=h.bx b e;omega,fun b e=>by have:=h.by' b e;omega,h.apart⟩
theorem BN.each:∀{w:World} {cs:List N5} {base b:Nat},BN w base b cs→∀c ∈ cs,EC w base b c.x c.y c
 |_,[],_,_,_=>fun c a=>by cases a
 |_,d::ds,_,_,⟨lo,hi,h1,h2,h3,h4⟩=>fun c a=>by
  have:=h4.le
  rcases List.mem_cons.1 a with rfl|a
  ·exact h3.wide h1 (by omega)
  ·exact (h4.each c a).wide (by omega) (AT _)
def UJ (n:Int):List N5→List Hd
 |[]=>[]
 |t::ts=>I3 t.x t.i.length (t.i.map (Value.int .i64)) (n+1)::I3 t.y t.s.length (t.s.map (Value.int .i64)) (n+2)::UJ (n+2) ts
structure DP (w:World) (lo hi:Nat) (r:Value) (us:List N5):Prop where
 all:BN w lo hi us
 m:Nw w lo K5 5 r us.length (Ib N5.cells us) [b8 0#8, .slice none 0 0, .slice none 0 0, .int .i64 77, .int .i64 0]
 rb:∀b,r.ownBlock=some b→lo≤b∧b<hi
theorem DP.bs {w w' :World} {a b:Nat} {r:Value} {us:List N5} (h:DP w a b r us) (g:Below w.heap.size w w'):DP w' a b r us:=⟨h.all.bs g,h.m.bs g,h.rb⟩
theorem QE (us:List N5):(Ib N5.cells us).length=us.length*5:=by
 induction us with
 |nil=>rfl
 |cons a us ih=>rw [JJ,length_append,ih,D5,length_cons];omega
theorem DP.own {w:World} {a b:Nat} {r:Value} {us:List N5} (h:DP w a b r us):w.ownsRow a K5 5 r us.length (Ib N5.cells us):=h.m.own (QE us)
theorem DP.gn {w:World} {b d:Nat} {r:Value} {us:List N5} (h:DP w b d r us):GN w r us:=⟨AH h.own,fun c a=>⟨(h.all.each c a).tx.sl,(h.all.each c a).ty.sl⟩⟩
theorem DP.by {w w' :World} {s o A:Nat} {r:Value} {us:List N5} {T:TypeId} {cs:List Value} (h:DP w s o r us) (g:w.grownBy w' (some A)) (b:AM w A T cs) (x:3≠T) (t:K5≠T):DP w' s o r us:=by
 have m:∀{e:TypeId} {sz n:Nat} {v:Value} {xs:List Value} {B:Nat},e≠T→w.ownsRow B e sz v n xs→w'.ownsRow B e sz v n xs:=fun i f=>LO f b i g
 have C:∀{cs:List N5} {base a:Nat},BN w base a cs→BN w' base a cs:=by
  intro cs
  induction cs with
  |nil=>exact fun h=>h
  |cons c cs ih=>
   rintro base a ⟨l,k,u,D,d,y⟩
   have p:∀{z:Value} {q:List Int} {B:Nat},tI w B z q→tI w' B z q:=fun ⟨j,cap,e,f⟩=>⟨j,cap,e,m x f⟩
   exact ⟨l,k,u,D,⟨p d.tx,p d.ty,d.bx,d.by',d.apart⟩,ih y⟩
 obtain ⟨j,cap,e,f⟩:=h.m
 exact ⟨C h.all,⟨j,cap,e,m t f⟩,h.rb⟩
theorem DP.wide {w:World} {i j a d:Nat} {r:Value} {us:List N5} (h:DP w i j r us) (f:a≤i) (g:j≤d):DP w a d r us:=by
 obtain ⟨b,cap,e,m⟩:=h.m
 have q:BN w a d us:=by
  cases hu:us with
  |nil=>have:=h.all;rw [hu] at this;exact Nat.le_trans f (Nat.le_trans this g)
  |cons c cs=>
   have:=h.all
   rw [hu] at this
   obtain ⟨l,k,o,s,p,n⟩:=this
   exact ⟨l,k,Nat.le_trans f o,s,p,BN.top n g⟩
 exact ⟨q,⟨b,cap,e,CL m f⟩,fun b e=>by have:=h.rb b e;omega⟩
def N5.low (lo:Nat) (t:N5):Prop:=(∀b,t.x.ownBlock=some b→b<lo)∧∀b,t.y.ownBlock=some b→b<lo
theorem Tv {w w' :World} {a:Nat} {v:Value} {ls:List N5} (h:GN w v ls) (d:∀b,v.ownBlock=some b→b<a) (c:∀t ∈ ls,t.low a) (g:Below a w w'):GN w' v ls:=
 ⟨Iw h.sl d g,fun t m=>⟨Iw (h.each t m).i (c t m).1 g,Iw (h.each t m).s (c t m).2 g⟩⟩
end Go.Proofs.YtblbopcaflaldaaGreatDoor

namespace Go.Proofs.YtblbopcaflaldaaGreatDoor
open Go Go.Dd Go.RowKit List
set_option maxRecDepth 100000
end Go.Proofs.YtblbopcaflaldaaGreatDoor

namespace Go.Proofs.YtblbopcaflaldaaGreatDoor
open Go Go.Dd Go.RowKit Go.ChangeShapes Go.WideShapes List Go.Proofs.Tryz
set_option maxRecDepth 100000
theorem T3 {w:World} {A:Nat} {T:TypeId} {cs:List Value} {a:Addr} {u:Value} (k:AM w A T cs) (h:w.cell? a=some u) (e:a.block=A):u ∈ cs:=by
 unfold World.cell? at h
 rw [e,k] at h
 simp only at h
 split at h
 ·cases h
 ·rw [getElem?_toArray] at h
  exact mem_of_getElem? h
theorem EN.by {w w' :World} {s u A:Nat} {r:Value} {us:List T4} {T:TypeId} {cs:List Value} (h:EN w s u r us) (g:w.grownBy w' (some A)) (b:AM w A T cs) (l:3≠T) (i:21≠T) (K:75≠T) (D:Value.int .i64 77 ∉ cs):EN w' s u r us:=by
 have j:∀{e:TypeId} {sz n:Nat} {v:Value} {xs:List Value} {B:Nat},e≠T→w.ownsRow B e sz v n xs→w'.ownsRow B e sz v n xs:=fun f p=>LO p b f g
 have t:∀d,(some A:Option Nat)=some d→∃cs,AM w d T cs:=fun d e=>by cases e;exact ⟨cs,b⟩
 obtain ⟨m,⟨d,cap,e,p⟩,x⟩:=h.m
 refine ⟨h.all.other g t l i,fun c q=> ?_,⟨m,⟨d,cap,e,j K p⟩, ?_⟩,h.rb⟩
 ·obtain ⟨E,⟨y,G,L,H⟩,⟨J,I,o,F⟩⟩:=h.tw c q
  exact ⟨E.other g t l i,⟨y,G,L,j l H⟩,⟨J,I,o,j i F⟩⟩
 ·refine x.keep fun k z e=>g.block k z fun o=>D ?_
  cases o
  obtain ⟨_,C,cap,rfl,_,_,_,q⟩:=x
  cases C with
  |none=>cases e
  |some a=>exact T3 b (q a rfl 0 _ rfl) (by rw [FO];exact Option.some.inj e)
theorem EN.wide {w:World} {i j a d:Nat} {r:Value} {us:List T4} (h:EN w i j r us) (f:a≤i) (g:j≤d):EN w a d r us:=by
 obtain ⟨m,⟨b,cap,e,o⟩,n⟩:=h.m
 have u:AV w a d us:=by
  cases hu:us with
  |nil=>have:=h.all;rw [hu] at this;exact Nat.le_trans f (Nat.le_trans this g)
  |cons c cs=>
   have:=h.all
   rw [hu] at this
   obtain ⟨l,k,q,v,s,p⟩:=this
   exact ⟨l,k,Nat.le_trans f q,v,s,AV.topM p g⟩
 exact ⟨u,fun c t=>(h.tw c t).wide f g,⟨m,⟨b,cap,e,CL o f⟩,n⟩,fun b e=>by have:=h.rb b e;omega⟩
def U8 (ls:List N5) (ws:List T4):Int:=if 1+RR ls≤1048576 then 1+RR ls+JW (ws.length:Int) (ws.map fun t=>KR t.s t.l) else 1+RR ls
theorem LX (v u:Value) (ls:List N5) (ws:List T4) (W:World) (h:GN W v ls) (s:ls.length≤1125899906842624) (o:∀t ∈ ls,t.few) (e:GG W u ws) (q:ws.length≤1125899906842624) (p:∀t ∈ ws,Nm t):
  AO prog 9 [.agg [v,u].toArray] W (fun r w' =>r= .int .i64 (U8 ls ws)∧Below W.heap.size W w'):=by
 have d:=Below.refl W.heap.size W
 have z:=KT (l:=ls.map Kg) (n:=(ls.length:Int)) (m:=4503599627370496) (fun x f=>by
  obtain ⟨a,i,rfl⟩:=List.mem_map.1 f
  exact Ld (o a i)) (by decide)
 have B:=KS (l:=ls.map Kg) (n:=(ls.length:Int)) (fun x f=>by
  obtain ⟨a,i,rfl⟩:=List.mem_map.1 f
  have:=Lc a;omega)
 have C:=KT (l:=ws.map fun t=>KR t.s t.l) (n:=(ws.length:Int)) (m:=4503599627370496) (fun x f=>by
  obtain ⟨a,i,rfl⟩:=List.mem_map.1 f
  exact N3 (p a i)) (by decide)
 have F:=KS (l:=ws.map fun t=>KR t.s t.l) (n:=(ws.length:Int)) (fun x f=>by
  obtain ⟨a,i,rfl⟩:=List.mem_map.1 f
  have:=N2 a.s a.l;omega)
 have D:RR ls=1+JW (ls.length:Int) (ls.map Kg):=rfl
 refine A6 (n:=19) func9 O<|Ai<|C2 (cs:=[v,u]) O O O ?_
 rintro y w k c b -
 have d:=d.bs b
 have h:=h.bs b
 have e:=e.bs b
 refine Ab O<|Ay<|Ab O<|A9<|Ad O<|Aa (D9 O O) O<|Ak<|Cm O true (by decide)<|Az<|Ad O<|Bc underlying27 O (CK _)<|Aa (Fv (ds:=[v]) (Im _) (CK _) O O ‹_› rfl) O ?_
 refine Af O O (RS v ls _ h s o) ?_
 rintro _ E ⟨rfl,b⟩
 have d:=d.bs b
 have h:=h.bs b
 have e:=e.bs b
 have c:=c.bs b
 refine Cd O (by omega)<|Ab O<|A9<|Ad O<|Aa (D9 O O) O<|Ak<|Al O ?_ ?_
 ·intro g
  have g:1+RR ls≤1048576:=AE g
  refine Az<|Ad O<|Bc underlying27 O (FH _)<|Aa (Ap (JT _) O ‹_› rfl) O ?_
  refine Af O O (P4 u ws _ e q p) ?_
  rintro _ A ⟨rfl,b⟩
  have d:=d.bs b
  have h:=h.bs b
  have e:=e.bs b
  have c:=c.bs b
  have j:U8 ls ws=1+RR ls+JW (ws.length:Int) (ws.map fun t=>KR t.s t.l):=if_pos g
  refine Cd O (by omega)<|Ab O<|Ay<|Ad O<|Ab O<|Av<|Ao O O ?_
  exact ⟨by rw [j],d⟩
 intro g
 have g:¬1+RR ls≤1048576:=AD g
 have j:U8 ls ws=1+RR ls:=if_neg g
 exact B8<|Ad rfl<|Ab rfl<|Av<|Ao rfl rfl<|⟨by rw [j],d⟩
def Lf (p:PN):List (BitVec 8):=p.1::(AU p.2.1++AU p.2.2.1++[BitVec.ofInt 8 p.2.2.2.1,BitVec.ofInt 8 p.2.2.2.2])
theorem O6 (ls:List N5):CD ls=((ls.map pn).map Lf).flatten:=by
 unfold CD
 rw [map_map]
 rfl
theorem Qj (ws:List T4):CZ ws=((ws.map pv).map fun p=>BL p.2).flatten:=by
 unfold CZ
 rw [map_map]
 rfl
theorem Qn (ls:List N5) (ws:List T4):(I4 ls ws).length≤16777216:=by
 unfold I4
 split
 ·rename_i h
  have S:=Td h
  have c:=I2 S.node
  have a:=J0 S.nums
  have d:=S.few
  have b:=S.wts
  have:(ER ls ws).length=1+((CD ls).length+(CZ ws).length)+4:=by
   unfold ER DD
   simp [Crc.four]
   omega
  omega
 ·exact Nat.zero_le _
end Go.Proofs.YtblbopcaflaldaaGreatDoor

namespace Go.Proofs.YtblbopcaflaldaaGreatDoor
open Go Go.Dd Go.RowKit List
set_option maxRecDepth 100000
structure N0 (x:N5):Prop where
 il:x.i.length≤4
 sl:x.s.length≤4
 ii:∀j ∈ x.i,0≤j∧j<256
 ss:∀j ∈ x.s,0≤j∧j<256
 nn:0≤x.n∧x.n<256
 pp:0≤x.p∧x.p<256
theorem R7 {s:List Int} (h:Hz s=true) (c:s.length≤4):∀d ∈ s,0≤d∧d<256:=fun d b=>by
 obtain ⟨j,a,rfl⟩:=List.mem_iff_getElem.1 b
 have:=Iz h a
 rw [getD_eq_getElem?_getD,getElem?_eq_getElem a] at this
 simp only [Option.getD_some] at this
 omega
theorem RL {x:N5} (h:DA x.k x.i x.s x.n x.p=true):∀d ∈ x.s,0≤d∧d<256:=by
 unfold DA at h
 cases g:CM x.k with
 |none=>rw [g] at h;cases h
 |some r=>
  obtain ⟨_,_,j⟩:=IY g
  obtain ⟨a,b,c,d,e,f,rfl⟩:=MO j
  rw [g] at h
  obtain ⟨-,i⟩:=FK.1 h
  split at i
  ·intro d g
   rw [eq_nil_of_length_eq_zero (AE i)] at g
   cases g
  ·split at i
   ·intro d g
    have:=((Shapes.ok_iff _).1 i).2.1 d g
    omega
   ·rw [JH,Bool.and_eq_true,decide_eq_true_eq] at i
    exact R7 i.2 i.1
theorem OV {ls:List N5} (h:(FX ls).isSome=true):∀x ∈ ls,N0 x:=by
 obtain ⟨f,n⟩:=Mk h
 obtain ⟨d,c⟩:=Option.isSome_iff_exists.1 h
 have g:EF [] ls=some d:=by
  unfold FX at c
  split at c
  ·cases c
  ·split at c
   ·split at c
    ·rename_i e _;cases c;exact e
    ·cases c
   ·cases c
 have key:∀(l:List N5) (a:List (List Int)),(∃d,EF a l=some d)→a.length+l.length≤32→∀x ∈ l,(∀j ∈ x.i,0≤j∧j<256):=by
  intro l
  induction l with
  |nil=>intro _ _ _ x b;cases b
  |cons y l ih=>
   rintro a ⟨d,h⟩ k x b
   unfold EF at h
   cases e:Ly a y with
   |none=>rw [e] at h;cases h
   |some s=>
    rw [e] at h
    simp only [length_cons] at k
    rcases List.mem_cons.1 b with rfl|b
    ·unfold Ly at e
     split at e
     ·rename_i i
      simp only [Bool.and_eq_true,Bool.not_eq_true'] at i
      intro j m
      have:=i.1.2
      unfold OP at this
      have:=List.any_eq_false.1 this j m
      simp at this
      omega
     ·cases e
    ·exact ih (a++[s]) ⟨d,h⟩ (by rw [length_append,length_singleton];omega) x b
 intro x b
 have l:=n x b
 exact ⟨l.il.2,l.sl,key ls [] ⟨d,g⟩ (by simpa using f) x b,RL (HV ls [] d g x b),⟨l.nn.1,by have:=l.nn.2;omega⟩,⟨l.pp.1,by have:=l.pp.2;omega⟩⟩
theorem GU {i:Int} (h:0≤i) (a:i<256):((BitVec.ofInt 8 i).toNat:Int)=i:=by
 rw [BitVec.toNat_ofInt]
 have:(i % ((2 ^ 8:Nat):Int))=i:=Int.emod_eq_of_lt h (by simpa using a)
 rw [this];omega
theorem Jp {s:List Int} (h:∀j ∈ s,0≤j∧j<256) (d:s.length≤4) (r:Bs):GC (AU s++r)=some (s,r):=by
 have b:(BitVec.ofInt 8 (s.length:Int)).toNat=(s.map (BitVec.ofInt 8)).length:=by
  have:=GU (i:=(s.length:Int)) (by omega) (by omega)
  rw [length_map]
  omega
 show (if (BitVec.ofInt 8 (s.length:Int)).toNat≤(s.map (BitVec.ofInt 8)++r).length then some (CT ((s.map (BitVec.ofInt 8)++r).take (BitVec.ofInt 8 (s.length:Int)).toNat),(s.map (BitVec.ofInt 8)++r).drop (BitVec.ofInt 8 (s.length:Int)).toNat) else none)=_
 rw [b,if_pos (by rw [length_append];omega),take_left,drop_left]
 have c:CT (s.map (BitVec.ofInt 8))=s:=by
  unfold CT
  rw [map_map]
  conv=>rhs;rw [← List.map_id s]
  exact map_congr_left fun y a=>GU (h y a).1 (h y a).2
 rw [c]
theorem LV {x:N5} (h:N0 x) (r:Bs):DG (H1 x++r)=some (pn x,r):=by
 have e:H1 x++r=x.k::(AU x.i++(AU x.s++(BitVec.ofInt 8 x.n::BitVec.ofInt 8 x.p::r))):=by simp [H1]
 rw [e]
 unfold DG
 simp only [GE]
 rw [Jp h.ii h.il]
 simp only
 rw [Jp h.ss h.sl]
 simp only
 rw [GU h.nn.1 h.nn.2,GU h.pp.1 h.pp.2]
 rfl
theorem H0:∀{ls:List N5} (r:Bs),(∀x ∈ ls,N0 x)→BW ls.length (CD ls++r)=some (ls.map pn,r)
 |[],_,_=>rfl
 |x::ls,r,h=>by
  have e:CD (x::ls)++r=H1 x++(CD ls++r):=by simp [CD]
  rw [e,length_cons]
  unfold BW
  rw [LV (h x (by simp))]
  simp only
  rw [H0 r fun y a=>h y (by simp [a])]
  rfl
theorem Oe {t:T4} (h:MG t.s t.l=true) (r:Bs):M5 t.s (BL t.l++r)=some (pv t,r):=by
 obtain ⟨a,b⟩:=P5 h
 have e:4*(Shapes.size t.s).toNat=(BL t.l).length:=by rw [DM,b]
 unfold M5
 rw [e,if_pos ⟨a,by rw [length_append];omega⟩,take_left,drop_left,Jz]
 rfl
theorem Jg:∀{ws:List T4} (r:Bs),(∀t ∈ ws,MG t.s t.l=true)→DE (ws.map (·.s)) (CZ ws++r)=some (ws.map pv,r)
 |[],_,_=>rfl
 |t::ws,r,h=>by
  have e:CZ (t::ws)++r=BL t.l++(CZ ws++r):=by simp [CZ]
  rw [e,map_cons]
  unfold DE
  rw [Oe (h t (by simp))]
  simp only
  rw [Jg r fun y a=>h y (by simp [a])]
  rfl
theorem RE {ls:List N5} {ws:List T4} (h:ES ls ws=true):JX (ls.map pn)=ws.map (·.s)∧∀t ∈ ws,MG t.s t.l=true:=by
 obtain ⟨-,a,d⟩:=LZ h
 have e:=(GI (ws:=ws.map pv) (xs:=F2 ls) (by rw [length_map,a])).1 d
 have key:∀i (b:i<ws.length),MG ws[i].s ws[i].l=true∧ws[i].s=((F2 ls)[i]'(by omega)).s:=fun i b=>by
  have:=e i (by omega)
  rw [getD_eq_getElem?_getD,getElem?_map,getElem?_eq_getElem b] at this
  unfold Kk at this
  rw [Bool.and_eq_true,decide_eq_true_eq] at this
  exact this
 refine ⟨?_,fun t c=> ?_⟩
 ·rw [KO]
  refine ext_getElem (by simp [a]) fun i f a=> ?_
  rw [getElem_map,getElem_map]
  exact (key i (by simpa using a)).2.symm
 ·obtain ⟨i,b,rfl⟩:=List.mem_iff_getElem.1 c
  exact (key i b).1
theorem RF {ls:List N5} {ws:List T4} (h:ES ls ws=true):(FX ls).isSome=true:=by
 unfold ES at h
 simp only [Bool.and_eq_true] at h
 exact h.1
theorem Pk {ls:List N5} {ws:List T4} (h:ES ls ws=true):EZ (DD ls ws)=some (ls.map pn,ws.map pv):=by
 obtain ⟨b,d⟩:=RE h
 have a:=RF h
 have e:=OV a
 have g:=(Td h).few
 have c:(BitVec.ofInt 8 (ls.length:Int)).toNat=ls.length:=by
  have:=GU (i:=(ls.length:Int)) (by omega) (by omega)
  omega
 have f:CR (DD ls ws)=some (ls.map pn,ws.map pv,[]):=by
  unfold CR DD
  simp only [GE]
  rw [c,H0 _ e]
  simp only
  rw [b]
  have:=Jg [] d
  rw [append_nil] at this
  rw [this]
  rfl
 unfold EZ
 rw [f]
 simp only
 rw [if_pos ⟨trivial,by rw [Hq];exact a⟩]
theorem Mm (x:BitVec 32):gf (Crc.four x)=x:=JB x
theorem HP (ls:List N5) (ws:List T4):(ER ls ws).length=(DD ls ws).length+4:=by unfold ER;rw [length_append];rfl
theorem RC (ls:List N5) (ws:List T4):(ER ls ws).take ((ER ls ws).length - 4)=DD ls ws∧(ER ls ws).drop ((ER ls ws).length - 4)=Crc.four (Crc.of (DD ls ws)):=by
 rw [HP,Nat.add_sub_cancel]
 unfold ER
 exact ⟨take_left,drop_left⟩
theorem RT {ls:List N5} {ws:List T4} (h:ES ls ws=true):EL (ER ls ws)=0∧HY (ER ls ws)=some (ls.map pn,ws.map pv):=by
 obtain ⟨c,b⟩:=RC ls ws
 have d:=HP ls ws
 unfold EL HY
 rw [c,b,Mm,Pk h]
 simp only [ne_eq,not_true_eq_false,if_false]
 have a:¬(ER ls ws).length<4:=by omega
 rw [if_neg a,if_neg a]
 exact ⟨rfl,rfl⟩
theorem HO {l r:Bs} {b:BitVec 8} (h:GE l=some (b,r)):l=b::r:=by
 cases l with
 |nil=>cases h
 |cons x t=>cases h;rfl
theorem Kv {l r:Bs} {s:List Int} (h:GC l=some (s,r)):l=AU s++r:=by
 cases l with
 |nil=>cases h
 |cons b t=>
  unfold GC at h
  simp only [GE] at h
  split at h
  ·rename_i d
   cases h
   have a:(CT (t.take b.toNat)).map (BitVec.ofInt 8)=t.take b.toNat:=by
    unfold CT
    rw [map_map]
    conv=>rhs;rw [← List.map_id (t.take b.toNat)]
    exact map_congr_left fun y _=>Qh y
   have c:((CT (t.take b.toNat)).length:Int)=(b.toNat:Int):=by
    unfold CT
    rw [length_map,length_take]
    omega
   unfold AU
   rw [a,c,Qh,cons_append,take_append_drop]
  ·cases h
theorem O7 {l r:Bs} {p:PN} (h:DG l=some (p,r)):l=Lf p++r:=by
 unfold DG at h
 split at h
 ·cases h
 ·rename_i k g c
  split at h
  ·cases h
  ·rename_i i l2 a
   split at h
   ·cases h
   ·rename_i s m e
    split at h
    ·cases h
    ·rename_i n f b
     split at h
     ·cases h
     ·rename_i q j d
      cases h
      rw [HO c,Kv a,Kv e,HO b,HO d]
      unfold Lf
      simp only [Qh,cons_append,append_assoc,nil_append]
theorem J4:∀{n:Nat} {l r:Bs} {a:List PN},BW n l=some (a,r)→l=(a.map Lf).flatten++r∧a.length=n
 |0,l,r,a,h=>by cases h;exact ⟨rfl,rfl⟩
 |n+1,l,r,a,h=>by
  unfold BW at h
  cases h1:DG l with
  |none=>rw [h1] at h;cases h
  |some q=>
   obtain ⟨x,d⟩:=q
   rw [h1] at h
   simp only at h
   cases h2:BW n d with
   |none=>rw [h2] at h;cases h
   |some q2=>
    obtain ⟨b,f⟩:=q2
    rw [h2] at h
    cases h
    obtain ⟨c,e⟩:=J4 h2
    rw [O7 h1,c]
    exact ⟨by simp,by simp [e]⟩
theorem Km:∀{a:List (List Int)} {l r:Bs} {ws:List PV},DE a l=some (ws,r)→l=(ws.map fun p=>BL p.2).flatten++r
 |[],l,r,ws,h=>by cases h;rfl
 |s::a,l,r,ws,h=>by
  unfold DE at h
  cases h1:M5 s l with
  |none=>rw [h1] at h;cases h
  |some q=>
   obtain ⟨x,c⟩:=q
   rw [h1] at h
   simp only at h
   cases h2:DE a c with
   |none=>rw [h2] at h;cases h
   |some q2=>
    obtain ⟨d,f⟩:=q2
    rw [h2] at h
    cases h
    have b:=Km h2
    unfold M5 at h1
    split at h1
    ·rename_i g
     cases h1
     have e:=HB (Shapes.size s).toNat (l.take (4*(Shapes.size s).toNat)) (by rw [length_take];omega)
     rw [map_cons,flatten_cons,append_assoc,← b]
     show l=BL (nums _)++_
     rw [e,take_append_drop]
    ·cases h1
theorem QW {l:Bs} {ls:List N5} {ts:List T4} (h:EZ l=some (ls.map pn,ts.map pv)):DD ls ts=l∧ES ls ts=true:=by
 unfold EZ at h
 cases hr:CR l with
 |none=>rw [hr] at h;cases h
 |some q=>
  obtain ⟨g,vs,r⟩:=q
  rw [hr] at h
  simp only at h
  split at h
  ·rename_i m
   obtain ⟨d,a⟩:=Prod.mk.inj (Option.some.inj h)
   obtain ⟨c,f⟩:=m
   subst d a c
   unfold CR at hr
   cases h1:GE l with
   |none=>rw [h1] at hr;cases hr
   |some q=>
    obtain ⟨b,k⟩:=q
    rw [h1] at hr
    simp only at hr
    cases h2:BW b.toNat k with
    |none=>rw [h2] at hr;cases hr
    |some q=>
     obtain ⟨g,l2⟩:=q
     rw [h2] at hr
     simp only at hr
     cases h3:DE (JX g) l2 with
     |none=>rw [h3] at hr;cases hr
     |some q=>
      obtain ⟨vs,r⟩:=q
      rw [h3] at hr
      obtain ⟨d,a⟩:=Prod.mk.inj (Option.some.inj hr)
      obtain ⟨a,c⟩:=Prod.mk.inj a
      simp only at d a c
      subst d a c
      have e:=LY h3
      rw [Hq] at f
      rw [f] at e
      obtain ⟨n,i⟩:=J4 h2
      have j:=Km h3
      rw [append_nil] at j
      refine ⟨?_,e⟩
      rw [length_map] at i
      unfold DD
      rw [O6,Qj,i,Qh,← j,← n,HO h1]
  ·cases h
theorem RU {l:Bs} (h:l.length=4):Crc.four (gf l)=l:=by
 match l,h with
 |[a,b,c,d],_=>exact Mp a b c d
theorem Q9 {b:Bs} (h:EL b=0):∃q,HY b=some q:=by
 unfold EL at h
 unfold HY
 split at h
 ·cases h
 ·rename_i a
  split at h
  ·cases h
  ·rename_i c
   rw [if_neg a,if_neg c]
   split at h
   ·rename_i d
    exact Option.isSome_iff_exists.1 d
   ·cases h
theorem Pa (b:Bs):EL b=0∨EL b=4∨EL b=5∨EL b=11:=by
 unfold EL
 split
 ·exact .inr (.inr (.inl rfl))
 ·split
  ·exact .inr (.inr (.inr rfl))
  ·split
   ·exact .inl rfl
   ·exact .inr (.inl rfl)
theorem RB {b:Bs} {ls:List N5} {ts:List T4} (h:HY b=some (ls.map pn,ts.map pv)):ER ls ts=b∧ES ls ts=true:=by
 unfold HY at h
 split at h
 ·cases h
 ·rename_i e
  split at h
  ·cases h
  ·rename_i a
   obtain ⟨c,d⟩:=QW h
   have a:gf (b.drop (b.length - 4))=Crc.of (b.take (b.length - 4)):=Classical.not_not.1 a
   refine ⟨?_,d⟩
   unfold ER
   rw [c,← a,RU (by rw [length_drop];omega),take_append_drop]
theorem Kl.gn {w:World} {e f:Nat} {v u:Value} {ls:List N5} {ts:List T4} (h:Kl w e f v u ls ts):GN w v ls:=by
 obtain ⟨c,d, -⟩:=h.nodes
 exact ⟨h.nv.sl,fun a b=>(d.each a b).at⟩
theorem Kl.tens {w:World} {e f:Nat} {v u:Value} {ls:List N5} {ts:List T4} (h:Kl w e f v u ls ts):GG w u ts:=by
 obtain ⟨d, -,c⟩:=h.nodes
 exact ⟨h.wv.sl,fun a b=>(c.each a b).at⟩

def Kf (b:List (BitVec 8)) (x:BitVec 32) (k:Nat):Nat→List (BitVec 8)
 |0=>b
 |i+1=>(Kf b x k i).set (k+i) ((Kf b x k i).getD (k+i) default ^^^ (Crc.four x).getD i default)
theorem MR (b:List (BitVec 8)) (x:BitVec 32) (k i:Nat):(Kf b x k i).length=b.length:=by
 induction i with
 |zero=>rfl
 |succ i ih=>simp [Kf,ih]
theorem GT (p s:List (BitVec 8)) (b a c d:BitVec 8) (x:BitVec 32):Kf (p++b::a::c::d::s) x p.length 4=p++Crc.xors [b,a,c,d] (Crc.four x)++s:=by
 simp [Kf,Crc.four,Crc.xors,set_append_right]
theorem MK {b:List (BitVec 8)} {k:Nat} (h:k+4≤b.length):∃p c a d e s,b=p++c::a::d::e::s∧p.length=k:=by
 refine ⟨b.take k,b[k],b[k+1],b[k+2],b[k+3],b.drop (k+4), ?_,by simp;omega⟩
 rw [← drop_eq_getElem_cons (by omega),← drop_eq_getElem_cons (by omega),← drop_eq_getElem_cons (by omega),← drop_eq_getElem_cons (by omega),take_append_drop]
theorem MF (b:List (BitVec 8)) (x:BitVec 32) (k:Nat) (h:k+4≤b.length):(Crc.of b=Crc.of (Kf b x k 4))↔x=0#32:=by
 obtain ⟨p,c,a,d,e,s,rfl,rfl⟩:=MK h
 rw [GT]
 have:=Crc.of_part p s [c,a,d,e] x rfl
 simpa using this
theorem LM {w:World} {base:Nat} {T:TypeId} {v:Value} {b:List (BitVec 8)} {x:BitVec 32} {k i n:Nat} (h:w.ownsRow base T 1 v n (((Kf b x k i).map b8).set (k+i) (b8 ((Kf b x k i).getD (k+i) default ^^^ (Crc.four x).getD i default)))):w.ownsRow base T 1 v n ((Kf b x k (i+1)).map b8):=by
 simpa [Kf,map_set] using h
theorem R6 (b t:List (BitVec 8)) (x:BitVec 32) (k:Nat) (h:k+4≤b.length):Kf (b++t) x k 4=Kf b x k 4++t:=by
 obtain ⟨p,c,a,d,f,s,rfl,rfl⟩:=MK h
 have e:p++c::a::d::f::s++t=p++c::a::d::f::(s++t):=by simp
 rw [e,GT,GT,append_assoc _ s t]
theorem Ob (a b:BitVec 32):Crc.xors (Crc.four a) (Crc.four b)=Crc.four (a ^^^ b):=by
 simp [Crc.four,Crc.xors,BitVec.setWidth_xor,BitVec.ushiftRight_xor_distrib]
theorem R5 (b:List (BitVec 8)) (a x:BitVec 32):Kf (b++Crc.four a) x b.length 4=b++Crc.four (a ^^^ x):=by
 rw [← Ob]
 have:=GT b [] (a.setWidth 8) ((a>>>8).setWidth 8) ((a>>>16).setWidth 8) ((a>>>24).setWidth 8) x
 rw [append_nil] at this
 exact this
theorem PY (b:List (BitVec 8)) (k:Nat) (h:k+4≤b.length):Kf b 0#32 k 4=b:=by
 obtain ⟨p,c,a,d,f,s,rfl,rfl⟩:=MK h
 rw [GT]
 have e:Crc.xors [c,a,d,f] (Crc.four 0#32)=[c,a,d,f]:=by
  have:Crc.four 0#32=[0#8,0#8,0#8,0#8]:=by decide
  rw [this]
  simp [Crc.xors]
 rw [e]
 simp
theorem Mo {b:Bs} {n:BitVec 32} (h:n≠Crc.of b):EL (b++Crc.four n)=11:=by
 have a:(b++Crc.four n).length=b.length+4:=by rw [length_append];rfl
 unfold EL
 rw [if_neg (by omega),a,Nat.add_sub_cancel,drop_left,take_left,Mm,if_pos h]
theorem P3 {ls:List N5} {ws:List T4} (b:ES ls ws=true) (x:BitVec 32) {k:Nat} (a:k+8≤(ER ls ws).length∨k+4=(ER ls ws).length):EL (Kf (ER ls ws) x k 4)=if x=0#32 then 0 else 11:=by
 have d:=HP ls ws
 split
 ·rename_i h
  subst h
  rw [PY _ _ (by omega)]
  exact (RT b).1
 ·rename_i h
  unfold ER
  rcases a with a|a
  ·rw [R6 _ _ _ _ (by omega)]
   exact Mo fun e=>h ((MF _ _ _ (by omega)).1 e)
  ·have:k=(DD ls ws).length:=by omega
   subst this
   rw [R5]
   refine Mo fun e=>h ?_
   have c:=cngA (fun y=>Crc.of (DD ls ws) ^^^ y) e
   simpa only [← BitVec.xor_assoc,BitVec.xor_self,BitVec.zero_xor] using c


end Go.Proofs.YtblbopcaflaldaaGreatDoor

namespace Go.Dd
open Go Go.RowKit List
end Go.Dd

namespace Go.Proofs.YtblbopcaflaldaaGreatDoor
open Go Go.Dd Go.RowKit List
set_option maxRecDepth 100000

def RP (A:Nat) (x:Value) (B:Nat) (w1:World) (F:Nat→BitVec 32) (n:Nat) (w' :World):Prop:=
 ∃lv,AM w' A 75 [x,lv]∧w'.ownsRow B 21 1 lv n (((List.range n).map F).map i32)∧Below B w1 w'
theorem RP.bel {A B n:Nat} {x:Value} {a w' :World} {F:Nat→BitVec 32} (h:RP A x B a F n w'):Below B a w' :=by obtain ⟨_,_,_,h⟩:=h;exact h
end Go.Proofs.YtblbopcaflaldaaGreatDoor

namespace Go.Dd
open Go Go.RowKit
open List
namespace Shapes
end Shapes
open Shapes
def pl (s:List Int) (l:List (BitVec 32)) (p:List Int):BitVec 32:=l.getD (idx s p).toNat default
def mk (s:List Int) (f:List Int→BitVec 32):List (BitVec 32):=(List.range (GD s).toNat).map fun i:Nat=>f (LL s (i:Int))
def U3 (k:Nat) (j:Int) (q:List Int):List Int:=q.take k++j::q.drop k
def JW (l:List (BitVec 32)):BitVec 32:=sm l.length fun i=>l.getD i default
end Go.Dd

namespace Go.Proofs.YtblbopcaflaldaaGreatDoor
open Go Go.Dd Go.RowKit List
set_option maxRecDepth 100000







abbrev UA:TypeId:=114
structure S6 (W w:World) (A:Nat) (v:Value) (l:Bs) (bad:Bool):Prop where
 sl:AY b8 W v l
 bel:Below W.heap.size W w
 lo:W.heap.size≤A
 cell:AM w A UA [v, .bool bad]
theorem S6.bs {W w w' :World} {A:Nat} {v:Value} {l:Bs} {a:Bool} (h:S6 W w A v l a) (g:Below w.heap.size w w'):S6 W w' A v l a:=⟨h.sl,bt h.bel g,h.lo,h.cell.bs g⟩
theorem S6.grow {W w w' :World} {A:Nat} {v:Value} {l:Bs} {a:Bool} {r:Option Nat} (h:S6 W w A v l a) (g:w.grownBy w' r) (c:∀b,r=some b→W.heap.size≤b∧b≠A):S6 W w' A v l a:=
 ⟨h.sl,h.bel.grown g (AA h.bel) fun b e=>(c b e).1,h.lo,h.cell.by g fun e=>(c A e.symm).2 rfl⟩
structure Dt (W x:World) (A M R:Nat) (rest:Bs) (bad:Bool) (ls:List N5) (vn:Value) (ts:List T4) (vw:Value):Prop where
 bel:Below W.heap.size W x
 res:AM x R 27 [.slice none 0 0, .slice none 0 0]
 m:AM x M 27 [vn,vw]
 g:∃v,S6 W x A v rest bad
 gb:bad=true→rest=[]
 o:x.ownsRow W.heap.size 79 5 vn ls.length (Ib N5.cells ls)
 u:x.ownsRow W.heap.size 75 2 vw ts.length (cellsOf ts)
 en:∀c ∈ ls,AS x W.heap.size 3 1 c.x c.i.length (c.i.map (Value.int .i64))∧AS x W.heap.size 3 1 c.y c.s.length (c.s.map (Value.int .i64))
 et:∀t ∈ ts,AS x W.heap.size 3 1 t.x t.s.length (t.s.map (Value.int .i64))∧AS x W.heap.size 21 1 t.y t.l.length (t.l.map i32)
theorem Dt.bs {W x y:World} {A M R:Nat} {a:Bs} {d:Bool} {ls:List N5} {e:Value} {ts:List T4} {f:Value} (h:Dt W x A M R a d ls e ts f) (g:Below x.heap.size x y):Dt W y A M R a d ls e ts f:=by
 obtain ⟨v',r⟩:=h.g
 exact ⟨bt h.bel g,h.res.bs g,h.m.bs g,⟨v',r.bs g⟩,h.gb,AF h.o g,AF h.u g,fun c b=>⟨(h.en c b).1.bs g,(h.en c b).2.bs g⟩,fun c b=>⟨(h.et c b).1.bs g,(h.et c b).2.bs g⟩⟩
theorem Dt.gn {W x:World} {A M R:Nat} {b:Bs} {c:Bool} {ls:List N5} {d:Value} {ts:List T4} {f:Value} (h:Dt W x A M R b c ls d ts f):GN x d ls:=⟨AH h.o,fun a e=>⟨(h.en a e).1.slT,(h.en a e).2.slT⟩⟩
theorem Dt.tn {W x:World} {A M R:Nat} {b:Bs} {c:Bool} {ls:List N5} {f:Value} {ts:List T4} {e:Value} (h:Dt W x A M R b c ls f ts e):GG x e ts:=⟨AH h.u,fun a d=>⟨(h.et a d).1.slT,(h.et a d).2.slT⟩⟩
theorem Dt.ch {W x y:World} {A M R B:Nat} {k a:Bs} {n d:Bool} {ls:List N5} {q:Value} {ts:List T4} {m:Value} {U:TypeId} {cs:List Value} (h:Dt W x A M R k n ls q ts m) (g:x.grownBy y (some B)) (z:W.heap.size≤B) (v:AM x B U cs)
  (o:3≠U) (s:21≠U) (j:79≠U∨q.ownBlock≠some B) (i:75≠U∨m.ownBlock≠some B) (t:B≠M) (w:B≠R) (r:∃v',S6 W y A v' a d) (u:d=true→a=[]):Dt W y A M R a d ls q ts m:=by
 have f:∀b,some B=some b→∃cs,AM x b U cs:=fun b e=>by cases e;exact ⟨_,v⟩
 refine ⟨h.bel.grown g (AA h.bel) (fun b e=>by cases e;exact z),h.res.by g (fun e=>w (Option.some.inj e).symm),h.m.by g (fun e=>t (Option.some.inj e).symm),r,u, ?_, ?_,fun c l=>⟨AC (h.en c l).1 g f o,AC (h.en c l).2 g f o⟩,fun c l=>⟨AC (h.et c l).1 g f o,AC (h.et c l).2 g f s⟩⟩
 ·rcases j with j|j
  ·exact CY h.o g f j
  ·exact AN h.o fun b e=>g.block b (AB h.o b e).2 fun p=>j (by rw [e,p])
 ·rcases i with i|i
  ·exact CY h.u g f i
  ·exact AN h.u fun b e=>g.block b (AB h.u b e).2 fun p=>i (by rw [e,p])
theorem Dt.ob {W x y:World} {A M R B:Nat} {a:Bs} {c:Bool} {ls:List N5} {f:Value} {ts:List T4} {d:Value} {U:TypeId} {cs:List Value} (h:Dt W x A M R a c ls f ts d) (g:x.grownBy y (some B)) (i:W.heap.size≤B) (m:AM x B U cs)
  (n:3≠U) (j:21≠U) (p:79≠U∨f.ownBlock≠some B) (l:75≠U∨d.ownBlock≠some B) (o:B≠A) (k:B≠M) (q:B≠R):Dt W y A M R a c ls f ts d:=
 h.ch g i m n j p l k q (by obtain ⟨v',r⟩:=h.g;exact ⟨v',r.grow g fun b e=>by cases e;exact ⟨i,o⟩⟩) h.gb
end Go.Proofs.YtblbopcaflaldaaGreatDoor

namespace Go.Proofs.YtblbopcaflaldaaGreatDoor
open Go Go.Dd Go.RowKit Go.ChangeShapes Go.WideShapes List Go.Proofs.Tryz
set_option maxRecDepth 100000
theorem Kl.bs {w w' :World} {b c:Nat} {v u:Value} {ls:List N5} {ts:List T4} (h:Kl w b c v u ls ts) (g:Below w.heap.size w w'):Kl w' b c v u ls ts:=by
 obtain ⟨⟨a,f,d⟩,i,e⟩:=h
 exact ⟨⟨a,f.bs g,d.bs g⟩,i.bs g,e.bs g⟩
structure TH (w:World) (a d:Nat) (n:Int) (v u:Value) (ls:List N5) (ts:List T4):Prop where
 ki:Nz w a d 3 1 (UJ n ls++UI (n+2*ls.length+1) ts)
 kn:Nz w a d 21 1 (UH (n+2*ls.length+1) ts)
 kt:Nz w a d 75 2 [I3 u ts.length (cellsOf ts) (n+2*ls.length+1+2*ts.length+1)]
 kd:Nz w a d 79 5 [I3 v ls.length (Ib N5.cells ls) (n+2*ls.length+1)]
 gn:GN w v ls
 tn:GG w u ts
 vl:∀b,v.ownBlock=some b→b<d
 ul:∀b,u.ownBlock=some b→b<d
 lsl:∀t ∈ ls,t.low d
 tsl:∀t ∈ ts,t.low d
theorem TH.below {w w' :World} {a d B:Nat} {n:Int} {v u:Value} {ls:List N5} {ts:List T4} (h:TH w a d n v u ls ts) (g:Below B w w') (c:d≤B):TH w' a d n v u ls ts:=
 have b:Below d w w' :=g.mono c
 ⟨h.ki.below b (AT _),h.kn.below b (AT _),h.kt.below b (AT _),h.kd.below b (AT _),Tv h.gn h.vl h.lsl b,P7 h.tn h.ul h.tsl b,h.vl,h.ul,h.lsl,h.tsl⟩
theorem OA {t:N5} {a b:Nat} (h:t.low a) (c:a≤b):t.low b:=⟨fun k e=>by have:=h.1 k e;omega,fun k e=>by have:=h.2 k e;omega⟩
theorem OB {t:T4} {a b:Nat} (h:t.low a) (c:a≤b):t.low b:=⟨fun k e=>by have:=h.1 k e;omega,fun k e=>by have:=h.2 k e;omega⟩
theorem TH.wide {w:World} {a d g i:Nat} {n:Int} {v u:Value} {ls:List N5} {ts:List T4} (h:TH w a d n v u ls ts) (f:g≤a) (c:d≤i):TH w g i n v u ls ts:=
 ⟨h.ki.wide f c,h.kn.wide f c,h.kt.wide f c,h.kd.wide f c,h.gn,h.tn,fun b e=>by have:=h.vl b e;omega,fun b e=>by have:=h.ul b e;omega,fun t m=>OA (h.lsl t m) c,fun t m=>OB (h.tsl t m) c⟩
theorem Qm (v u:Value) (ls:List N5) (ws:List T4) (E:Int) (R:List (BitVec 8)) (W:World) (h:GN W v ls) (a:GG W u ws) (b:Kh ls ws=E) (c:I4 ls ws=R):
  AO prog 12 [.agg [v,u].toArray] W (fun r w' =>Below W.heap.size W w' ∧∃x,r= .tuple #[x, .int .i64 E]∧AS w' W.heap.size 5 1 x R.length (R.map b8)):=by
 subst b c
 exact Tc v u ls ws W h a
theorem Qp (v:Value) (l:Bs) (E:Int) (X:List PN×List PV) (W:World) (d:AY b8 W v l) (c:EL l=E) (e:(HY l).getD ([],[])=X):AO prog 14 [v] W (fun r w' =>Below W.heap.size W w' ∧∃a b ls ts,r= .tuple #[.agg [a,b].toArray, .int .i64 E]∧(ls.map pn,ts.map pv)=X∧Kl w' W.heap.size w'.heap.size a b ls ts):=by
 subst c e
 exact Li v l W d
end Go.Proofs.YtblbopcaflaldaaGreatDoor

namespace Go.Proofs.YtblbopcaflaldaaGreatDoor
open Go Go.Dd Go.RowKit List Go.Proofs.Tryz
set_option maxRecDepth 100000
theorem own:ownKnob Tryz.prog.godebug=none:=by kernel_rfl
theorem Lk:laidOutB prog=true:=by kernel_rfl
end Go.Proofs.YtblbopcaflaldaaGreatDoor

namespace Go.Proofs.YtblbopcaflaldaaGreatDoor
open Go Go.Dd Go.RowKit Go.ChangeShapes Go.WideShapes Go.ChangeAt List Go.Proofs.Tryz
set_option maxRecDepth 100000
theorem Pm {H:Type} {enc:TypeId×Value→H} {w:World} {base:Nat} {z:Value} (k:Value.okWide prog w .any base 27 z) (h:In enc prog w 27 z.cells.toList):
  ∃(v u:Value) (ls:List N5) (ws:List T4),z= .agg [v,u].toArray∧GN w v ls∧ls.length≤1125899906842624∧(∀t ∈ ls,t.few)∧GG w u ws∧ws.length≤1125899906842624∧(∀t ∈ ws,Nm t):=by
 obtain ⟨cs,rfl,e⟩:=JR underlying27 k h
 obtain ⟨c,d⟩:=e.struct underlying27
 have s:Tryz.prog.cellsOf 27=2:=by kernel_rfl
 have q:Tryz.prog.cellsOf 24=1:=by kernel_rfl
 have o:Tryz.prog.cellsOf 25=1:=by kernel_rfl
 rw [s] at c
 obtain ⟨a,b,rfl⟩:∃a b,cs=[a,b]:=by
  match cs,c with
  |[a,b],_=>exact ⟨a,b,rfl⟩
 have i:In enc prog w 24 (([a,b].drop 0).take (Tryz.prog.cellsOf 24)):=d 0 _ rfl
 have g:In enc prog w 25 (([a,b].drop 1).take (Tryz.prog.cellsOf 25)):=d 1 _ rfl
 rw [q] at i
 rw [o] at g
 obtain ⟨v,ev,ls,n,r,p⟩:=Q7 i
 obtain ⟨u,f,ws,m,j,l⟩:=RN g
 simp at ev f
 subst ev f
 exact ⟨_,_,ls,ws,rfl,n,r,p,m,j,l⟩
end Go.Proofs.YtblbopcaflaldaaGreatDoor
