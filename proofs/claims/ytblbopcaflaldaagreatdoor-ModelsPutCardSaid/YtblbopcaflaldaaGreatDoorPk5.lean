/- Texts of this proof, one behind the other: MdlGet, MdlGot, MdlTwin, RefJoined, RefOrd, RefNode, RefProducts, WinOf, WinPool, RefWin, RefMoves, RefGraph, RefShapes, RefMdl, RefChk, RefMput, RefGet4. -/
import Derived.Test.YtblbopcaflaldaaGreatDoorPk3
import Derived.Test.YtblbopcaflaldaaGreatDoorPk4
import Derived.Test.YtblbopcaflaldaaGreatDoorPk2
import Derived.Test.YtblbopcaflaldaaGreatDoorPk1

namespace Go.Proofs.YtblbopcaflaldaaGreatDoor
open Go Go.Dd Go.RowKit List Go.Proofs.Tryz
set_option maxRecDepth 100000
theorem Vo (x:BitVec 8):BitVec.ofInt 8 (x.toNat:Int)=x:=by
 apply BitVec.eq_of_toNat_eq
 have:=x.isLt
 simp
theorem Mk.bs {W w a:World} {A:Nat} {v:Value} {l:Bs} (h:Mk W w A v l) (g:Below w.heap.size w a):Mk W a A v l:=⟨h.sl,bt h.bel g,h.lo,h.cell.bs g⟩
theorem Mk.grow {W w a:World} {A:Nat} {v:Value} {l:Bs} {r:Option Nat} (h:Mk W w A v l) (g:w.grownBy a r) (c:∀b,r=some b→W.heap.size≤b∧b≠A):Mk W a A v l:=
 ⟨h.sl,h.bel.grown g (AA h.bel) fun b e=>(c b e).1,h.lo,h.cell.by g fun e=>(c A e.symm).2 rfl⟩
theorem J2 (W w:World) (A:Nat) (v:Value) (l:Bs) (f:Mk W w A v l):
  Ls prog 52 [.pointer (some ⟨A,0,none⟩)] w SM
   (fun r a=>∃b c,ES l=some (b,c)∧w.grownBy a (some A)∧a.heap.size=w.heap.size∧r= .int .i64 (b.toNat:Int)∧∃v',Mk W a A v' c) (fun a=>ES l=none∧a=w):=
 (Rs W w A v l f).mono (fun _ _ ⟨g,d,j,e,i⟩=>⟨_,_,IH g,d,j,e,i⟩) fun _ h=>⟨KY.2 h.1,h.2⟩
theorem M0 (W w:World) (A:Nat) (v:Value) (l:Bs) (e:Mk W w A v l):
  Ls prog 53 [.pointer (some ⟨A,0,none⟩)] w SM
   (fun r a=>∃t b,DZ l=some (t,b)∧w.grownBy a (some A)∧AQ a w.heap.size 3 1 r t.length (t.map (Value.int .i64))∧∃v',Mk W a A v' b) (fun a=>DZ l=none∧w.grownBy a (some A)):=
 (Tg W w A v l e).mono (fun _ _ ⟨f,c,i,d,g⟩=>⟨_,_,NN f c,i,d,g⟩) fun _ h=>⟨NO.2 h.1,h.2⟩
structure Gt (W w x:World) (Rc A M T:Nat) (rest:Bs) (ls:List N5) (vn:Value) (ts:List T4) (vw:Value):Prop where
 chg:BR (fun b=>b=A∨b=M) w x
 c:AP x Rc 97 [.pointer (some ⟨A,0,none⟩)]
 m:AP x M 27 [vn,vw]
 r:∃v',Mk W x A v' rest
 o:x.ownsRow w.heap.size 79 5 vn ls.length (GI N5.cells ls)
 u:x.ownsRow w.heap.size 75 2 vw ts.length (cellsOf ts)
 lay:∃mid,IV x w.heap.size mid ls∧AZ x mid T ts
 top:T≤x.heap.size
structure Ug (W w:World) (Rc A M:Nat):Prop where
 c:W.heap.size≤Rc∧Rc<w.heap.size
 a:W.heap.size≤A∧A<w.heap.size
 m:W.heap.size≤M∧M<w.heap.size
 ca:Rc≠A
 cm:Rc≠M
 am:A≠M
theorem Gt.bs {W w x y:World} {e A M T:Nat} {a:Bs} {ls:List N5} {c:Value} {ts:List T4} {d:Value} (h:Gt W w x e A M T a ls c ts d) (g:Below x.heap.size x y):Gt W w y e A M T a ls c ts d:=by
 obtain ⟨v',r⟩:=h.r
 obtain ⟨b,f,l2⟩:=h.lay
 exact ⟨h.chg.below g,h.c.bs g,h.m.bs g,⟨v',r.bs g⟩,AI h.o g,AI h.u g,⟨b,f.bs g,l2.bs g⟩,Nat.le_trans h.top g.size⟩
theorem Gt.rd {W w x y:World} {i A M T:Nat} {c a:Bs} {ls:List N5} {j:Value} {ts:List T4} {l:Value} (L:Ug W w i A M) (h:Gt W w x i A M T c ls j ts l) (g:x.grownBy y (some A)) (r:∃v',Mk W y A v' a):Gt W w y i A M T a ls j ts l:=by
 obtain ⟨d,n,l2⟩:=h.lay
 obtain ⟨v',r⟩:=r
 have o:∃cs,AP x A 99 cs:=by
  obtain ⟨q,m⟩:=h.r
  exact ⟨_,m.cell⟩
 have k:∀b,some A=some b→∃cs,AP x b 99 cs:=fun b e=>by cases e;exact o
 exact ⟨h.chg.grown g (fun b e=>by cases e;exact .inl (.inl rfl)),h.c.by g (fun e=>L.ca (Option.some.inj e)),h.m.by g (fun e=>L.am (Option.some.inj e).symm),⟨v',r⟩,
  AV h.o fun b e=>g.block b (AB h.o b e).2 fun f=>by
   have:=Option.some.inj f;have:=(AB h.o b e).1;have:=L.a.2;omega,
  AV h.u fun b e=>g.block b (AB h.u b e).2 fun f=>by
   have:=Option.some.inj f;have:=(AB h.u b e).1;have:=L.a.2;omega,
  ⟨d,n.other g k (by decide),l2.other g k (by decide) (by decide)⟩,Nat.le_trans h.top g.size⟩
theorem Gt.ob {W w x y:World} {f A M T B:Nat} {a:Bs} {ls:List N5} {j:Value} {ts:List T4} {c:Value} {U:TypeId} {cs:List Value} (L:Ug W w f A M) (h:Gt W w x f A M T a ls j ts c) (g:x.grownBy y (some B)) (s:w.heap.size≤B) (n:AP x B U cs)
  (k:3≠U) (m:21≠U) (p:j.ownBlock≠some B) (o:c.ownBlock≠some B):Gt W w y f A M T a ls j ts c:=by
 obtain ⟨v',r⟩:=h.r
 obtain ⟨i,q,l2⟩:=h.lay
 have u:=L.a
 have t:=L.c
 have v:=L.m
 have l:∀b,some B=some b→∃cs,AP x b U cs:=fun b e=>by cases e;exact ⟨_,n⟩
 exact ⟨h.chg.grown g (fun b e=>by cases e;exact .inr s),h.c.by g (fun e=>by have:=Option.some.inj e;omega),h.m.by g (fun e=>by have:=Option.some.inj e;omega),⟨v',r.grow g fun b e=>by cases e;omega⟩,
  AV h.o fun b e=>g.block b (AB h.o b e).2 fun d=>p (by rw [e,d]),
  AV h.u fun b e=>g.block b (AB h.u b e).2 fun d=>o (by rw [e,d]),
  ⟨i,q.other g l k,l2.other g l k m⟩,Nat.le_trans h.top g.size⟩
theorem Gt.up {W w x:World} {e A M T:Nat} {a:Bs} {ls:List N5} {c:Value} {ts:List T4} {d:Value} (h:Gt W w x e A M T a ls c ts d):Gt W w x e A M x.heap.size a ls c ts d:=by
 obtain ⟨b,f,l2⟩:=h.lay
 exact ⟨h.chg,h.c,h.m,h.r,h.o,h.u,⟨b,f,l2.topM h.top⟩,AU _⟩
def Kt (w x:World) (A M:Nat):Prop:=BR (fun b=>b=A∨b=M) w x∧∃p q,AP x M 27 [p,q]
theorem Gt.k {W w x:World} {d A M T:Nat} {a:Bs} {ls:List N5} {b:Value} {ts:List T4} {c:Value} (h:Gt W w x d A M T a ls b ts c):Kt w x A M:=⟨h.chg,_,_,h.m⟩
theorem Gt.kg {W w x y:World} {c A M T:Nat} {a:Bs} {ls:List N5} {d:Value} {ts:List T4} {f:Value} (h:Gt W w x c A M T a ls d ts f) (L:Ug W w c A M) (g:x.grownBy y (some A)):Kt w y A M:=
 ⟨h.chg.grown g (fun b e=>by cases e;exact .inl (.inl rfl)),_,_,h.m.by g (fun e=>L.am (Option.some.inj e).symm)⟩
theorem Nh (ls:List N5) (c:N5):GI N5.cells (ls++[c])=GI N5.cells ls++c.cells:=by simp [GI]
theorem Gt.node {W w x y z:World} {B A M T:Nat} {a:Bs} {ls:List N5} {q f:Value} {n:Value} {c:N5} {p l:Nat} (L:Ug W w B A M) (h:Gt W w x B A M T a ls q [] n) (N:NK x p l c) (D:T≤p) (H:p≤l) (S:l≤x.heap.size)
  (o:y.ownsRow w.heap.size 79 5 f (ls.length+1) (GI N5.cells ls++c.cells)) (g:x.grownBy y q.ownBlock) (d:y.grownBy z (some M)) (m:AP z M 27 [f,n]):Gt W w z B A M l a (ls++[c]) f [] n:=by
 obtain ⟨v',r⟩:=h.r
 obtain ⟨j,K,l2⟩:=h.lay
 have U:=L.a
 have R:=L.c
 have Q:=L.m
 have C:∀b,q.ownBlock=some b→∃cs,AP x b 79 cs:=fun b e=>AQ.ty (.inl h.o) e
 have s:∀b,q.ownBlock=some b→w.heap.size≤b:=fun b e=>(AB h.o b e).1
 have F:=h.c.by g (fun e=>by have:=s _ e.symm;omega)
 have I:=h.m.by g (fun e=>by have:=s _ e.symm;omega)
 have E:=r.grow g fun b e=>by have:=s b e;omega
 have t:∀b,some M=some b→∃cs,AP y b 27 cs:=fun b e=>by cases e;exact ⟨_,I⟩
 have u:j≤p:=Nat.le_trans (show j≤T from l2) D
 have G:=((K.other g C (by decide)).snoc (N.other g C (by decide)) H u).other d t (by decide)
 refine ⟨(h.chg.grown g (fun b e=> .inr (s b e))).grown d (fun b e=>by cases e;exact .inl (.inr rfl)),F.by d (fun e=>L.cm (Option.some.inj e)),m,⟨v',E.grow d fun b e=>by cases e;exact ⟨Q.1,fun e=>L.am e.symm⟩⟩, ?_, ?_,⟨l,G,AU _⟩, ?_⟩
 ·rw [length_append,Nh]
  exact AV o fun b e=>d.block b (AB o b e).2 fun i=>by
   have:=Option.some.inj i;have:=(AB o b e).1;omega
 ·have v:y.ownsRow w.heap.size 75 2 n 0 (cellsOf []):=AV h.u fun b e=>g.block b (AB h.u b e).2 fun i=>by
   obtain ⟨cs,k⟩:=C b i.symm
   obtain ⟨ds,J⟩:=AQ.ty (.inl h.u) e
   exact absurd (BM J k) (by decide)
  exact AV v fun b e=>d.block b (AB v b e).2 fun i=>by
   have:=Option.some.inj i;have:=(AB v b e).1;omega
 ·have:=g.size
  have:=d.size
  omega
theorem Ha:∀(ts:List T4) (c:T4),cellsOf (ts++[c])=cellsOf ts++[c.x,c.y]
 |[],c=>rfl
 |t::ts,c=>by rw [cons_append,cellsOf,cellsOf,Ha ts c];rfl
theorem Gt.tens {W w x y z:World} {v A M T:Nat} {d:Bs} {ls:List N5} {ts:List T4} {q:Value} {l f:Value} {c:T4} {t p:Nat} (L:Ug W w v A M) (h:Gt W w x v A M T d ls q ts l) (N:GK x t p c) (C:T≤t) (H:t≤p) (S:p≤x.heap.size)
  (o:y.ownsRow w.heap.size 75 2 f (ts.length+1) (cellsOf ts++[c.x,c.y])) (g:x.grownBy y l.ownBlock) (a:y.grownBy z (some M)) (m:AP z M 27 [q,f]):Gt W w z v A M p d ls q (ts++[c]) f:=by
 obtain ⟨v',r⟩:=h.r
 obtain ⟨B,K,l2⟩:=h.lay
 have U:=L.a
 have R:=L.c
 have Q:=L.m
 have n:∀b,l.ownBlock=some b→∃cs,AP x b 75 cs:=fun b e=>AQ.ty (.inl h.u) e
 have s:∀b,l.ownBlock=some b→w.heap.size≤b:=fun b e=>(AB h.u b e).1
 have E:=h.c.by g (fun e=>by have:=s _ e.symm;omega)
 have I:=h.m.by g (fun e=>by have:=s _ e.symm;omega)
 have D:=r.grow g fun b e=>by have:=s b e;omega
 have i:∀b,some M=some b→∃cs,AP y b 27 cs:=fun b e=>by cases e;exact ⟨_,I⟩
 have F:=((l2.other g n (by decide) (by decide)).snocM (N.other g n (by decide) (by decide)) H C).other a i (by decide) (by decide)
 have G:=(K.other g n (by decide)).other a i (by decide)
 refine ⟨(h.chg.grown g (fun b e=> .inr (s b e))).grown a (fun b e=>by cases e;exact .inl (.inr rfl)),E.by a (fun e=>L.cm (Option.some.inj e)),m,⟨v',D.grow a fun b e=>by cases e;exact ⟨Q.1,fun e=>L.am e.symm⟩⟩, ?_, ?_,⟨B,G,F⟩, ?_⟩
 ·have u:y.ownsRow w.heap.size 79 5 q ls.length (GI N5.cells ls):=AV h.o fun b e=>g.block b (AB h.o b e).2 fun j=>by
   obtain ⟨cs,k⟩:=n b j.symm
   obtain ⟨ds,J⟩:=AQ.ty (.inl h.o) e
   exact absurd (BM J k) (by decide)
  exact AV u fun b e=>a.block b (AB u b e).2 fun j=>by
   have:=Option.some.inj j;have:=(AB u b e).1;omega
 ·rw [length_append,Ha]
  exact AV o fun b e=>a.block b (AB o b e).2 fun j=>by
   have:=Option.some.inj j;have:=(AB o b e).1;omega
 ·have:=g.size
  have:=a.size
  omega
theorem CA {w a:World} {c sz k:Nat} {E T:TypeId} {v:Value} {xs:List Value} {r:Option Nat} (h:w.ownsRow c E sz v k xs) (g:w.grownBy a r) (i:∀b,r=some b→∃cs,AP w b T cs) (j:E≠T):a.ownsRow c E sz v k xs:=
 AV h fun b e=>g.block b (AB h b e).2 fun l=>by
  obtain ⟨cs,d⟩:=i b l.symm
  obtain ⟨ds,f⟩:=AQ.ty (.inl h) e
  exact j (BM f d)
theorem Gt.gn {W w x:World} {i A M T:Nat} {b:Bs} {ls:List N5} {c:Value} {ts:List T4} {g:Value} (h:Gt W w x i A M T b ls c ts g):GN x c ls:=by
 obtain ⟨f,e, -⟩:=h.lay
 exact ⟨AF h.o,fun a d=>(e.each a d).at⟩
theorem No (k:BitVec 8):Tryz.prog.built 79 [(0,b8 k)]=some [b8 k, .slice none 0 0, .slice none 0 0, .int .i64 0, .int .i64 0].toArray:=by
 have a:Tryz.prog.info? 79=some Tryz.t79:=by kernel_rfl
 have b:Tryz.prog.info? 3=some Tryz.t3:=by kernel_rfl
 have d:Tryz.prog.info? 77=some Tryz.t77:=by kernel_rfl
 have c:Tryz.prog.info? 70=some Tryz.t70:=by kernel_rfl
 simp [Program.built,a,underlying79,b,d,c,Instr.fill]
 rfl
set_option maxHeartbeats 2000000 in
theorem UG (W w:World) (Rc A M:Nat) (l:Bs) (L:Ug W w Rc A M) (h:Gt W w w Rc A M w.heap.size l [] (.slice none 0 0) [] (.slice none 0 0)):
  Ls prog 51 [.pointer (some ⟨Rc,0,none⟩), .pointer (some ⟨M,0,none⟩)] w SM
   (fun r V=>r= .tuple #[]∧∃t ls ts vn vw,DK l=some (ls.map pn,ts.map pv,t)∧Gt W w V Rc A M V.heap.size t ls vn ts vw)
   (fun V=>DK l=none∧Kt w V A M):=by
 have la:=L.a
 have lc:=L.c
 have lm:=L.m
 have b_c:=h.c
 obtain ⟨v,r0⟩:=h.r
 refine E1 (n:=89) func51 (by kernel_rfl) O O O<|Ao<|Ad<|Aa (Al (Jm _) O ‹_› rfl) O ?_
 refine Dw O O (J2 W w A v l r0) (fun V R=>Cp (Cp (D9 (⟨by rw [DK,R.1],R.2 ▸ h.k⟩)))) ?_
 rintro _ E ⟨b,l1,e1,a,hz,rfl,r1⟩
 have h:=h.rd L a r1
 clear b_c r0 a hz r1
 have b255:=b.isLt
 refine Ac O<|Ak<|An ?_
 refine Bl (S:=(Nat×Bs×List N5×Value)) (fun z=>[(0, .pointer (some ⟨Rc,0,none⟩)),(1, .pointer (some ⟨M,0,none⟩)),(11, .int .i64 (b.toNat:Int)),(12, .int .i64 (z.1:Int))]) (fun z V=>z.1≤b.toNat∧z.2.2.1.length=z.1∧CJ b.toNat l1=(CJ (b.toNat - z.1) z.2.1).map (fun q=>(z.2.2.1.map pn++q.1,q.2))∧Gt W w V Rc A M V.heap.size z.2.1 z.2.2.1 z.2.2.2 [] (.slice none 0 0)) (fun z=>b.toNat - z.1) ((0,l1,[], .slice none 0 0)) ⟨rfl,rfl,rfl,rfl,trivial⟩ ?_ ?_
 ·exact ⟨Nat.zero_le _,rfl,by simp,h.up⟩
 clear h
 rintro ⟨i,t,ls,vn⟩ w2 ⟨hi,hl,hN,h⟩
 dsimp only at hi hl hN h ⊢
 refine Ad<|Bz O<|Ak<|Ao<|Aq O ?_ ?_
 ·intro g
  have hi' :i<b.toNat:=by have:=AC g;omega
  rw [show b.toNat - i=(b.toNat - (i+1))+1 by omega] at hN
  have no:EB t=none→DK l=none:=fun e=>by rw [DK,e1];simp only;rw [Lb hN e]
  have b_c:=h.c
  obtain ⟨v2,r2⟩:=h.r
  refine Bw<|Ao<|An<|Ad<|Aa (Al (Jm _) O ‹_› rfl) O ?_
  refine Dw O O (J2 W w2 A v2 t r2) (fun V R=>Cp (D1 (Cp (Cp (D1 (Cp (D9 (⟨no (by simp only [EB,R.1]),R.2 ▸ h.k⟩)))))))) ?_
  rintro _ w3 ⟨k,l2,e2,a,hz,rfl,r3⟩
  have h:=h.rd L a r3
  clear b_c r2 a hz r3
  refine Aa (Ex.as (Dm Hc EX O) (cngA b8 (Vo k))) O<|Aa (C1 (cs:=[b8 k, .slice none 0 0, .slice none 0 0, .int .i64 0, .int .i64 0]) O (No k)) O<|Cz (cs:=[b8 k, .slice none 0 0, .slice none 0 0, .int .i64 0, .int .i64 0]) EJ O O O O (fun _=>rfl) (rfl) ?_
  rintro A_x w4 eA_x f m zhn
  have hv4:∀b,vn.ownBlock=some b→b<A_x:=fun b e=>by have:=(AB h.o b e).2;omega
  have zAx:w.heap.size≤A_x:=by have:=h.chg.size;omega
  have h:=h.bs m
  have nx:vn.ownBlock≠some A_x:=fun e=>by have:=hv4 _ e;omega
  refine Ak<|Ao ?_
  refine Cw.any BB (fun w5 U _=> ?_)
  have h:=h.bs U
  have f:=f.bs U
  clear U
  have h:=h.up
  obtain ⟨v5,r5⟩:=h.r
  refine Dg (fun x=>AP x Rc 97 [.pointer (some ⟨A,0,none⟩)]) (fun hC=> ?_) (h.c)
  refine Cf (Am (Bf (Am (Am (Bf (Am Ek))))))<|Af 0 O (fun E s=>Al (Jm _) O s O) O<|Af 2 O (fun E s=>Al (Jm _) O s O) O<|B5<|AR.only (h.c) (i:=1) (by kernel_rfl) O<|Dw O O (M0 W w5 A v5 l2 r5) (fun V R=>Cp (Cp (D1 (Cp (Cp (D1 (Cp (D9 (⟨no (by simp only [EB,e2,R.1]),h.kg L R.2⟩))))))))) ?_
  rintro x1 w6 ⟨iL,l3,e3,a,I,r6⟩
  have h:=h.rd L a r6
  have f:=f.by a (fun e=>by have:=Option.some.inj e;omega)
  have z6:=a.size
  clear r5 a r6
  obtain ⟨v6,r6⟩:=h.r
  have y1:=I.lt
  refine AR.back<|Cf (Am (Bf (Am (Am (Bf (Am Ek))))))<|Af 4 O (fun E s=>B8 underlying79 O (AT _)) O<|B5<|AR.only (h.c) (i:=3) (by kernel_rfl) O<|Dw O O (M0 W w6 A v6 l3 r6) (fun V R=>Cp (Cp (D1 (Cp (Cp (D1 (Cp (D9 (⟨no (by simp only [EB,e2,e3,R.1]),h.kg L R.2⟩))))))))) ?_
  rintro x2 w7 ⟨sL,l4,e4,a,T,r7⟩
  have h:=h.rd L a r7
  have f:=f.by a (fun e=>by have:=Option.some.inj e;omega)
  replace I:=AH I a (fun b e=>by cases e;exact ⟨_,r6.cell⟩) (by decide)
  have z7:=a.size
  have y2:=T.lt
  clear r6 a r7
  have zx:=BA f
  refine AR.back<|AR.only (h.c) (i:=5) (by kernel_rfl) O<|Bv (C5 (u:=x1) (AT _) O O I.slT.one' f (show 1<5 by decide)) ?_
  rintro w8 ⟨C,a, -⟩
  have h:=h.ob L a zAx f (by decide) (by decide) nx (by rintro ⟨⟩)
  replace I:=AH I a (fun b e=>by cases e;exact ⟨_,f⟩) (by decide)
  replace T:=AH T a (fun b e=>by cases e;exact ⟨_,f⟩) (by decide)
  have z8:=a.size
  clear f a
  refine AR.back<|Cf (Am (Bf (Am (Am (Bf (Am Ek))))))<|Af 6 O (fun E s=>B8 underlying79 O (AT _)) O<|B5<|AR.only (h.c) (i:=7) (by kernel_rfl) O<|Bv (C5 (u:=x2) (AT _) O O T.slT.one' C (show 2<5 by decide)) ?_
  rintro w9 ⟨f,a, -⟩
  have h:=h.ob L a zAx C (by decide) (by decide) nx (by rintro ⟨⟩)
  replace I:=AH I a (fun b e=>by cases e;exact ⟨_,C⟩) (by decide)
  replace T:=AH T a (fun b e=>by cases e;exact ⟨_,C⟩) (by decide)
  have z9:=a.size
  clear C a
  replace f:AP w9 A_x 79 [b8 k,x1,x2, .int .i64 0, .int .i64 0]:=f
  refine AR.back<|Cq (h.c) (by kernel_rfl)<|Ar<|B9<|Ao ?_
  refine Cw.any BB (fun wa U _=> ?_)
  have h:=h.bs U
  have f:=f.bs U
  have I:=I.bs U
  have T:=T.bs U
  have z10:=U.size
  clear U
  obtain ⟨va,ra⟩:=h.r
  refine Dg (fun x=>AP x Rc 97 [.pointer (some ⟨A,0,none⟩)]) (fun hC=> ?_) (h.c)
  refine Cf (Am (Bf (Am (Am (Bf (Am Ek))))))<|Af 0 O (fun E s=>Al (Jm _) O s O) O<|Af 2 O (fun E s=>Al (Jm _) O s O) O<|B5<|AR.only (h.c) (i:=1) (by kernel_rfl) O<|Dw O O (J2 W wa A va l4 ra) (fun V R=>Cp (Cp (D1 (Cp (Cp (D1 (Cp (D9 (⟨no (by simp only [EB,e2,e3,e4,R.1]),R.2 ▸ h.k⟩))))))))) ?_
  rintro _ wb ⟨nb,l5,e5,a,hz,rfl,rb⟩
  have h:=h.rd L a rb
  have f:=f.by a (fun e=>by have:=Option.some.inj e;omega)
  replace I:=AH I a (fun b e=>by cases e;exact ⟨_,ra.cell⟩) (by decide)
  replace T:=AH T a (fun b e=>by cases e;exact ⟨_,ra.cell⟩) (by decide)
  clear ra a rb
  obtain ⟨vb,rb⟩:=h.r
  refine AR.back<|Cf (Am (Bf (Am (Am (Bf (Am Ek))))))<|Af 4 O (fun E s=>B8 underlying79 O (BC _)) O<|B5<|AR.only (h.c) (i:=3) (by kernel_rfl) O<|Dw O O (J2 W wb A vb l5 rb) (fun V R=>Cp (Cp (D1 (Cp (Cp (D1 (Cp (D9 (⟨no (by simp only [EB,e2,e3,e4,e5,R.1]),R.2 ▸ h.k⟩))))))))) ?_
  rintro _ wc ⟨pb,l6,e6,a,hz2,rfl,rc⟩
  have h:=h.rd L a rc
  have f:=f.by a (fun e=>by have:=Option.some.inj e;omega)
  replace I:=AH I a (fun b e=>by cases e;exact ⟨_,rb.cell⟩) (by decide)
  replace T:=AH T a (fun b e=>by cases e;exact ⟨_,rb.cell⟩) (by decide)
  clear rb a rc
  refine AR.back<|AR.only (h.c) (i:=5) (by kernel_rfl) O<|Bv (C5 (u:= .int .i64 (nb.toNat:Int)) (BC _) O O O f (show 3<5 by decide)) ?_
  rintro wd ⟨C,a,hz3⟩
  have h:=h.ob L a zAx f (by decide) (by decide) nx (by rintro ⟨⟩)
  replace I:=AH I a (fun b e=>by cases e;exact ⟨_,f⟩) (by decide)
  replace T:=AH T a (fun b e=>by cases e;exact ⟨_,f⟩) (by decide)
  clear f a
  refine AR.back<|Cf (Am (Bf (Am (Am (Bf (Am Ek))))))<|Af 6 O (fun E s=>B8 underlying79 O (BC _)) O<|B5<|AR.only (h.c) (i:=7) (by kernel_rfl) O<|Bv (C5 (u:= .int .i64 (pb.toNat:Int)) (BC _) O O O C (show 4<5 by decide)) ?_
  rintro we ⟨f,a,hz4⟩
  have h:=h.ob L a zAx C (by decide) (by decide) nx (by rintro ⟨⟩)
  replace I:=AH I a (fun b e=>by cases e;exact ⟨_,C⟩) (by decide)
  replace T:=AH T a (fun b e=>by cases e;exact ⟨_,C⟩) (by decide)
  clear C a
  obtain ⟨c,s⟩:∃c:N5,c=⟨k,x1,x2,iL,sL,(nb.toNat:Int),(pb.toNat:Int)⟩:=⟨_,rfl⟩
  replace f:AP we A_x 79 c.cells:=by rw [s];exact f
  have F:NK we w5.heap.size w7.heap.size c:=by
   rw [s]
   exact ⟨I,T.mono (by omega),fun b e=>by have:=y1 b e;omega,fun b e=>by have:=y2 b e;omega,fun b q1 q2=>by have:=y1 b q1;have:=y2 b q2;omega⟩
  have hcn:EB t=some (pn c,l6):=by rw [s];simp only [EB,e2,e3,e4,e5,e6];rfl
  have oc:=F.at.ones
  clear I T s
  have K:=h.m
  refine AR.back<|Cq (h.c) (by kernel_rfl)<|B6<|Ba underlying27 O (BX _)<|Ba underlying24 O (BU _)<|Aa (Al (CD _) O ‹_› rfl) O ?_
  refine Aa (Cx (k:=5) (EK _) (EH _) O O f) O<|Bc (D8 (cs:=c.cells) BE EJ O O (by decide) (by decide)) O ?_
  rintro p9 wf ⟨G, -,m, -⟩
  have h:=h.bs m
  have F:=F.bs m
  have K:=h.m
  have zf:=h.chg.size
  have z7f:=m.size
  refine Bc (Cn (base:=w.heap.size) BE EJ O (by decide) O O h.o (AF G) oc (by omega) (by omega) zf) O ?_
  rintro y wg ⟨Q, -,a, -⟩
  have b_M' :=K.by a (fun e=>by have:=(AB h.o M e.symm).1;omega)
  refine Ba underlying27 O (BX _)<|Ba underlying24 O (BU _)<|Bv (C5 (u:=y) (BU _) O O (AF Q).one' b_M' (show 0<2 by decide)) ?_
  rintro wh ⟨b_M2,hg2, -⟩
  have h:=Gt.node L h F (AU _) (by omega) (by omega) Q a hg2 b_M2
  refine Bd<|Bg<|B6<|B1 O (by omega)<|Ac O<|Bd ?_
  exact Ar (Bp ((i+1,l6,ls++[c],y)) ⟨rfl,rfl,rfl,rfl,trivial⟩ (⟨hi',by rw [length_append,hl];rfl,by rw [Jd hN hcn,map_append];rfl,h.up⟩) (by simp only;omega))
 intro g
 have hi' :i=b.toNat:=by have:=AD g;omega
 clear g
 have hNR:CJ b.toNat l1=some (ls.map pn,t):=by rw [hN,hi',Nat.sub_self];simp [CJ]
 have no2:EV (Js (ls.map pn)) t=none→DK l=none:=fun e=>by rw [DK,e1];simp only;rw [hNR];simp only;rw [e];rfl
 have yes2:∀ws r,EV (Js (ls.map pn)) t=some (ws,r)→DK l=some (ls.map pn,ws,r):=fun ws r e=>by rw [DK,e1];simp only;rw [hNR];simp only;rw [e];rfl
 rw [Ie] at no2 yes2
 clear hN hi
 have X:=h.gn
 have K:=h.m
 refine Bk<|Aj<|Aj<|A0<|Cb<|Ba underlying27 O (BX _)<|Aa (D3 (ds:=[vn]) (Gx _) (BX _) O O ‹_› rfl) O ?_
 refine Ai O O (Kv vn ls w2 X (by omega)) ?_
 rintro wl w3 ⟨m,d⟩
 have h:=h.bs m
 have s_w:=d.slT
 clear X K m
 obtain ⟨J,hJ⟩:∃J,J=(F2 ls).map (·.s):=⟨_,rfl⟩
 rw [← hJ] at no2 yes2
 have lJ:J.length=(CP ls).length:=by rw [hJ,length_map,← IC,length_map]
 have lJ2:J.length≤ls.length:=by rw [hJ,length_map];exact length_filter_le ..
 obtain ⟨B3,hB3⟩:∃B,B=w2.heap.size:=⟨_,rfl⟩
 rw [← hB3] at d
 refine Aa (Ap AE O ‹_›) O ?_
 refine Ac O<|Ak<|An ?_
 refine Bl (S:=(Nat×Bs×List T4×Value)) (fun z=>[(0, .pointer (some ⟨Rc,0,none⟩)),(1, .pointer (some ⟨M,0,none⟩)),(41,wl),(42, .int .i64 ((CP ls).length:Int)),(43, .int .i64 (z.1:Int))]) (fun z V=>z.1≤J.length∧z.2.2.1.length=z.1∧EV J t=(EV (J.drop z.1) z.2.1).map (fun q=>(z.2.2.1.map pv++q.1,q.2))∧Gt W w V Rc A M V.heap.size z.2.1 ls vn z.2.2.1 z.2.2.2∧AQ V B3 3 1 wl (CP ls).length ((CP ls).map (Value.int .i64))) (fun z=>J.length - z.1) ((0,t,[], .slice none 0 0)) ⟨rfl,rfl,rfl,rfl,rfl,trivial⟩ ?_ ?_
 ·exact ⟨Nat.zero_le _,rfl,by simp,h.up,d⟩
 clear h d s_w
 rintro ⟨j,D,ts,vw⟩ w4 ⟨hj,hlt,hN,h,d⟩
 dsimp only at hj hlt hN h d ⊢
 have s_w:=d.slT
 refine Ad<|Bz O<|Ak<|Ao<|Aq O ?_ ?_
 ·intro g
  have hj' :j<(CP ls).length:=by have:=AC g;omega
  obtain ⟨i',hi2,ej,h2,eF⟩:=Lt hj'
  obtain ⟨x,hx⟩:∃x,x=ls[i']:=⟨_,rfl⟩
  have hxg:ls.getD i' default=x:=by rw [getD_eq_getElem?_getD,getElem?_eq_getElem hi2,hx];rfl
  have hJx:J[j]? =some x.s:=by rw [hJ,getElem?_map,getElem?_eq_getElem h2,eF,hxg];rfl
  rw [drop_eq_getElem_cons (show j<J.length by omega),(List.getElem?_eq_some_iff.1 hJx).2] at hN
  have no:Q6 x.s D=none→DK l=none:=fun e=>no2 (OV hN e)
  have X:=h.gn
  have had:=X.ad hi2
  have hck:=(X.cell hi2).2
  rw [← hx] at hck
  have hxat:=X.each x (hx ▸ getElem_mem hi2)
  have sv:=X.sl
  have K:=h.m
  refine Bw<|Ao<|An<|Ad<|Aa (Bh AE O O ‹_› _ O (by omega)) O ?_
  refine Aa (Ex.as (Bo (AO _) O s_w hj') (cngA (Value.int .i64) ej)) O<|Ab O<|Be<|Ba underlying27 O (BX _)<|Ba underlying24 O (BU _)<|Aa (Al (CD _) O ‹_› rfl) O ?_
  refine Ac O<|Aa (Cl BE O O sv i' O hi2) O<|Aa (C9 (q:=0) underlying79 O (AT _) O had) O<|Aa (Ea (AN _) O sv hck) O<|Ai O O (Vr x.y x.s w4 hxat.s) ?_
  rintro _ w5 ⟨m,⟨hok,tx,ty,rfl,hm⟩|⟨hno,rfl⟩⟩
  ·have h:=h.bs m
   have d:=d.bs m
   have z5:=m.size
   obtain ⟨N,hNn⟩:∃N,N=(Shapes.size x.s).toNat:=⟨_,rfl⟩
   have sz:=Shapes.size_le x.s
   obtain ⟨zl,hzl⟩:∃z,z=replicate (Shapes.size x.s).toNat 0#32:=⟨_,rfl⟩
   have lz:zl.length=N:=by rw [hzl,length_replicate,hNn]
   rw [← hzl] at hm
   have H:=hm.row
   have ox:=H.lt
   have oy:=AB hm.own
   have Y:=hm.own
   clear m sv hxat X K s_w
   have one2:[tx,ty].all (·.oneCell')=true:=by simp [H.slT.one',(BD Y).one']
   refine Ac O<|Aa (Bt (i:=0) O O) O<|Aa (Bt (i:=1) O O) O<|Cz (cs:=[tx,ty]) EC O O O O (fun _=>rfl) (one2) ?_
   rintro A_t w6 eA_t o m zhn
   have zAt:w.heap.size≤A_t:=by have:=h.chg.size;omega
   have nvt:vn.ownBlock≠some A_t:=fun e=>by have:=(AB h.o _ e).2;omega
   have nwt:vw.ownBlock≠some A_t:=fun e=>by have:=(AB h.u _ e).2;omega
   have zt:=m.size
   have h:=h.bs m
   have d:=d.bs m
   have H:=H.bs m
   replace Y:=AI Y m
   refine Ab O<|Bi<|Ac O<|Aa (Ct O O) O<|Ak<|Bu O false (rfl)<|Bw<|Ao ?_
   obtain ⟨n,hn32⟩:∃n,n=BitVec.ofInt 32 (zl.length:Int):=⟨_,rfl⟩
   have en:n.toNat=N:=by rw [hn32,lz,BitVec.toNat_ofInt];omega
   have sh_y:=(AF Y).shp
   refine Cw.any BB (fun wx U _=> ?_)
   have h:=h.bs U
   have d:=d.bs U
   have H:=H.bs U
   replace Y:=AI Y U
   have o:=o.bs U
   have zx:=U.size
   clear U
   obtain ⟨vr,rr⟩:=h.r
   refine Dg (fun y=>AP y Rc 97 [.pointer (some ⟨A,0,none⟩)]∧AP y A_t 75 [tx,ty]) (fun hC=> ?_) (⟨h.c,o⟩)
   refine Cf (Am (Bf (Am (Am (Bf Ek)))))<|Af 0 O (fun E s=>B8 underlying75 O (CW _)) O<|Af 1 O (fun E s=>Al (DC _) O (by first|exact s.1|exact s.2) O) O<|Af 2 O (fun E s=>Fq BP O sh_y) O<|Af 3 O (fun E s=>Ex.as (E3 Hc Hn O) (cngA u32 hn32.symm)) O<|Af 5 O (fun E s=>Al (Jm _) O (by first|exact s.1|exact s.2) O) O<|Af 6 O (fun E s=>B8 underlying75 O (CW _)) O<|Af 7 O (fun E s=>Al (DC _) O (by first|exact s.1|exact s.2) O) O<|Af 8 O (fun E s=>Fq BP O sh_y) O<|Af 9 O (fun E s=>Ex.as (Dv O O (by omega)) (cngA (Value.int .i64) (show 4*(zl.length:Int)=((4*N:Nat):Int) by omega))) O<|B5<|AR.only (⟨h.c,o⟩) (i:=4) (by kernel_rfl) O<|Ai O O (KV (.slice none 0 0) [] n wx (Ck _ _) (by simp)) ?_
   rintro p1 wy ⟨m,G⟩
   rw [nil_append] at G
   have h:=h.bs m
   have d:=d.bs m
   have H:=H.bs m
   replace Y:=AI Y m
   have o:=o.bs m
   have rr:=rr.bs m
   have s_1:=BD G
   have zy:=m.size
   refine AR.back<|AR.only (⟨h.c,o⟩) (i:=10) (by kernel_rfl) O<|Dw O O (L5 W wy A (4*N) vr D rr) (fun V R=>Cp (Cp (D1 (Cp (Cp (D1 (D9 (⟨no (JB (.inr (by omega))),R.2 ▸ h.k⟩)))))))) ?_
   rintro p2 wz ⟨hle,a,hz,Z,rr2⟩
   have tA:∀b,some A=some b→∃cs,AP wy b 99 cs:=fun b e=>by cases e;exact ⟨_,rr.cell⟩
   have h:=h.rd L a rr2
   replace d:=AH d a tA (by decide)
   replace H:=AH H a tA (by decide)
   replace Y:=CA Y a tA (by decide)
   replace G:=CA G a tA (by decide)
   have o:=o.by a (fun e=>by have:=Option.some.inj e;have:=h.chg.size;omega)
   have Z:=Z.bs (show Below W.heap.size W wz by obtain ⟨q,hq⟩:=rr2;exact hq.bel)
   have s_1:=BD G
   clear rr a tA
   have one3:[p1,p2].all (·.oneCell')=true:=by simp [s_1.one',Z.one']
   refine AR.back<|AR.only (⟨h.c,o⟩) (i:=11) (by kernel_rfl) O<|Bc (Cv (vs:=[p1,p2]) GH RP O O O one3 O) O ?_
   rintro a1 wa ⟨o_a, -,m, -⟩
   have h:=h.bs m
   have d:=d.bs m
   have H:=H.bs m
   replace Y:=AI Y m
   have o:=o.bs m
   have s_1:=s_1.bs m
   have Z:=Z.bs m
   have za:=m.size
   have lc2:(D.take (4*N)).length=4*N:=by rw [length_take];omega
   refine AR.back<|AR.only (⟨h.c,o⟩) (i:=12) (by kernel_rfl) O<|Ai O O (OF a1 [(p1,Crc.four n),(p2,D.take (4*N))] wa (AF o_a) (by intro p hp;simp at hp;rcases hp with rfl|rfl;exact s_1;exact Z) (by simp [Crc.four];omega)) ?_
   rintro q wb ⟨o_q,m⟩
   have eq:(([(p1,Crc.four n),(p2,D.take (4*N))]:List (Value×List (BitVec 8))).map (·.2)).flatten=Crc.four n++D.take (4*N):=by simp
   rw [eq] at o_q
   have s_q:=BD o_q
   have h:=h.bs m
   have d:=d.bs m
   have H:=H.bs m
   replace Y:=AI Y m
   have o:=o.bs m
   have zb:=m.size
   clear m eq
   refine AR.back<|AR.only (⟨h.c,o⟩) (i:=13) (by kernel_rfl) O<|Ai O O (Qs q n (D.take (4*N)) wb s_q (by rw [lc2,en]) (by omega)) ?_
   rintro _ wc ⟨m,y',e',rfl,Q⟩
   have h:=h.bs m
   have d:=d.bs m
   have H:=H.bs m
   have o:=o.bs m
   have zc:=m.size
   have yy:=AB Q
   clear m Y s_q o_q s_1 Z o_a G
   refine AR.back<|Cf (Am (Bf (Am (Am (Bf Ek)))))<|Af 14 O (fun E s=>B4 O) O<|Af 15 O (fun E s=>Bt (i:=0) O O) O<|Af 16 O (fun E s=>Bt (i:=1) O O) O<|Af 17 O (fun E s=>Bt (i:=2) O O) O<|Af 18 O (fun E s=>Ce O) O<|Af 19 O (fun E s=>Ce O) O<|Af 20 O (fun E s=>Ce O) O<|B5<|Cq (⟨h.c,o⟩) (by kernel_rfl)<|Cb<|Ac O<|Ba underlying75 O (CW _)<|Bv (C5 (u:=y') (CW _) O O (BD Q).one' o (show 1<2 by decide)) ?_
   rintro wd ⟨b_t2,a, -⟩
   have tT:∀b,some A_t=some b→∃cs,AP wc b 75 cs:=fun b e=>by cases e;exact ⟨_,o⟩
   have h:=h.ob L a zAt o (by decide) (by decide) nvt nwt
   replace d:=AH d a tT (by decide)
   replace H:=AH H a tT (by decide)
   replace Q:=CA Q a tT (by decide)
   have zd:=a.size
   clear a tT o
   obtain ⟨c,s⟩:∃c:T4,c=⟨tx,y',x.s,nums (D.take (4*N))⟩:=⟨_,rfl⟩
   have F:GK wd w4.heap.size wc.heap.size c:=by
    rw [s]
    exact ⟨H, .inl (BY Q (by omega)),fun b e=>by have:=ox b e;omega,fun b e=>by have:=yy b e;omega,fun b q1 q2=>by have:=yy b q1;have:=ox b q2;omega⟩
   have oc:[c.x,c.y].all (·.oneCell')=true:=by simp [F.at.1.one',F.at.2.one']
   have hw:Q6 x.s D=some (pv c,D.drop (4*N)):=by rw [s,Mm hok (by omega),← hNn];rfl
   replace o:AP wd A_t 75 [c.x,c.y]:=by rw [s];exact b_t2
   clear H Q s b_t2
   have K:=h.m
   refine Ak<|Bn<|Ba underlying27 O (CF _)<|Aa (Al (DD _) O ‹_› rfl) O ?_
   refine Aa (Cx (k:=2) (FZ _) (FX _) O O o) O<|Bc (D8 (cs:=[c.x,c.y]) BK EC O O (by decide) (by decide)) O ?_
   rintro p9 we ⟨G, -,m, -⟩
   have h:=h.bs m
   have F:=F.bs m
   have d:=d.bs m
   have K:=h.m
   have ze:=h.chg.size
   have zn:=m.size
   refine Bc (Cn (base:=w.heap.size) BK EC O (by decide) O O h.u (AF G) oc (by omega) (by omega) ze) O ?_
   rintro yv wf ⟨o_v, -,a, -⟩
   have b_M' :=K.by a (fun e=>by have:=(AB h.u M e.symm).1;omega)
   replace d:=AH d a (fun b e=>AQ.ty (.inl h.u) e) (by decide)
   refine Ba underlying27 O (CF _)<|Bv (C5 (u:=yv) (CF _) O O (AF o_v).one' b_M' (show 1<2 by decide)) ?_
   rintro wg ⟨b_M2,hg2, -⟩
   replace d:=AH d hg2 (fun b e=>by cases e;exact ⟨_,b_M'⟩) (by decide)
   have h:=Gt.tens L h F (AU _) (by omega) (by omega) o_v a hg2 b_M2
   refine Bd<|Bg<|B6<|B1 O (by omega)<|Ac O<|Bd ?_
   exact Ar (Bp ((j+1,D.drop (4*N),ts++[c],yv)) ⟨rfl,rfl,rfl,rfl,rfl,trivial⟩ (⟨by omega,by rw [length_append,hlt];rfl,by rw [KQ hN hw,map_append];rfl,h.up,d⟩) (by simp only;omega))
  have h:=h.bs m
  refine Ac O<|Aa (Bt (i:=0) O O) O<|Aa (Bt (i:=1) O O) O<|Cz (cs:=[.slice none 0 0, .slice none 0 0]) EC O O O O (fun _=>rfl) (rfl) ?_
  rintro A_t w6 eA_t o m zhn
  have h:=h.bs m
  refine Ab O<|Bi<|Ac O<|Aa (Ct O O) O<|Ak<|Bu O true (rfl)<|Bn<|Aa (C1 (vs:=[]) (cs:=[]) O (by kernel_rfl)) O<|Aa (F3 underlying106 O) O ?_
  refine Gd O (Cp (D1 (Cp (Cp (D1 (D9 (⟨no (JB (.inl hno)),h.k⟩)))))))
 intro g
 have hj' :j=J.length:=by have:=AD g;omega
 rw [hj',drop_length] at hN
 refine Bk<|Aj<|Aj<|A0<|Pw.end0q O ?_
 exact ⟨rfl,D,ls,ts,vn,vw,yes2 _ _ (by rw [hN];simp [EV]),h⟩

theorem Mb (u:Value) (n:Nat) (xs:List Value) (w:World) (b:Sl w 5 u n xs):AK prog 58 [u] w (fun r a=>r=clip u∧Below w.heap.size w a):=by
 refine Az (n:=9) func58 O<|Ad<|Ab O<|Be<|Ac O<|Ac O<|Aa (Ap BE O ‹_›) O ?_
 refine Ac O<|Aa (Ap BE O ‹_›) O ?_
 exact Aa (Fl BE rfl rfl rfl b.shp) rfl<|Ab rfl<|Ay<|As rfl rfl<|⟨rfl,Below.refl _ _⟩
theorem Mc (u:Value) (n:Nat) (xs:List Value) (w:World) (b:Sl w 2 u n xs):AK prog 59 [u] w (fun r a=>r=clip u∧Below w.heap.size w a):=by
 refine Az (n:=9) func59 O<|Ad<|Ab O<|Be<|Ac O<|Ac O<|Aa (Ap BK O ‹_›) O ?_
 refine Ac O<|Aa (Ap BK O ‹_›) O ?_
 exact Aa (Fl BK rfl rfl rfl b.shp) rfl<|Ab rfl<|Ay<|As rfl rfl<|⟨rfl,Below.refl _ _⟩
theorem Sz (a:Value) (c:a.cells=[a].toArray):Tryz.prog.built 99 [(0,a)]=some [a].toArray:=by
 have b:Tryz.prog.info? 99=some Tryz.t99:=by kernel_rfl
 have d:Tryz.prog.info? 28=some Tryz.t28:=by kernel_rfl
 simp [Program.built,b,underlying99,d,Instr.fill,c]
 rfl
theorem M4 {l:Bs} {c:List PN} {ws:List PV} {r:Bs} (h:DK l=some (c,ws,r)):∃e,EV (Js c) e=some (ws,r):=by
 unfold DK at h
 cases h1:ES l with
 |none=>rw [h1] at h;cases h
 |some q=>
  obtain ⟨b,d⟩:=q
  rw [h1] at h
  simp only at h
  cases h2:CJ b.toNat d with
  |none=>rw [h2] at h;cases h
  |some q2=>
   obtain ⟨a,l2⟩:=q2
   rw [h2] at h
   simp only at h
   cases h3:EV (Js a) l2 with
   |none=>rw [h3] at h;cases h
   |some q3=>
    obtain ⟨f,g⟩:=q3
    rw [h3] at h
    cases h
    exact ⟨l2,h3⟩
def V8 (W w:World) (r:Value) (l:Bs):Prop:=∃vn vw ls ts,r= .tuple #[.agg [vn,vw].toArray, .int .i64 (IP l)]∧(ls.map pn,ts.map pv)=(HY l).getD ([],[])∧Ny w W.heap.size w.heap.size vn vw ls ts
theorem RB (w:World) {b a:Nat} (h:b≤a):Ny w b a (.slice none 0 0) (.slice none 0 0) [] []:=⟨⟨a,h,AU _⟩, .inl ⟨rfl, .inl ⟨rfl,rfl⟩⟩, .inl ⟨rfl, .inl ⟨rfl,rfl⟩⟩⟩
theorem I7 {W w:World} {l:Bs} {e:Int} (c:W.heap.size≤w.heap.size) (a:IP l=e) (b:HY l=none):V8 W w (.tuple #[.agg [.slice none 0 0, .slice none 0 0].toArray, .int .i64 e]) l:=
 ⟨_,_,[],[],by rw [a],by rw [b];rfl,RB w c⟩
set_option maxHeartbeats 1000000 in
theorem U4 (v:Value) (l:Bs) (W:World) (hv:BO b8 W v l):AK prog 14 [v] W (fun r N=>Below W.heap.size W N∧V8 W N r l):=by
 have hle:=hv.le
 refine Az (n:=63) func14 O<|Ad<|Du Jh O ?_
 rintro o w eA_m B I zhB
 have zm:=I.size
 have ym:=BA B
 have K:=hv.bs I
 refine Ab O<|Be<|Ac O<|Aa (Ap AL O ‹_›) O ?_
 refine Aa (D2 O O (by omega)) O<|Ab O<|Bi<|Ac O<|Bz O<|Ak<|Aq O ?_ ?_
 ·intro g
  have g:l.length<4:=by have:=AC g;omega
  refine Ad<|Aa (Cx (DX _) (DW _) O O ‹_›) O ?_
  refine Bv (C7 (cs:=[.slice none 0 0, .slice none 0 0]) O O O O O B O) ?_
  rintro w2 ⟨B,X,hz⟩
  have I:=I.grown X zm (by rintro _ ⟨⟩;omega)
  refine Ab O<|B2<|Di O O O ‹_› underlying27 O O O ?_
  exact ⟨I,I7 (AA I) (by simp [IP,g]) (by simp [HY,g])⟩
 intro g
 have g:4≤l.length:=by have:=AD g;omega
 obtain ⟨n,s⟩:∃n,n=l.length - 4:=⟨_,rfl⟩
 have nE:IP l=if gf (l.drop n)≠Crc.of (l.take n) then 11 else if (DS (l.take n)).isSome then 0 else 4:=by rw [IP,if_neg (by omega),← s]
 have nR:HY l=if gf (l.drop n)≠Crc.of (l.take n) then none else DS (l.take n):=by rw [HY,if_neg (by omega),← s]
 have Y:n≤l.length:=by omega
 refine Em 4 (v' := .int .i64 (n:Int)) O (cngA (Value.int .i64) (by omega))<|Bw<|Ao<|Ad<|Ac O<|Ac O<|Aa (Ey (i:=n) AL O O K Y) O ?_
 have l4:¬(l.drop n).length<4:=by rw [length_drop];omega
 refine Ai O O (Lo (cut v 1 n l.length) (l.drop n) w (BO.drop K Y)) ?_
 rintro _ w2 ⟨rfl,hn2⟩
 rw [if_neg l4,if_neg l4]
 replace I:=bt I hn2
 have B:=B.bs hn2
 have K:=K.bs hn2
 refine Ac O<|Aa (Bt (i:=0) O O) O<|Aa (Bt (i:=1) O O) O<|Ab O<|Ab O<|Be<|Ac O<|Ac O<|Ac O<|Aa (El (j:=n) AL O O K Y) O<|Ai O O (Vn (cut v 1 0 n) (l.take n) w2 (BO.take K Y)) ?_
 rintro _ w3 ⟨rfl,hn3⟩
 replace I:=bt I hn3
 have B:=B.bs hn3
 have K:=K.bs hn3
 have z3:=AA I
 have y3:o<w3.heap.size:=BA B
 clear hn2 hn3 l4
 refine Aa (Ge O O) O<|Ak<|Aq O ?_ ?_
 ·intro g2
  have g2:gf (l.drop n)≠Crc.of (l.take n):=by simpa using g2
  rw [if_pos g2] at nE nR
  refine Ad<|Aa (Cx (DX _) (DW _) O O ‹_›) O ?_
  refine Bv (C7 (cs:=[.slice none 0 0, .slice none 0 0]) O O O O O B O) ?_
  rintro w4 ⟨B,X,hz⟩
  have I:=I.grown X z3 (by rintro _ ⟨⟩;omega)
  refine Ab O<|B2<|Di O O O ‹_› underlying27 O O O ?_
  exact ⟨I,I7 (AA I) nE nR⟩
 intro g2
 have g2:¬gf (l.drop n)≠Crc.of (l.take n):=by simpa using g2
 rw [if_neg g2] at nE nR
 have s_t:=BO.take K Y
 refine Cs<|Ac O<|Ac O<|Aa (El (j:=n) AL O O K Y) O<|Aa (C1 (vs:=[(0,cut v 1 0 n)]) (cs:=[cut v 1 0 n]) O (Sz _ s_t.one)) O<|Bc (Xw.box (cs:=[cut v 1 0 n]) O O) O ?_
 rintro _ w4 ⟨rfl,b_A,hn4,hz4⟩
 replace I:=bt I hn4
 have B:=B.bs hn4
 refine Lw.boxed1 (u:= .pointer (some ⟨w3.heap.size,0,none⟩)) Vx Ve O (fun _=>rfl) (rfl) ?_
 rintro M w5 eA_c b_c hn5 zhn5
 replace I:=bt I hn5
 have B:=B.bs hn5
 have b_A:=b_A.bs hn5
 have y5:=BA b_c
 have z5:=hn5.size
 obtain ⟨lt,hlt⟩:∃t,t=l.take n:=⟨_,rfl⟩
 have s_t0:BO b8 W (cut v 1 0 n) lt:=by rw [hlt];exact BO.take hv Y
 rw [← hlt] at nE nR
 have hp:∀Q A,Q=w5.heap.size→Below w5.heap.size w5 A→AP A Q 4 [.bool false]→
   Ls prog 51 [.pointer (some ⟨M,0,none⟩), .pointer (some ⟨o,0,none⟩)] A SM
    (fun r N=>r= .tuple #[]∧AP N Q 4 [.bool false]∧∃A z ls ts D E,Below w5.heap.size w5 A∧Q<A.heap.size∧AP N Q 4 [.bool false]∧DK lt=some (ls.map pn,ts.map pv,z)∧Gt W A N M w3.heap.size o N.heap.size z ls D ts E)
    (fun N=>AP N Q 4 [.bool false]∧DK lt=none∧∃A,Below w5.heap.size w5 A∧Q<A.heap.size∧Kt A N w3.heap.size o):=fun Q A eA' hk b_k=>by
  have zk:=hk.size
  have L:Ug W A M w3.heap.size o:=⟨by omega,by omega,by omega,by omega,by omega,by omega⟩
  have hG:Gt W A A M w3.heap.size o A.heap.size lt [] (.slice none 0 0) [] (.slice none 0 0):=
   ⟨BR.refl _ _,b_c.bs hk,B.bs hk,⟨_,s_t0,bt I hk,z3,b_A.bs hk⟩,⟨rfl, .inl ⟨rfl,rfl⟩⟩,⟨rfl, .inl ⟨rfl,rfl⟩⟩,⟨A.heap.size,AU _,AU _⟩,AU _⟩
  have nS:¬(Q=w3.heap.size∨Q=o):=by omega
  exact (UG W A M w3.heap.size o lt L hG).mono (fun r N ⟨h1,z,ls,ts,D,E,h2,h3⟩=>⟨h1,b_k.chg h3.chg nS,A,z,ls,ts,D,E,hk,BA b_k,b_k.chg h3.chg nS,h2,h3⟩) fun N ⟨h1,h2⟩=>⟨b_k.chg h2.1 nS,h1,A,hk,BA b_k,h2⟩
 refine Be<|Aa (E2 (vs:=[]) (us:=[.pointer (some ⟨M,0,none⟩), .pointer (some ⟨o,0,none⟩)]) O O) O<|Ai O O (PI 51 [.pointer (some ⟨M,0,none⟩), .pointer (some ⟨o,0,none⟩)] w5 (fun Q N=>∃A z ls ts D E,Below w5.heap.size w5 A∧Q<A.heap.size∧AP N Q 4 [.bool false]∧DK lt=some (ls.map pn,ts.map pv,z)∧Gt W A N M w3.heap.size o N.heap.size z ls D ts E) (fun Q N=>DK lt=none∧∃A,Below w5.heap.size w5 A∧Q<A.heap.size∧Kt A N w3.heap.size o) hp) ?_
 rintro _ w6 ⟨Q,w0,eA',X,⟨rfl,A,z,ls,ts,D,E,hk,hAk,b_k0,hrd,h⟩|⟨rfl,hrd,A,hk,hAk,hK⟩⟩
 ·have zk:=hk.size
  have L:Ug W A M w3.heap.size o:=⟨by omega,by omega,by omega,by omega,by omega,by omega⟩
  obtain ⟨vr,hr⟩:=h.r
  obtain ⟨mid,J,l2⟩:=h.lay
  have ltA:Q<w0.heap.size:=by have:=h.chg.size;omega
  have hB0:Below W.heap.size W w0:=(bt I hk).trans (h.chg.to_below (by rintro k (rfl|rfl)<;>omega) (by omega))
  have d:=hB0.grown X (AA hB0) (by rintro _ ⟨⟩;omega)
  have c6:=h.c.by X (fun e=>by have:=Option.some.inj e;omega)
  have c:=h.m.by X (fun e=>by have:=Option.some.inj e;omega)
  have r6:=hr.grow X (fun b e=>by cases e;omega)
  have H:=AV h.o fun b e=>X.block b (AB h.o b e).2 fun e2=>by have:=Option.some.inj e2;have:=(AB h.o b e).1;omega
  have G:=AV h.u fun b e=>X.block b (AB h.u b e).2 fun e2=>by have:=Option.some.inj e2;have:=(AB h.u b e).1;omega
  have tk:∀b,some Q=some b→∃cs,AP w0 b 4 cs:=fun b e=>by cases e;exact ⟨_,b_k0⟩
  have J:=J.other X tk (by decide)
  have l2:=l2.other X tk (by decide) (by decide)
  have s_r:=r6.sl.bs d
  have b_A6:=r6.cell
  have h_g:GN w6 D ls:=⟨AF H,fun a ha=>(J.each a ha).at⟩
  have h_w:EM w6 E ts:=⟨AF G,fun a ha=>(l2.each a ha).at⟩
  have eB:DS lt=if z=[]∧(GL ls).isSome=true then some (ls.map pn,ts.map pv) else none:=by rw [DS,hrd];simp only [HB]
  have z6:=X.size
  have z60:=AA d
  clear h hr b_k0 tk
  refine Ab O<|Bi<|Ac O<|Aa (Co O) O<|Ac O<|Cm 38 (v' := .bool false) O (cngA Value.bool (rfl))<|Ag (dj:=38) O O<|Aa (Al (Jm _) O ‹_› rfl) O ?_
  refine Ag (dj:=38) O O<|Aa (Ax O) O<|Ag (dj:=38) O O<|Ba underlying99 O (DG _)<|Ag (dj:=38) O O<|Aa (Al (DM _) O ‹_› rfl) O ?_
  refine Ag (dj:=38) O O<|Aa (Ap AL O ‹_›) O ?_
  refine Ag (dj:=38) O O<|Aa (Dh O O) O<|Ci O<|Ac O ?_
  refine Cc 46 O ?_ ?_
  ·intro g3
   have g3:0<z.length:=by simpa using g3
   have eN:DS lt=none:=by rw [eB];exact if_neg fun ⟨q,_⟩=>by rw [q] at g3;exact absurd g3 (by decide)
   refine Ae (dj:=46) O O O O<|Ae (dj:=46) O O O O<|Ae (dj:=46) O O O O<|B7 O<|Ak<|Ca O<|Ad<|Ez O<|Bv (C7 (cs:=[.slice none 0 0, .slice none 0 0]) (k:=2) (by kernel_rfl) O O O O c O) ?_
   rintro w9 ⟨T,m, -⟩
   have C:=d.grown m (AA d) (by rintro _ ⟨⟩;omega)
   refine Ab O<|B2<|Di O O O ‹_› underlying27 O O O ?_
   exact ⟨C,I7 (AA C) (by rw [nE,eN];rfl) (by rw [nR,eN])⟩
  intro g3
  have g3:z=[]:=eq_nil_of_length_eq_zero (by have:¬0<z.length:=(by simpa using g3);omega)
  rw [g3] at eB
  refine Ag (dj:=46) O O<|Aa (Cx (k:=2) (DX _) (DW _) O O c) O<|Ag (dj:=46) O O<|Ai O O (TY D E ls ts w6 h_g h_w) ?_
  rintro _ w7 ⟨rfl,V⟩
  obtain ⟨l',hw'⟩:=M4 hrd
  have hmay:=MK hw'
  rw [hmay]
  replace d:=bt d V
  have c:=c.bs V
  replace H:=AI H V
  replace G:=AI G V
  have J:=J.bs V
  have l2:=l2.bs V
  have z7:=V.size
  clear V h_g h_w s_r b_A6 r6 c6
  refine Ag (dj:=46) O O<|Aa (Co O) O<|Ci O<|Ak<|Aq O ?_ ?_
  ·intro g4
   have g4:(GL ls).isSome=false:=by simpa using g4
   have eN:DS lt=none:=by rw [eB];exact if_neg fun ⟨_,q⟩=>by rw [g4] at q;cases q
   refine Ad<|Ez O<|Bv (C7 (cs:=[.slice none 0 0, .slice none 0 0]) (k:=2) (by kernel_rfl) O O O O c O) ?_
   rintro w9 ⟨T,m, -⟩
   have C:=d.grown m (AA d) (by rintro _ ⟨⟩;omega)
   refine Ab O<|B2<|Di O O O ‹_› underlying27 O O O ?_
   exact ⟨C,I7 (AA C) (by rw [nE,eN];rfl) (by rw [nR,eN])⟩
  intro g4
  have g4:(GL ls).isSome=true:=by simpa using g4
  rw [if_pos ⟨rfl,g4⟩] at eB
  refine Bw<|Ao ?_
  refine Cw.any BB (fun w8 hd _=> ?_)
  replace d:=bt d hd
  have c:=c.bs hd
  replace H:=AI H hd
  replace G:=AI G hd
  have J:=J.bs hd
  have l2:=l2.bs hd
  have z8:=hd.size
  clear hd
  refine Aw.take (i:=0) (Am Br) O (by kernel_rfl) (by kernel_rfl) (by kernel_rfl) (fun _=>B8 underlying27 O (BX _)) O<|Aw.take (i:=1) (Am Br) O (by kernel_rfl) (by kernel_rfl) (by kernel_rfl) (fun _=>B8 underlying24 O (BU _)) O<|Aw.take (i:=4) (Am Br) O (by kernel_rfl) (by kernel_rfl) (by kernel_rfl) (fun _=>B8 underlying27 O (CF _)) O ?_
  refine F9 (i:=2) (j:=5) (by kernel_rfl) O O ?_ ?_
  refine Aa (Al (CD _) O ‹_› rfl) O ?_
  refine Aw.back ?_
  refine F9 (i:=3) (j:=5) (by kernel_rfl) O O ?_ ?_
  refine Ai O O (Mb D _ _ _ (AF H)) ?_
  rintro _ w ⟨rfl,s⟩
  have zn:=s.size
  replace d:=bt d s
  have c:=c.bs s
  replace H:=AI H s
  replace G:=AI G s
  have J:=J.bs s
  have l2:=l2.bs s
  refine Aw.back<|Aw.only (i:=5) (by kernel_rfl) O<|Aa (Al (DD _) O ‹_› rfl) O ?_
  refine Aw.back<|Aw.take (i:=7) (Am Br) O (by kernel_rfl) (by kernel_rfl) (by kernel_rfl) (fun _=>B8 underlying27 O (BX _)) O<|Aw.take (i:=8) (Am Br) O (by kernel_rfl) (by kernel_rfl) (by kernel_rfl) (fun _=>B8 underlying24 O (BU _)) O<|Aw.only (i:=6) (by kernel_rfl) O<|Ai O O (Mc E _ _ _ (AF G)) ?_
  rintro _ w ⟨rfl,s⟩
  have zn2:=s.size
  replace d:=bt d s
  have c:=c.bs s
  replace H:=AI H s
  replace G:=AI G s
  have J:=J.bs s
  have l2:=l2.bs s
  refine Aw.back<|Aw.only (i:=9) (by kernel_rfl) O ?_
  have k6:=AQ.clip H
  have j6:=AQ.clip G
  refine Bv (C5 (u:=clip D) (BU _) O O k6.sl.one' c (show 0<2 by decide)) ?_
  rintro w9 ⟨F,x, -⟩
  have Z:∀b,some o=some b→∃cs,AP _ b 27 cs:=fun b e=>by cases e;exact ⟨_,c⟩
  have k7:=AH k6 x Z (by decide)
  have j7:=AH j6 x Z (by decide)
  have l17:=J.other x Z (by decide)
  have l27:=l2.other x Z (by decide) (by decide)
  have zg7:=x.size
  have U:=d.grown x (AA d) (by rintro _ ⟨⟩;omega)
  refine Aw.back<|Aw.take (i:=10) (Am Br) O (by kernel_rfl) (by kernel_rfl) (by kernel_rfl) (fun _=>B8 underlying27 O (CF _)) O<|Aw.only (i:=11) (by kernel_rfl) O<|Bv (C5 (u:=clip E) (CF _) O O j7.sl.one' F (show 1<2 by decide)) ?_
  rintro wA ⟨f,y, -⟩
  have t8:∀b,some o=some b→∃cs,AP w9 b 27 cs:=fun b e=>by cases e;exact ⟨_,F⟩
  have k8:=AH k7 y t8 (by decide)
  have j8:=AH j7 y t8 (by decide)
  have l18:=l17.other y t8 (by decide)
  have l28:=l27.other y t8 (by decide) (by decide)
  have zg8:=y.size
  have S:=U.grown y (AA U) (by rintro _ ⟨⟩;omega)
  have R:[clip D,clip E].all (·.oneCell')=true:=by simp [k8.sl.one',j8.sl.one']
  replace f:AP wA o 27 [clip D,clip E]:=f
  refine Aw.back<|D7 (by kernel_rfl)<|Cb<|Aa (Cx (k:=2) (DX _) (DW _) O O f) O<|Bv (C7 (cs:=[clip D,clip E]) (k:=2) (by kernel_rfl) O O O R f O) ?_
  rintro wB ⟨T,m, -⟩
  have t9:∀b,some o=some b→∃cs,AP wA b 27 cs:=fun b e=>by cases e;exact ⟨_,f⟩
  have k9:=AH k8 m t9 (by decide)
  have j9:=AH j8 m t9 (by decide)
  have l19:=l18.other m t9 (by decide)
  have l29:=l28.other m t9 (by decide) (by decide)
  have zg9:=m.size
  have C:=S.grown m (AA S) (by rintro _ ⟨⟩;omega)
  refine Ab O<|Ay<|Di O O O ‹_› underlying27 O O O ?_
  exact ⟨C,clip D,clip E,ls,ts,by rw [nE,eB];rfl,by rw [nR,eB];rfl,⟨mid,IV.low l19 (by omega),l29.topM (by omega)⟩,k9.mono (by omega),j9.mono (by omega)⟩
  refine Aa (Al (DD _) O ‹_› rfl) O ?_
  refine Aw.back<|Aw.only (i:=3) (by kernel_rfl) O<|Ai O O (Mb D _ _ _ (AF H)) ?_
  rintro _ w ⟨rfl,s⟩
  have zn:=s.size
  replace d:=bt d s
  have c:=c.bs s
  replace H:=AI H s
  replace G:=AI G s
  have J:=J.bs s
  have l2:=l2.bs s
  refine Aw.back<|Aw.take (i:=7) (Am Br) O (by kernel_rfl) (by kernel_rfl) (by kernel_rfl) (fun _=>B8 underlying27 O (BX _)) O<|Aw.take (i:=8) (Am Br) O (by kernel_rfl) (by kernel_rfl) (by kernel_rfl) (fun _=>B8 underlying24 O (BU _)) O<|Aw.only (i:=6) (by kernel_rfl) O<|Ai O O (Mc E _ _ _ (AF G)) ?_
  rintro _ w ⟨rfl,s⟩
  have zn2:=s.size
  replace d:=bt d s
  have c:=c.bs s
  replace H:=AI H s
  replace G:=AI G s
  have J:=J.bs s
  have l2:=l2.bs s
  refine Aw.back<|Aw.only (i:=9) (by kernel_rfl) O ?_
  have k6:=AQ.clip H
  have j6:=AQ.clip G
  refine Bv (C5 (u:=clip D) (BU _) O O k6.sl.one' c (show 0<2 by decide)) ?_
  rintro w9 ⟨F,x, -⟩
  have Z:∀b,some o=some b→∃cs,AP _ b 27 cs:=fun b e=>by cases e;exact ⟨_,c⟩
  have k7:=AH k6 x Z (by decide)
  have j7:=AH j6 x Z (by decide)
  have l17:=J.other x Z (by decide)
  have l27:=l2.other x Z (by decide) (by decide)
  have zg7:=x.size
  have U:=d.grown x (AA d) (by rintro _ ⟨⟩;omega)
  refine Aw.back<|Aw.take (i:=10) (Am Br) O (by kernel_rfl) (by kernel_rfl) (by kernel_rfl) (fun _=>B8 underlying27 O (CF _)) O<|Aw.only (i:=11) (by kernel_rfl) O<|Bv (C5 (u:=clip E) (CF _) O O j7.sl.one' F (show 1<2 by decide)) ?_
  rintro wA ⟨f,y, -⟩
  have t8:∀b,some o=some b→∃cs,AP w9 b 27 cs:=fun b e=>by cases e;exact ⟨_,F⟩
  have k8:=AH k7 y t8 (by decide)
  have j8:=AH j7 y t8 (by decide)
  have l18:=l17.other y t8 (by decide)
  have l28:=l27.other y t8 (by decide) (by decide)
  have zg8:=y.size
  have S:=U.grown y (AA U) (by rintro _ ⟨⟩;omega)
  have R:[clip D,clip E].all (·.oneCell')=true:=by simp [k8.sl.one',j8.sl.one']
  replace f:AP wA o 27 [clip D,clip E]:=f
  refine Aw.back<|D7 (by kernel_rfl)<|Cb<|Aa (Cx (k:=2) (DX _) (DW _) O O f) O<|Bv (C7 (cs:=[clip D,clip E]) (k:=2) (by kernel_rfl) O O O R f O) ?_
  rintro wB ⟨T,m, -⟩
  have t9:∀b,some o=some b→∃cs,AP wA b 27 cs:=fun b e=>by cases e;exact ⟨_,f⟩
  have k9:=AH k8 m t9 (by decide)
  have j9:=AH j8 m t9 (by decide)
  have l19:=l18.other m t9 (by decide)
  have l29:=l28.other m t9 (by decide) (by decide)
  have zg9:=m.size
  have C:=S.grown m (AA S) (by rintro _ ⟨⟩;omega)
  refine Ab O<|Ay<|Di O O O ‹_› underlying27 O O O ?_
  exact ⟨C,clip D,clip E,ls,ts,by rw [nE,eB];rfl,by rw [nR,eB];rfl,⟨mid,IV.low l19 (by omega),l29.topM (by omega)⟩,k9.mono (by omega),j9.mono (by omega)⟩
  refine Aa (Al (DD _) O ‹_› rfl) O ?_
  refine Aw.back<|Aw.only (i:=2) (by kernel_rfl) O<|Aa (Al (CD _) O ‹_› rfl) O ?_
  refine Aw.back<|Aw.only (i:=3) (by kernel_rfl) O<|Ai O O (Mb D _ _ _ (AF H)) ?_
  rintro _ w ⟨rfl,s⟩
  have zn:=s.size
  replace d:=bt d s
  have c:=c.bs s
  replace H:=AI H s
  replace G:=AI G s
  have J:=J.bs s
  have l2:=l2.bs s
  refine Aw.back<|Aw.take (i:=7) (Am Br) O (by kernel_rfl) (by kernel_rfl) (by kernel_rfl) (fun _=>B8 underlying27 O (BX _)) O<|Aw.take (i:=8) (Am Br) O (by kernel_rfl) (by kernel_rfl) (by kernel_rfl) (fun _=>B8 underlying24 O (BU _)) O<|Aw.only (i:=6) (by kernel_rfl) O<|Ai O O (Mc E _ _ _ (AF G)) ?_
  rintro _ w ⟨rfl,s⟩
  have zn2:=s.size
  replace d:=bt d s
  have c:=c.bs s
  replace H:=AI H s
  replace G:=AI G s
  have J:=J.bs s
  have l2:=l2.bs s
  refine Aw.back<|Aw.only (i:=9) (by kernel_rfl) O ?_
  have k6:=AQ.clip H
  have j6:=AQ.clip G
  refine Bv (C5 (u:=clip D) (BU _) O O k6.sl.one' c (show 0<2 by decide)) ?_
  rintro w9 ⟨F,x, -⟩
  have Z:∀b,some o=some b→∃cs,AP _ b 27 cs:=fun b e=>by cases e;exact ⟨_,c⟩
  have k7:=AH k6 x Z (by decide)
  have j7:=AH j6 x Z (by decide)
  have l17:=J.other x Z (by decide)
  have l27:=l2.other x Z (by decide) (by decide)
  have zg7:=x.size
  have U:=d.grown x (AA d) (by rintro _ ⟨⟩;omega)
  refine Aw.back<|Aw.take (i:=10) (Am Br) O (by kernel_rfl) (by kernel_rfl) (by kernel_rfl) (fun _=>B8 underlying27 O (CF _)) O<|Aw.only (i:=11) (by kernel_rfl) O<|Bv (C5 (u:=clip E) (CF _) O O j7.sl.one' F (show 1<2 by decide)) ?_
  rintro wA ⟨f,y, -⟩
  have t8:∀b,some o=some b→∃cs,AP w9 b 27 cs:=fun b e=>by cases e;exact ⟨_,F⟩
  have k8:=AH k7 y t8 (by decide)
  have j8:=AH j7 y t8 (by decide)
  have l18:=l17.other y t8 (by decide)
  have l28:=l27.other y t8 (by decide) (by decide)
  have zg8:=y.size
  have S:=U.grown y (AA U) (by rintro _ ⟨⟩;omega)
  have R:[clip D,clip E].all (·.oneCell')=true:=by simp [k8.sl.one',j8.sl.one']
  replace f:AP wA o 27 [clip D,clip E]:=f
  refine Aw.back<|D7 (by kernel_rfl)<|Cb<|Aa (Cx (k:=2) (DX _) (DW _) O O f) O<|Bv (C7 (cs:=[clip D,clip E]) (k:=2) (by kernel_rfl) O O O R f O) ?_
  rintro wB ⟨T,m, -⟩
  have t9:∀b,some o=some b→∃cs,AP wA b 27 cs:=fun b e=>by cases e;exact ⟨_,f⟩
  have k9:=AH k8 m t9 (by decide)
  have j9:=AH j8 m t9 (by decide)
  have l19:=l18.other m t9 (by decide)
  have l29:=l28.other m t9 (by decide) (by decide)
  have zg9:=m.size
  have C:=S.grown m (AA S) (by rintro _ ⟨⟩;omega)
  refine Ab O<|Ay<|Di O O O ‹_› underlying27 O O O ?_
  exact ⟨C,clip D,clip E,ls,ts,by rw [nE,eB];rfl,by rw [nR,eB];rfl,⟨mid,IV.low l19 (by omega),l29.topM (by omega)⟩,k9.mono (by omega),j9.mono (by omega)⟩
 have zk:=hk.size
 obtain ⟨hC,p,q,b_m0⟩:=hK
 have hB0:Below W.heap.size W w0:=(bt I hk).trans (hC.to_below (by rintro k (rfl|rfl)<;>omega) (by omega))
 have d:=hB0.grown X (AA hB0) (by rintro _ ⟨⟩;omega)
 have c:=b_m0.by X (fun e=>by have:=Option.some.inj e;omega)
 have eN:DS lt=none:=by rw [DS,hrd]
 refine Ab O<|Bi<|Ac O<|Aa (Co O) O<|Ac O<|Cm 38 (v' := .bool true) O (cngA Value.bool (rfl))<|Ae (dj:=38) O O O O<|Ae (dj:=38) O O O O<|Ae (dj:=38) O O O O<|Ae (dj:=38) O O O O<|Ae (dj:=38) O O O O<|Ae (dj:=38) O O O O<|B7 O<|Ac O<|Ae (dj:=46) O O O O<|Ae (dj:=46) O O O O<|Ae (dj:=46) O O O O<|B7 O<|Ak<|Ca O<|Ad<|Ez O<|Bv (C7 (cs:=[.slice none 0 0, .slice none 0 0]) (k:=2) (by kernel_rfl) O O O O c O) ?_
 rintro w9 ⟨T,m, -⟩
 have C:=d.grown m (AA d) (by rintro _ ⟨⟩;omega)
 refine Ab O<|B2<|Di O O O ‹_› underlying27 O O O ?_
 exact ⟨C,I7 (AA C) (by rw [nE,eN];rfl) (by rw [nR,eN])⟩
end Go.Proofs.YtblbopcaflaldaaGreatDoor

namespace Go.Proofs.YtblbopcaflaldaaGreatDoor
open Go Go.Dd Go.RowKit Go.ChangeShapes Go.WideShapes List Go.Proofs.Tryz
set_option maxRecDepth 100000
theorem UK {w:World} {A:Nat} {T:TypeId} {cs:List Value} {a:Addr} {u:Value} (k:AP w A T cs) (h:w.cell? a=some u) (e:a.block=A):u ∈ cs:=by
 unfold World.cell? at h
 rw [e,k] at h
 simp only at h
 split at h
 ·cases h
 ·rw [getElem?_toArray] at h
  exact mem_of_getElem? h
theorem DQ.by {w i:World} {t x A:Nat} {r:Value} {us:List T4} {T:TypeId} {cs:List Value} (h:DQ w t x r us) (g:w.grownBy i (some A)) (b:AP w A T cs) (o:3≠T) (j:21≠T) (L:75≠T) (E:Value.int .i64 77 ∉ cs):DQ i t x r us:=by
 have l:∀{e:TypeId} {sz n:Nat} {v:Value} {xs:List Value} {B:Nat},e≠T→w.ownsRow B e sz v n xs→i.ownsRow B e sz v n xs:=fun f q=>MA q b f g
 have u:∀d,(some A:Option Nat)=some d→∃cs,AP w d T cs:=fun d e=>by cases e;exact ⟨cs,b⟩
 obtain ⟨m,⟨d,cap,e,q⟩,y⟩:=h.m
 refine ⟨h.all.other g u o j,fun c s=> ?_,⟨m,⟨d,cap,e,l L q⟩, ?_⟩,h.rb⟩
 ·obtain ⟨F,⟨z,H,M,I⟩,⟨K,J,p,G⟩⟩:=h.tw c s
  exact ⟨F.other g u o j,⟨z,H,M,l o I⟩,⟨K,J,p,l j G⟩⟩
 ·refine y.keep fun k C e=>g.block k C fun p=>E ?_
  cases p
  obtain ⟨_,D,cap,rfl,_,_,_,s⟩:=y
  cases D with
  |none=>cases e
  |some a=>exact UK b (s a rfl 0 _ rfl) (by rw [IU];exact Option.some.inj e)
theorem DQ.wide {w:World} {i j a d:Nat} {r:Value} {us:List T4} (h:DQ w i j r us) (f:a≤i) (g:j≤d):DQ w a d r us:=by
 obtain ⟨m,⟨b,cap,e,o⟩,n⟩:=h.m
 have u:AZ w a d us:=by
  cases hu:us with
  |nil=>have:=h.all;rw [hu] at this;exact Nat.le_trans f (Nat.le_trans this g)
  |cons c cs=>
   have:=h.all
   rw [hu] at this
   obtain ⟨l,k,q,v,s,p⟩:=this
   exact ⟨l,k,Nat.le_trans f q,v,s,AZ.topM p g⟩
 exact ⟨u,fun c t=>(h.tw c t).wide f g,⟨m,⟨b,cap,e,BY o f⟩,n⟩,fun b e=>by have:=h.rb b e;omega⟩
theorem Sx (x y:Value) (f:x.cells=[x].toArray) (c:y.cells=[y].toArray):Tryz.prog.built 27 [(0, .agg [x].toArray),(1,y)]=some [x,y].toArray:=by
 have d:Tryz.prog.info? 27=some Tryz.t27:=by kernel_rfl
 have a:Tryz.prog.info? 24=some Tryz.t24:=by kernel_rfl
 have e:Tryz.prog.info? 22=some Tryz.t22:=by kernel_rfl
 have b:Tryz.prog.info? 25=some Tryz.t25:=by kernel_rfl
 simp [Program.built,d,underlying27,underlying24,a,e,b,Instr.fill,f,c]
 rfl
theorem Mr (v u:Value) (ls:List N5) (ws:List T4) (W:World) (h:GN W v ls) (Y:∀t ∈ ls,t.i.length≤4194304∧t.s.length≤4194304) (hl:ls.length≤2097152) (z:EM W u ws) (Z:∀t ∈ ws,t.s.length≤4194304∧t.l.length≤4194304) (wl:ws.length≤2097152):
  AK prog 10 [.agg [v,u].toArray] W (fun r l=>Below W.heap.size W l∧∃a b E us A,r= .agg [a,b].toArray∧DF l W.heap.size A a E∧DQ l A l.heap.size b us∧E.map nl=ls.map nl∧us.map vl=ws.map vl):=by
 have o:=Below.refl W.heap.size W
 refine Az (n:=10) func10 O<|Ad<|Cr (cs:=[v,u]) O O O ?_
 rintro H w T d c -
 have o:=o.bs c
 have h:=h.bs c
 have z:=z.bs c
 have yx:=BA d
 refine Du Jh O ?_
 rintro U w S x c -
 have o:=o.bs c
 have h:=h.bs c
 have z:=z.bs c
 have d:=d.bs c
 refine Ak<|Ao ?_
 have z0:=AA o
 have yr:=BA x
 rename World=>q
 refine Cw.any BB (fun w2 D _=> ?_)
 have B:=d.bs D
 refine Dg (fun l=>AP l H 27 [v,u]) (fun hC=> ?_) (B)
 refine Cf (Am Br)<|Af 0 O (fun q p=>B8 underlying27 O (BX _)) O<|Af 1 O (fun q p=>D3 (ds:=[v]) (Gx _) (BX _) O O p O) O<|Af 3 O (fun q p=>B8 underlying27 O (CF _)) O<|Af 4 O (fun q p=>Al (DD _) O p O) O<|B5<|AR.only ‹_› (i:=2) (by kernel_rfl) O ?_
 refine Ai O O (Ms v ls w2 (h.bs D) Y hl) ?_
 rintro _ X ⟨c,C,E,rfl,hG,eG⟩
 have zD:=D.size
 have z3:=c.size
 have g:=bt D c
 have Q:=d.bs g
 refine AR.back<|AR.only ‹_› (i:=5) (by kernel_rfl) O ?_
 refine Ai O O (P4 u ws X (z.bs g) Z wl) ?_
 rintro F V ⟨c,us,M,eU⟩
 have z4:=c.size
 have s:=hG.bs c
 have j:=bt g c
 have f:=x.bs j
 have y:=d.bs j
 have N:=AF s.own
 have R:=AF M.own
 refine AR.back<|Cf (Am Br)<|Af 6 O (fun q p=>C1 (cs:=[C,F]) O (Sx C F N.one R.one)) O<|B5<|AR.only ‹_› (i:=7) (by kernel_rfl) O ?_
 refine Bv (C7 (cs:=[C,F]) (k:=2) (by kernel_rfl) O O O (by rw [all_cons,all_cons,N.one',R.one'];rfl) f O) ?_
 rintro w5 ⟨K,m,hz⟩
 have z5:=m.size
 have L:=y.by m (by intro e;have:=Option.some.inj e;omega)
 have J:=(bt o j).grown m (by omega) (by rintro _ e;have:=Option.some.inj e;omega)
 have G:=(s.by m f (by decide) (by decide)).wide (show W.heap.size≤_ by omega) (AU _)
 have I:=(M.by m f (by decide) (by decide) (by decide) (by intro h;simp at h)).wide (AU _) (show V.heap.size≤w5.heap.size from m.size)
 refine AR.back<|Cq ‹_› (by kernel_rfl) ?_
 refine Ar<|B9<|Dq<|Eh O O ‹_› underlying27 O O O ?_
 exact ⟨J,C,F,E,us,_,rfl,G,I,eG,eU⟩
def UX (ls:List N5) (ws:List T4):Int:=if 1+RX ls≤1048576 then 1+RX ls+Ij (ws.length:Int) (ws.map fun t=>Ju t.s t.l) else 1+RX ls
theorem MJ (v u:Value) (ls:List N5) (ws:List T4) (W:World) (h:GN W v ls) (y:ls.length≤1125899906842624) (o:∀t ∈ ls,t.few) (e:EM W u ws) (s:ws.length≤1125899906842624) (p:∀t ∈ ws,OD t):
  AK prog 9 [.agg [v,u].toArray] W (fun r q=>r= .int .i64 (UX ls ws)∧Below W.heap.size W q):=by
 have d:=Below.refl W.heap.size W
 have A:=Lz (l:=ls.map Jc) (n:=(ls.length:Int)) (m:=4503599627370496) (fun x f=>by
  obtain ⟨a,i,rfl⟩:=List.mem_map.1 f
  exact LB (o a i)) (by decide)
 have C:=GX (l:=ls.map Jc) (n:=(ls.length:Int)) (fun x f=>by
  obtain ⟨a,i,rfl⟩:=List.mem_map.1 f
  have:=J5 a;omega)
 have D:=Lz (l:=ws.map fun t=>Ju t.s t.l) (n:=(ws.length:Int)) (m:=4503599627370496) (fun x f=>by
  obtain ⟨a,i,rfl⟩:=List.mem_map.1 f
  exact OY (p a i)) (by decide)
 have G:=GX (l:=ws.map fun t=>Ju t.s t.l) (n:=(ws.length:Int)) (fun x f=>by
  obtain ⟨a,i,rfl⟩:=List.mem_map.1 f
  have:=Jw a.s a.l;omega)
 have E:RX ls=1+Ij (ls.length:Int) (ls.map Jc):=rfl
 refine Az (n:=19) func9 O<|Ad<|Cr (cs:=[v,u]) O O O ?_
 rintro z w k c b -
 have d:=d.bs b
 have h:=h.bs b
 have e:=e.bs b
 refine Ab O<|Be<|Ab O<|Bi<|Ac O<|Aa (Dy O O) O<|Ak<|Bu O true (by decide)<|Bn<|Ac O<|Ba underlying27 O (BX _)<|Aa (D3 (ds:=[v]) (Gx _) (BX _) O O ‹_› rfl) O ?_
 refine Ai O O (TB v ls _ h y o) ?_
 rintro _ F ⟨rfl,b⟩
 have d:=d.bs b
 have h:=h.bs b
 have e:=e.bs b
 have c:=c.bs b
 refine B1 O (by omega)<|Ab O<|Bi<|Ac O<|Aa (Dy O O) O<|Ak<|Aq O ?_ ?_
 ·intro g
  have g:1+RX ls≤1048576:=AC g
  refine Bn<|Ac O<|Ba underlying27 O (CF _)<|Aa (Al (DD _) O ‹_› rfl) O ?_
  refine Ai O O (QJ u ws _ e s p) ?_
  rintro _ B ⟨rfl,b⟩
  have d:=d.bs b
  have h:=h.bs b
  have e:=e.bs b
  have c:=c.bs b
  have j:UX ls ws=1+RX ls+Ij (ws.length:Int) (ws.map fun t=>Ju t.s t.l):=if_pos g
  refine B1 O (by omega)<|Ab O<|Be<|Ac O<|Ab O<|Ay<|As O O ?_
  exact ⟨by rw [j],d⟩
 intro g
 have g:¬1+RX ls≤1048576:=AD g
 have j:UX ls ws=1+RX ls:=if_neg g
 exact Cs<|Ac rfl<|Ab rfl<|Ay<|As rfl rfl<|⟨by rw [j],d⟩
theorem OU:∀(ws:List PV) (xs a:List N5),xs.map (·.s)=a.map (·.s)→Ic ws xs=Ic ws a
 |[],[],[],_=>rfl
 |[],_::_,_::_,_=>rfl
 |_::_,[],[],_=>rfl
 |w::ws,x::xs,y::a,h=>by
  have b:x.s=y.s:=(List.cons.inj h).1
  have c:=OU ws xs a (List.cons.inj h).2
  unfold Ic
  rw [b,c]
 |[],[],_::_,h=>by cases h
 |[],_::_,[],h=>by cases h
 |_::_,[],_::_,h=>by cases h
 |_::_,_::_,[],h=>by cases h
theorem Tr {us ls:List N5} {ts ws:List T4} (e:us.map pn=ls.map pn) (b:ts.map pv=ws.map pv):GB us ts=GB ls ws:=by
 have d:GL us=GL ls:=by rw [← HB us,← HB ls,e]
 have a:(F2 us).map (·.s)=(F2 ls).map (·.s):=by rw [← Ie us,← Ie ls,e]
 have f:(F2 us).length=(F2 ls).length:=by have:=cngA length a;simpa using this
 have c:ts.length=ws.length:=by have:=cngA length b;simpa using this
 unfold GB
 rw [d,f,c,b,OU _ _ _ a]
def U2 (p:PN):List (BitVec 8):=p.1::(BI p.2.1++BI p.2.2.1++[BitVec.ofInt 8 p.2.2.2.1,BitVec.ofInt 8 p.2.2.2.2])
theorem Lc (ls:List N5):DV ls=((ls.map pn).map U2).flatten:=by
 unfold DV
 rw [map_map]
 rfl
theorem MF (ws:List T4):FC ws=((ws.map pv).map fun p=>CG p.2).flatten:=by
 unfold FC
 rw [map_map]
 rfl
theorem S3 {us ls:List N5} {ts ws:List T4} (e:us.map pn=ls.map pn) (a:ts.map pv=ws.map pv):Hb us ts=Hb ls ws:=by
 have b:us.length=ls.length:=by have:=cngA length e;simpa using this
 unfold Hb
 rw [Lc,Lc,MF,MF,e,a,b]
theorem R8 {us ls:List N5} {ts ws:List T4} (e:us.map pn=ls.map pn) (a:ts.map pv=ws.map pv):I0 us ts=I0 ls ws∧Hs us ts=Hs ls ws:=by
 unfold I0 Hs NZ
 rw [Tr e a,S3 e a]
 exact ⟨rfl,rfl⟩
theorem R9 (ls:List N5) (ws:List T4):(Hs ls ws).length≤16777216:=by
 unfold Hs
 split
 ·rename_i h
  have S:=Tq h
  have c:=H7 S.node
  have a:=Iz S.nums
  have d:=S.few
  have b:=S.wts
  have:(NZ ls ws).length=1+((DV ls).length+(FC ws).length)+4:=by
   unfold NZ Hb
   simp [Crc.four]
   omega
  omega
 ·exact Nat.zero_le _
structure VB (ls:List N5) (ts:List T4):Prop where
 n:ls.length≤32
 node:∀x ∈ ls,x.i.length≤16777216∧x.s.length≤16777216
 t:ts.length≤32
 tens:∀t ∈ ts,t.s.length≤16777216∧t.l.length≤16777216
theorem S0 {l:Bs} {ls:List N5} {ts:List T4} (h:DS l=some (ls.map pn,ts.map pv)):VB ls ts:=by
 unfold DS at h
 cases hr:DK l with
 |none=>rw [hr] at h;cases h
 |some q=>
  obtain ⟨o,vs,r⟩:=q
  rw [hr] at h
  simp only at h
  split at h
  ·rename_i c
   obtain ⟨g,i⟩:=Prod.mk.inj (Option.some.inj h)
   subst g i
   obtain ⟨m,a⟩:=M4 hr
   have b:=MK a
   rw [HB] at c
   rw [c.2] at b
   have S:=Tq b
   refine ⟨S.few,fun x j=>by have:=S.node x j;omega,S.wts,fun t d=> ?_⟩
   have f:=(JA a).2 (pv t) (mem_map_of_mem d)
   obtain ⟨e,k⟩:=NB f
   have:=S.nums t d
   have:=(Shapes.ok_iff _).1 e
   have n:t.s.length≤4:=this.1.2
   exact ⟨by omega,by omega⟩
  ·cases h
theorem Ps {l:Bs} {ls:List N5} {ts:List T4} (h:(ls.map pn,ts.map pv)=(HY l).getD ([],[])):VB ls ts:=by
 have a:(ls.map pn,ts.map pv)=(([],[]):List PN×List PV)→VB ls ts:=fun h=>by
  obtain ⟨c,b⟩:=Prod.mk.inj h
  obtain rfl:=List.map_eq_nil_iff.1 c
  obtain rfl:=List.map_eq_nil_iff.1 b
  exact ⟨by simp,by simp,by simp,by simp⟩
 unfold HY at h
 split at h
 ·exact a h
 ·split at h
  ·exact a h
  ·cases hb:DS (l.take (l.length - 4)) with
   |none=>rw [hb] at h;exact a h
   |some q=>
    rw [hb] at h
    have h:(ls.map pn,ts.map pv)=q:=h
    exact S0 (hb.trans (by rw [← h]))
end Go.Proofs.YtblbopcaflaldaaGreatDoor

namespace Go.Proofs.YtblbopcaflaldaaGreatDoor
open Go Go.Dd Go.RowKit List Go.Proofs.Tryz
set_option maxRecDepth 100000
def RN (l:List (List Int)) (al:Int):Bool:=decide (l.length<1)||decide (4<l.length)||l.any (fun s=> !Shapes.ok s)||decide (al<0)||decide (((l.headD []).length:Int)≤al)
def U7 (l:List (List Int)) (al:Int):Option (List Int):=Ki al.toNat (l.headD []) l.tail
def V9:Option (List Int)→Int
 |some s=>if Shapes.ok s then 0 else 10
 |none=>10
def Oo (l:List (List Int)) (al:Int):Int:=if RN l al then 1 else V9 (U7 l al)
theorem PG (v:Value) (ps:List (Value×List Int)) (T:Int) (W:World) (h:LI W v ps):
  AK prog 263 [v, .int .i64 T] W (fun r X=>Below W.heap.size W X∧∃x s,r= .tuple #[x, .int .i64 (Oo (AW ps) T)]∧BO (Value.int .i64) X x s∧(Oo (AW ps) T=0→U7 (AW ps) T=some s)):=by
 have o:=Below.refl W.heap.size W
 have s_v:=h.sl
 have lv:ps.length≤9223372036854775807:=s_v.le
 obtain ⟨E,hE⟩:∃E,E=Oo (AW ps) T:=⟨_,rfl⟩
 rw [← hE]
 have li:(AW ps).length=ps.length:=length_map ..
 refine Az (n:=100) func263 O<|Ad<|Ab O<|Ab O<|Bi<|Ac O<|Aa (Ap AX O ‹_›) O ?_
 refine Bz O<|Ac O ?_
 refine Cc 13 O ?_ ?_
 ·intro g
  have g:ps.length<1:=by have:=AC g;omega
  refine Ae (dj:=13) O O O O<|Ae (dj:=13) O O O O<|Ae (dj:=13) O O O O<|B7 O<|Ak<|Ca O<|Ad<|Ab O<|Ab O<|B2<|Bx O O O ?_
  have M:E=1:=by
   rw [hE]
   unfold Oo
   rw [if_pos (by unfold RN;rw [li,decide_eq_true g];rfl)]
  rw [M]
  exact ⟨o, .slice none 0 0,[],rfl,Ck _ _,fun h=>by cases h⟩
 intro g1
 have g1:¬ps.length<1:=by have:=AD g1;omega
 refine Ag (dj:=13) O O<|Ac O<|Ag (dj:=13) O O<|Aa (Ap AX O ‹_›) O ?_
 refine Ag (dj:=13) O O<|Aa (Dh O O) O<|Ci O<|Ak<|Aq O ?_ ?_
 ·intro g
  have g:4<ps.length:=by have:=AC g;omega
  refine Ad<|Ab O<|Ab O<|B2<|Bx O O O ?_
  have M:E=1:=by
   rw [hE]
   unfold Oo
   rw [if_pos (by unfold RN;rw [li,decide_eq_true g];simp)]
  rw [M]
  exact ⟨o, .slice none 0 0,[],rfl,Ck _ _,fun h=>by cases h⟩
 intro g2
 have g2:¬4<ps.length:=by have:=AD g2;omega
 refine Bw<|Ao<|Ad<|Ab O<|Ak<|An ?_
 refine Bl (S:=Nat) (fun i=>[(0,v),(1, .int .i64 T),(6, .int .i64 (i:Int))]) (fun i X=>i≤ps.length∧(∀p ∈ ps.take i,Shapes.ok p.2=true)∧Below W.heap.size W X) (fun i=>ps.length - i) (0) ⟨rfl,rfl,rfl,trivial⟩ ?_ ?_
 ·exact ⟨Nat.zero_le _,fun p Q=>by simp at Q,Below.refl _ _⟩
 rintro i A ⟨hi,L,o⟩
 have w:=s_v.bs o
 refine Ao<|Ad<|Ac O<|Ac O<|Aa (Ap AX O ‹_›) O ?_
 refine Bz O<|Ak<|Aq O ?_ ?_
 ·intro g
  have d:i<ps.length:=by have:=AC g;omega
  obtain ⟨p,Q⟩:∃p,p=ps[i]:=⟨_,rfl⟩
  have pm:p ∈ ps:=Q ▸ getElem_mem d
  have s_p:=(h.each p pm).bs o
  have ep:(ps.getD i default).1=p.1:=by rw [getD_eq_getElem?_getD,getElem?_eq_getElem d,← Q];rfl
  refine Bw<|Ao<|An<|Ad<|Ac O<|Ac O<|Aa (Bh AX O O w i O d) O<|Aa (Ex.as (Bo (AN _) O w d) ep) O<|Ai O O (DA p.1 p.2 A s_p) ?_
  rintro _ w2 ⟨rfl,hn⟩
  have hB2:=bt o hn
  refine Aa (Co O) O<|Ak<|Aq O ?_ ?_
  ·intro V
   have V:Shapes.ok p.2=false:=by simpa using V
   refine Ad<|Ab O<|Ab O<|Ay<|Bj<|Av<|Av<|Bj<|Av<|Bx O O O ?_
   have M:E=1:=by
    rw [hE]
    unfold Oo
    rw [if_pos (by unfold RN;rw [show (AW ps).any (fun s=> !Shapes.ok s)=true from List.any_eq_true.2 ⟨p.2,mem_map_of_mem pm,by rw [V];rfl⟩];simp)]
   rw [M]
   exact ⟨hB2, .slice none 0 0,[],rfl,Ck _ _,fun h=>by cases h⟩
  intro V
  have V:Shapes.ok p.2=true:=by simpa using V
  refine Cj<|Bg<|B6<|Ac O<|B1 O (by omega)<|Ab O<|Bd ?_
  have hok' :∀q ∈ ps.take (i+1),Shapes.ok q.2=true:=fun q c=>by
   rw [take_succ_eq_append_getElem d] at c
   rcases List.mem_append.1 c with c|c
   ·exact L q c
   ·rw [List.mem_singleton.1 c,← Q];exact V
  exact Ar (Bp (i+1) ⟨rfl,rfl,rfl,trivial⟩ (⟨d,hok',hB2⟩) (by omega))
 intro g
 have d:i=ps.length:=by have:=AD g;omega
 rw [d,take_length] at L
 clear g hi d
 have l0:0<ps.length:=by omega
 obtain ⟨F,hp0⟩:∃p,p=ps[0]:=⟨_,rfl⟩
 have pm0:F ∈ ps:=hp0 ▸ getElem_mem l0
 have s_p0:=(h.each F pm0).bs o
 have ep0:(ps.getD 0 default).1=F.1:=by rw [getD_eq_getElem?_getD,getElem?_eq_getElem l0,← hp0];rfl
 have eh:(AW ps).headD []=F.2:=by
  rw [hp0]
  match ps,l0 with
  |a::l,_=>rfl
 have ok0:=L F pm0
 have len0:=((Shapes.ok_iff F.2).1 ok0).1
 refine Bk<|Aj<|Aj<|A0<|Ar<|B9<|Ao<|Ad<|Ac O<|Bz O<|Ac O ?_
 refine Cc 32 O ?_ ?_
 ·intro g
  have g:=AC g
  refine Ae (dj:=32) O O O O<|Ae (dj:=32) O O O O<|Ae (dj:=32) O O O O<|Ae (dj:=32) O O O O<|Ae (dj:=32) O O O O<|Ae (dj:=32) O O O O<|B7 O<|Ak<|Ca O<|Ad<|Ab O<|Ab O<|B2<|Bx O O O ?_
  have M:E=1:=by
   rw [hE]
   unfold Oo
   rw [if_pos (by unfold RN;rw [decide_eq_true g];simp)]
  rw [M]
  exact ⟨o, .slice none 0 0,[],rfl,Ck _ _,fun h=>by cases h⟩
 intro V
 have V:¬T<0:=AD V
 refine Ag (dj:=32) O O<|Ac O<|Ag (dj:=32) O O<|Ac O<|Ag (dj:=32) O O<|Aa (Bh AX O O w 0 O l0) O<|Ag (dj:=32) O O<|Aa (Ex.as (Bo (AN _) O w l0) ep0) O<|Ag (dj:=32) O O<|Aa (Ap AE O ‹_›) O ?_
 refine Ag (dj:=32) O O<|Aa (Eu O O) O<|Ci O<|Ak<|Aq O ?_ ?_
 ·intro g
  have g:=AC g
  refine Ad<|Ab O<|Ab O<|B2<|Bx O O O ?_
  have M:E=1:=by
   rw [hE]
   unfold Oo
   rw [if_pos (by unfold RN;rw [eh,decide_eq_true (show (F.2.length:Int)≤T by omega)];simp)]
  rw [M]
  exact ⟨o, .slice none 0 0,[],rfl,Ck _ _,fun h=>by cases h⟩
 intro g4
 have g4:T<(F.2.length:Int):=by have:=AD g4;omega
 obtain ⟨k,rfl⟩:∃k:Nat,T=(k:Int):=⟨T.toNat,by omega⟩
 have hk:k<F.2.length:=by omega
 have hA:RN (AW ps) (k:Int)=false:=by
  unfold RN
  rw [li,eh,decide_eq_false g1,decide_eq_false g2,decide_eq_false V,decide_eq_false (show ¬(F.2.length:Int)≤(k:Int) by omega)]
  rw [List.any_eq_false.2 fun s hs=>by
   obtain ⟨p,Q,rfl⟩:=List.mem_map.1 hs
   rw [L p Q];decide]
  rfl
 obtain ⟨R,hR⟩:∃R,R=U7 (AW ps) (k:Int):=⟨_,rfl⟩
 have hR2:Ki k F.2 ((AW ps).drop 1)=R:=by
  rw [hR]
  unfold U7
  rw [eh,Int.toNat_natCast,drop_one]
 have Z:E=V9 R:=by
  rw [hE,hR]
  unfold Oo
  rw [hA];rfl
 rw [← hR]
 clear hR hE hA eh
 refine Cs<|Ac O<|Aa (Bh AX O O w 0 O l0) O<|Aa (Ex.as (Bo (AN _) O w l0) ep0) O<|Bc (De (base:=W.heap.size) AE DO O (by decide) O O (World.ownsRow_nil _ _ _ _) s_p0 (BL (fun _=>rfl) _) (by omega) (by omega) o.size) O ?_
 rintro x0 w2 ⟨f,hn, -⟩
 rw [nil_append,Nat.zero_add] at f
 have o:=o.trans hn
 refine Ab O<|Bi<|Ab O<|Ak<|An ?_
 refine Bl (S:=(Nat×Value×List Int)) (fun z=>[(0,v),(1, .int .i64 (k:Int)),(7,z.2.1),(8, .int .i64 (z.1:Int))]) (fun z X=>1≤z.1∧z.1≤ps.length∧X.ownsRow W.heap.size 3 1 z.2.1 z.2.2.length (z.2.2.map (Value.int .i64))∧z.2.2.length=F.2.length∧(0≤z.2.2.getD k default∧z.2.2.getD k default≤64*(z.1:Int))∧Ki k z.2.2 ((AW ps).drop z.1)=R∧Below W.heap.size W X) (fun z=>ps.length - z.1) ((1,x0,F.2)) ⟨rfl,rfl,rfl,rfl,trivial⟩ ?_ ?_
 ·have:=VM ok0 hk
  exact ⟨AU _,l0,f,rfl,by simp only;omega,hR2,o⟩
 rintro ⟨i,x,s⟩ w3 ⟨h1,hi,f,ls,hs,K,o⟩
 replace h1:1≤i:=h1
 replace hi:i≤ps.length:=hi
 replace f:w3.ownsRow W.heap.size 3 1 x s.length (s.map (Value.int .i64)):=f
 replace ls:s.length=F.2.length:=ls
 replace hs:0≤s.getD k default∧s.getD k default≤64*(i:Int):=hs
 replace K:Ki k s ((AW ps).drop i)=R:=K
 have U:=s_v.bs o
 have G:=BD f
 refine Ao<|Ad<|Ac O<|Ac O<|Aa (Ap AX O ‹_›) O ?_
 refine Bz O<|Ak<|Aq O ?_ ?_
 ·intro g
  have d:i<ps.length:=by have:=AC g;omega
  obtain ⟨p,Q⟩:∃p,p=ps[i]:=⟨_,rfl⟩
  have pm:p ∈ ps:=Q ▸ getElem_mem d
  have s_p:=(h.each p pm).bs o
  have okp:=L p pm
  have ep:(ps.getD i default).1=p.1:=by rw [getD_eq_getElem?_getD,getElem?_eq_getElem d,← Q];rfl
  have ed:(AW ps).drop i=p.2::(AW ps).drop (i+1):=by
   rw [drop_eq_getElem_cons (by rw [li];exact d)]
   congr 1
   rw [Q];exact getElem_map ..
  rw [ed] at K
  have hno:On k s p.2=none→E=10:=fun hn=>by
   unfold Ki at K
   rw [hn] at K
   rw [Z,← K]
   rfl
  refine Bw<|Ao<|An<|Ao<|Ad<|Ac O<|Ac O<|Aa (Bh AX O O U i O d) O<|Aa (Ex.as (Bo (AN _) O U d) ep) O<|Aa (Ap AE O ‹_›) O ?_
  refine Ac O<|Aa (Ap AE O ‹_›) O ?_
  refine Aa (Ct O O) O<|Ak<|Aq O ?_ ?_
  ·intro B
   have B:¬p.2.length=s.length:=fun e=>by rw [e] at B;simp at B
   have N:=hno (by unfold On;rw [if_neg fun h=>B h.1])
   refine Ad<|Ab O<|Ab O<|B2<|Bj<|Av<|Av<|Bj<|Av<|Bx O O O ?_
   rw [N]
   exact ⟨o, .slice none 0 0,[],rfl,Ck _ _,fun h=>by cases h⟩
  intro B
  have B:p.2.length=s.length:=by simp at B;omega
  refine Bw<|Ao<|Ad<|Ab O<|Ak<|An ?_
  refine Bl (S:=Nat) (fun m=>[(0,v),(1, .int .i64 (k:Int)),(7,x),(8, .int .i64 (i:Int)),(9, .int .i64 (m:Int))]) (fun m X=>m≤s.length∧(∀j,j<m→j≠k→s.getD j default=p.2.getD j default)∧X.ownsRow W.heap.size 3 1 x s.length (s.map (Value.int .i64))∧Below w3.heap.size w3 X) (fun m=>s.length - m) (0) ⟨rfl,rfl,rfl,rfl,rfl,trivial⟩ ?_ ?_
  ·exact ⟨Nat.zero_le _,fun j hj=>by omega,f,Below.refl _ _⟩
  rintro m w4 ⟨hm,hall,f,y⟩
  have hBW:=bt o y
  have D:=U.bs y
  have s_p4:=s_p.bs y
  have G:=BD f
  refine Ao<|Ad<|Ac O<|Ac O<|Aa (Ap AE O ‹_›) O ?_
  refine Bz O<|Ak<|Aq O ?_ ?_
  ·intro g6
   have H:m<s.length:=by have:=AC g6;omega
   have hmp:m<p.2.length:=by omega
   refine Bw<|Ao<|An<|Ao<|Da BB (by kernel_rfl)<|Bq O<|Bq O<|Ah (fun A c=>Ct O O) O<|Bq O ?_
   refine Dj 67 O ?_ ?_
   ·intro g7
    have g7:¬m=k:=fun e=>by rw [e] at g7;simp at g7
    refine Bb (dj:=67) O O<|Bq O<|Bb (dj:=67) O O<|Bq O<|Bb (dj:=67) O O<|Ah (fun A c=>Bh AX O O (D.bs c) i O d) O<|Bb (dj:=67) O O<|Ah (fun A c=>Ex.as (Bo (AN _) O (D.bs c) d) ep) O<|Bb (dj:=67) O O<|Bq O<|Bb (dj:=67) O O<|Ah (fun A c=>Bh AE O O (Sl.bs ‹_› c) _ O (by omega)) O ?_
    refine Bb (dj:=67) O O<|Ah (fun A c=>Bo (AO _) O (Sl.bs ‹_› c) (by omega)) O ?_
    refine Bb (dj:=67) O O<|Bq O<|Bb (dj:=67) O O<|Bq O<|Bb (dj:=67) O O<|Ah (fun A c=>Bh AE O O (Sl.bs ‹_› c) _ O (by omega)) O ?_
    refine Bb (dj:=67) O O<|Ah (fun A c=>Bo (AO _) O (Sl.bs ‹_› c) (by omega)) O ?_
    refine Bb (dj:=67) O O<|Ah (fun A c=>Ct O O) O<|Ah (fun A c=>C3 O O) O ?_
    refine C2 (fun w5 c=> ?_)
    refine Ar<|B9 ?_
    have I:=bt y c
    have t:=AI f c
    refine Aq O ?_ ?_
    ·intro g8
     have g8:¬s.getD m default=p.2.getD m default:=fun e=>by rw [e] at g8;simp at g8
     have N:=hno (by unfold On;rw [if_neg fun h=>g8 (h.2.2 m H g7)])
     refine Ad<|Ab O<|Ab O<|Ay<|Bj<|Av<|Av<|Bj<|Av<|Bj<|Av<|Av<|Bj<|Av<|Bx O O O ?_
     rw [N]
     exact ⟨bt o I, .slice none 0 0,[],rfl,Ck _ _,fun h=>by cases h⟩
    intro g8
    have g8:s.getD m default=p.2.getD m default:=by simp at g8;simpa using g8.symm
    refine Cj<|Bg<|B6<|Ac O<|B1 O (by omega)<|Ab O<|Bd ?_
    have C:∀j,j<m+1→j≠k→s.getD j default=p.2.getD j default:=fun j hj Y=>
     (Nat.lt_succ_iff_lt_or_eq.1 hj).elim (fun h=>hall j h Y) (fun h=>by rw [h];exact g8)
    exact Ar (Bp (m+1) ⟨rfl,rfl,rfl,rfl,rfl,trivial⟩ (⟨H,C,t,I⟩) (by omega))
   intro g7
   have g7:m=k:=by simp at g7;omega
   refine Au (dj:=67) O O O O<|Au (dj:=67) O O O O<|Au (dj:=67) O O O O<|Au (dj:=67) O O O O<|Au (dj:=67) O O O O<|Au (dj:=67) O O O O<|Au (dj:=67) O O O O<|Au (dj:=67) O O O O<|Au (dj:=67) O O O O<|Au (dj:=67) O O O O<|Au (dj:=67) O O O O<|Au (dj:=67) O O O O<|Ah (fun A c=>C0 O O) O ?_
   refine C2 (fun w5 c=> ?_)
   refine Ar<|B9<|D5 O<|Cj<|Bg<|B6<|Ac O<|B1 O (by omega)<|Ab O<|Bd ?_
   have I:=bt y c
   have t:=AI f c
   have C:∀j,j<m+1→j≠k→s.getD j default=p.2.getD j default:=fun j hj Y=>
    (Nat.lt_succ_iff_lt_or_eq.1 hj).elim (fun h=>hall j h Y) (fun h=>absurd (h.trans g7) Y)
   exact Ar (Bp (m+1) ⟨rfl,rfl,rfl,rfl,rfl,trivial⟩ (⟨H,C,t,I⟩) (by omega))
  intro g6
  have H:m=s.length:=by have:=AD g6;omega
  rw [H] at hall
  clear g6 hm H
  have J:k<s.length:=by omega
  have hkp:k<p.2.length:=by omega
  have M:On k s p.2=some (s.set k (s.getD k default+p.2.getD k default)):=by unfold On;rw [if_pos ⟨B,J,hall⟩]
  have hJ2:Ki k (s.set k (s.getD k default+p.2.getD k default)) ((AW ps).drop (i+1))=R:=by
   unfold Ki at K
   rw [M] at K
   exact K
  have dk:=VM okp hkp
  refine Bk<|Aj<|Aj<|A0<|Ar<|B9<|Cw.tail 15 BB (by kernel_rfl)<|Bq O<|Bq O<|Bq O<|Bq O<|Ah (fun A c=>Bh AE O O (G.bs c) k O J) O<|Ah (fun A c=>Bo (AO _) O (G.bs c) J) O<|Bq O<|Bq O<|Ah (fun A c=>Bh AX O O (D.bs c) i O d) O<|Ah (fun A c=>Ex.as (Bo (AN _) O (D.bs c) d) ep) O<|Bq O<|Ah (fun A c=>Bh AE O O (s_p4.bs c) k O hkp) O<|Ah (fun A c=>Bo (AO _) O (s_p4.bs c) hkp) O<|Ah (fun A c=>Dp O O (by omega)) O<|Ah (fun A c=>Bh AE O O (G.bs c) k O J) O ?_
  refine D0 (fun w5 c=> ?_)
  have I:=bt y c
  have t:=AI f c
  refine Bv (Et (u:= .int .i64 (s.getD k default+p.2.getD k default)) (BC _) O O O t (by rw [length_map];exact J)) ?_
  rintro w6 ⟨o_x6,hg,hz⟩
  rw [← map_set] at o_x6
  have hBW5:=bt o I
  have hB6:=hBW5.grown hg hBW5.size (fun b e=>(AB t b e).1)
  refine Bd<|Bg<|B6<|Ac O<|B1 O (by omega)<|Ab O<|Bd ?_
  exact Ar (Bp ((i+1,x,s.set k (s.getD k default+p.2.getD k default))) ⟨rfl,rfl,rfl,rfl,trivial⟩ (⟨by simp only;omega,d,by simp only [length_set];exact o_x6,by simp only [length_set];exact ls,by simp only;rw [show (s.set k (s.getD k default+p.2.getD k default)).getD k default=s.getD k default+p.2.getD k default by simp [J]];omega,hJ2,hB6⟩) (by simp only;omega))
 intro g
 have d:i=ps.length:=by have:=AD g;omega
 rw [d,drop_of_length_le (by rw [li];exact AU _)] at K
 have hRs:R=some s:=by rw [← K];rfl
 rw [hRs] at Z ⊢
 refine Bk<|Aj<|Aj<|A0<|Ar<|B9<|Ao<|Ad<|Ac O<|Ai O O (DA x s w3 G) ?_
 rintro _ w4 ⟨rfl,hn⟩
 have y:=bt o hn
 refine Aa (Co O) O<|Ak<|Aq O ?_ ?_
 ·intro B
  have B:Shapes.ok s=false:=by simpa using B
  have N:E=10:=by rw [Z];show (if Shapes.ok s=true then (0:Int) else 10)=10;rw [B];rfl
  refine Ad<|Ab O<|Ab O<|B2<|Bx O O O ?_
  rw [N]
  exact ⟨y, .slice none 0 0,[],rfl,Ck _ _,fun h=>by cases h⟩
 intro B
 have B:Shapes.ok s=true:=by simpa using B
 have e0:E=0:=by rw [Z];show (if Shapes.ok s=true then (0:Int) else 10)=0;rw [B];rfl
 refine Cs<|Ac O<|Ab O<|Ab O<|Ay<|Bx O O O ?_
 rw [e0]
 exact ⟨y,x,s,rfl,G.bs hn,fun _=>rfl⟩

def cn (i:Int):List Int→Nat
 |[]=>0
 |x::l=>(if x=i then 1 else 0)+cn i l
def fl (m:Int):List Int→Nat
 |[]=>0
 |x::l=>(if 0≤x∧x<m then 1 else 0)+fl m l
theorem IT (i:Int):∀a b:List Int,cn i (a++b)=cn i a+cn i b
 |[],b=>by simp [cn]
 |x::a,b=>by simp only [cons_append,cn];rw [IT i a b];omega
theorem OG {i:Int}:∀{l:List Int},i ∈ l→1≤cn i l
 |x::l,h=>by
  simp only [cn]
  rcases List.mem_cons.1 h with rfl|h
  ·rw [if_pos rfl];omega
  ·have:=OG h;omega
theorem Ud (i:Int):∀l:List Int,cn i l≤l.length
 |[]=>AU _
 |x::l=>by
  have:=Ud i l
  simp only [cn,length_cons]
  split<;>omega
theorem J8 (m:Nat):∀l:List Int,fl ((m+1:Nat):Int) l=fl (m:Int) l+cn (m:Int) l
 |[]=>rfl
 |x::l=>by
  simp only [fl,cn]
  rw [J8 m l]
  split<;>split<;>split<;>omega
theorem Pu:∀l:List Int,fl 0 l=0
 |[]=>rfl
 |x::l=>by
  simp only [fl]
  rw [Pu l,if_neg (by omega)]
theorem Si (m:Int):∀l:List Int,fl m l≤l.length
 |[]=>AU _
 |x::l=>by
  have:=Si m l
  simp only [fl,length_cons]
  split<;>omega
theorem Sj {m:Int}:∀{l:List Int},fl m l=l.length→∀x ∈ l,0≤x∧x<m
 |[],_,x,a=>by simp at a
 |y::l,h,x,a=>by
  have:=Si m l
  simp only [fl,length_cons] at h
  by_cases g:0≤y∧y<m
  ·rw [if_pos g] at h
   rcases List.mem_cons.1 a with rfl|a
   ·exact g
   ·exact Sj (by omega) x a
  ·rw [if_neg g] at h;omega
theorem Sr {l:List Int} (h:∀i:Nat,i<l.length→cn (i:Int) l=1):GR l=true:=by
 have e:∀m:Nat,m≤l.length→fl (m:Int) l=m:=fun m=>by
  induction m with
  |zero=>intro _;exact Pu l
  |succ m ih=>intro d;rw [J8,ih (by omega),h m (by omega)]
 have a:=Sj (e l.length (AU _))
 refine IF.2 fun j b=> ?_
 have d:l.getD j default ∈ l:=by simp [b]
 have c:=a _ d
 unfold R2
 rw [decide_eq_true c.1,decide_eq_true c.2]
 cases hc:(l.take j).contains (l.getD j default) with
 |false=>rfl
 |true=>
  have f:l.getD j default ∈ l.take j:=by simpa using hc
  have o:=OG f
  have k:cn (l.getD j default) (l.drop j)=1+cn (l.getD j default) (l.drop (j+1)):=by
   rw [drop_eq_getElem_cons b]
   simp [cn,b]
  have n:cn (l.getD j default) l=cn (l.getD j default) (l.take j)+cn (l.getD j default) (l.drop j):=by rw [← IT,take_append_drop]
  have g:=h (l.getD j default).toNat (by omega)
  rw [Int.toNat_of_nonneg c.1] at g
  omega
theorem Ll (i:Nat):∀n,RQ (fun x=>if x=i then 1 else 0) n=if i<n then 1 else 0
 |0=>rfl
 |n+1=>by
  simp only [RQ]
  rw [Ll i n]
  split<;>split<;>split<;>omega
theorem Px (i:Nat):∀{l:List Int},(∀x ∈ l,0≤x)→(cn (i:Int) l:Int)=I5 (fun x=>if x=i then 1 else 0) (R0 l)
 |[],_=>rfl
 |x::l,h=>by
  have c:=h x (by simp)
  have a:=Px i (l:=l) fun y b=>h y (by simp [b])
  simp only [R0] at a ⊢
  simp only [map_cons,I5,cn]
  rw [← a]
  by_cases g:x=(i:Int)
  ·rw [if_pos g,if_pos (by omega)];omega
  ·rw [if_neg g,if_neg (by omega)];omega
theorem Rz {l:List Int} (h:GR l=true) (b:l.length≤4) {i:Nat} (d:i<l.length):cn (i:Int) l=1:=by
 have c:∀x ∈ l,0≤x:=fun x f=>by
  obtain ⟨j,a,e⟩:=getElem_of_mem f
  have:=(JR h a).1
  rwa [show l.getD j default=x by simp [a,e]] at this
 have e:=Px i c
 rw [PW (MB h b),Kd,Ll,if_pos d] at e
 omega
theorem Rr (u:Value) (l:List Int) (n:Nat) (w:World) (e:BO (Value.int .i64) w u l) (z:n≤4):
  AK prog 258 [u, .int .i64 (n:Int)] w (fun r f=>r= .bool (decide (l.length=n) && GR l)∧Below w.heap.size w f):=by
 have B:=e.le
 refine Az (n:=32) func258 O<|Ad<|Ab O<|Bi<|Ac O<|Aa (Ap AE O ‹_›) O ?_
 refine Ac O<|Aa (Ct O O) O<|Ak<|Aq O ?_ ?_
 ·intro g
  have g:¬l.length=n:=by have:=g;simp at this;omega
  refine Ad<|Ab O<|B2<|As O O ?_
  exact ⟨by rw [decide_eq_false g];rfl,Below.refl _ _⟩
 intro g
 have g:l.length=n:=by have:=g;simp at this;omega
 subst g
 rw [decide_eq_true rfl,Bool.true_and]
 refine Bw<|Ao<|Ad<|Ab O<|Ak<|An ?_
 refine Bl (S:=Nat) (fun i=>[(0,u),(1, .int .i64 (l.length:Int)),(5, .int .i64 (i:Int))]) (fun i f=>i≤l.length∧(∀j:Nat,j<i→cn (j:Int) l=1)∧Below w.heap.size w f) (fun i=>l.length - i) (0) ⟨rfl,rfl,rfl,trivial⟩ ?_ ?_
 ·exact ⟨Nat.zero_le _,fun j v=>absurd v (by omega),Below.refl _ _⟩
 rintro i C ⟨E,p,m⟩
 have s:=e.bs m
 refine Ao<|Ad<|Ac O<|Ac O<|Bz O<|Ak<|Aq O ?_ ?_
 ·intro g
  have d:i<l.length:=by have:=AC g;omega
  refine Bw<|Ao<|An<|Ad<|Ab O<|Bi<|Ab O<|Ak<|An ?_
  refine Bl (S:=Nat) (fun k=>[(0,u),(1, .int .i64 (l.length:Int)),(5, .int .i64 (i:Int)),(6, .int .i64 ((cn (i:Int) (l.take k):Nat):Int)),(7, .int .i64 (k:Int))]) (fun k f=>k≤l.length∧Below w.heap.size w f) (fun k=>l.length - k) (0) ⟨rfl,rfl,rfl,rfl,rfl,trivial⟩ ?_ ?_
  ·exact ⟨Nat.zero_le _,m⟩
  rintro k F ⟨D,c⟩
  have q:=e.bs c
  have y:=Ud (i:Int) (l.take k)
  rw [length_take] at y
  refine Ao<|Ad<|Ac O<|Ac O<|Bz O<|Ak<|Aq O ?_ ?_
  ·intro h
   have b:k<l.length:=by have:=AC h;omega
   have A:l.take (k+1)=l.take k++[l.getD k default]:=by rw [take_succ_eq_append_getElem b];simp [b]
   have t:cn (i:Int) (l.take (k+1))=cn (i:Int) (l.take k)+if l.getD k default=(i:Int) then 1 else 0:=by rw [A,IT];simp [cn]
   refine Bw<|Ao<|An<|Ad<|Ac O<|Ac O<|Aa (Bh AE O O ‹_› _ O (by omega)) O ?_
   refine Aa (Bo (AO _) O ‹_› (by omega)) O ?_
   refine Ac O<|Aa (C6 O O) O<|Ak<|Aq O ?_ ?_
   ·intro a
    have a:=AC a
    rw [if_pos a] at t
    refine Bn<|Ac O<|B1 O (by omega)<|Ab O<|Bd<|Bg<|B6<|Ac O<|B1 O (by omega)<|Ab O<|Bd ?_
    exact Ar (Bp (k+1) ⟨rfl,rfl,rfl,cngA (fun x=>some (Value.int .i64 x)) (show ((cn (i:Int) (l.take k):Nat):Int)+1=((cn (i:Int) (l.take (k+1)):Nat):Int) by omega),rfl,trivial⟩ (⟨b,c⟩) (by omega))
   intro a
   have a:=AD a
   rw [if_neg a] at t
   refine Cj<|Bg<|B6<|Ac O<|B1 O (by omega)<|Ab O<|Bd ?_
   exact Ar (Bp (k+1) ⟨rfl,rfl,rfl,cngA (fun x=>some (Value.int .i64 x)) (show ((cn (i:Int) (l.take k):Nat):Int)=((cn (i:Int) (l.take (k+1)):Nat):Int) by omega),rfl,trivial⟩ (⟨b,c⟩) (by omega))
  intro h
  have b:k=l.length:=by have:=AD h;omega
  rw [b,take_length]
  refine Bk<|Aj<|Aj<|A0<|Cb<|Ac O<|Aa (Ct O O) O<|Ak<|Aq O ?_ ?_
  ·intro a
   have a:¬cn (i:Int) l=1:=by have:=a;simp at this;omega
   refine Ad<|Ab O<|Ay<|Bj<|Av<|Av<|Bj<|Av<|As O O ?_
   refine ⟨cngA Value.bool ?_,c⟩
   cases ho:GR l with
   |false=>rfl
   |true=>exact absurd (Rz ho z d) a
  intro a
  have a:cn (i:Int) l=1:=by have:=a;simp at this;omega
  have o:∀j:Nat,j<i+1→cn (j:Int) l=1:=fun j v=>by
   rcases Nat.lt_or_ge j i with h|h
   ·exact p j h
   ·obtain rfl:j=i:=by omega
    exact a
  refine Cj<|Bg<|B6<|Ac O<|B1 O (by omega)<|Ab O<|Bd ?_
  exact Ar (Bp (i+1) ⟨rfl,rfl,rfl,trivial⟩ (⟨d,o,c⟩) (by omega))
 intro g
 have d:i=l.length:=by have:=AD g;omega
 subst d
 exact Bk<|Aj<|Aj<|A0<|Cb<|Ab rfl<|Ay<|As rfl rfl<|⟨cngA Value.bool (Sr p).symm,m⟩

def SW (k:BitVec 8):Int×Int×Bool:=match DI k with
 |some (a::b::_)=>(a,b,true)
 |_=>(0,0,false)
theorem SZ (k:BitVec 8) (w:World):AK prog 256 [b8 k] w (fun r t=>r= .tuple #[.int .i64 (SW k).1, .int .i64 (SW k).2.1, .bool (SW k).2.2]∧Below w.heap.size w t):=by
 refine Az (n:=23) func256 O<|Ad<|Ab O<|Ab O<|Ab O<|Bi<|Ac O<|Ak<|An<|Ao<|Ad<|Aa (Ch O (show _=some (b8 (1#8)) from rfl)) O<|Ab O<|Ak<|Aq O ?_ ?_
 ·intro g
  have g:k=1#8:=AC g
  refine Bw<|Bu O true ((decide_eq_true g))<|Ad<|Ab O<|Ab O<|Ab O<|Ay<|Bj<|Av<|Ds O O O O ?_
  rw [g]
  exact ⟨by kernel_rfl,Below.refl _ _⟩
 intro l
 have l:¬k=1#8:=AD l
 refine Bn<|Aa (Ch O (show _=some (b8 (2#8)) from rfl)) O<|Ab O<|Ak<|Aq O ?_ ?_
 ·intro g
  have g:k=2#8:=AC g
  refine Ad<|Ab O<|Ab O<|Ab O<|Ay<|Bj<|Av<|Ds O O O O ?_
  rw [g]
  exact ⟨by kernel_rfl,Below.refl _ _⟩
 intro j
 have j:¬k=2#8:=AD j
 refine Ao<|Ad<|Aa (Ch O (show _=some (b8 (3#8)) from rfl)) O<|Ab O<|Ak<|Aq O ?_ ?_
 ·intro g
  have g:k=3#8:=AC g
  refine Bw<|Bu O true ((decide_eq_true g))<|Ad<|Ab O<|Ab O<|Ab O<|Ay<|Bj<|Av<|Ds O O O O ?_
  rw [g]
  exact ⟨by kernel_rfl,Below.refl _ _⟩
 intro s
 have s:¬k=3#8:=AD s
 refine Ad<|Aa (Ch O (show _=some (b8 (4#8)) from rfl)) O<|Ab O<|Ak<|Aq O ?_ ?_
 ·intro g
  have g:k=4#8:=AC g
  refine Bw<|Bu O true ((decide_eq_true g))<|Ad<|Ab O<|Ab O<|Ab O<|Ay<|Bj<|Av<|Ds O O O O ?_
  rw [g]
  exact ⟨by kernel_rfl,Below.refl _ _⟩
 intro f
 have f:¬k=4#8:=AD f
 refine Ad<|Aa (Ch O (show _=some (b8 (7#8)) from rfl)) O<|Ab O<|Ak<|Aq O ?_ ?_
 ·intro g
  have g:k=7#8:=AC g
  refine Bw<|Bu O true ((decide_eq_true g))<|Ad<|Ab O<|Ab O<|Ab O<|Ay<|Bj<|Av<|Ds O O O O ?_
  rw [g]
  exact ⟨by kernel_rfl,Below.refl _ _⟩
 intro p
 have p:¬k=7#8:=AD p
 refine Bn<|Aa (Ch O (show _=some (b8 (8#8)) from rfl)) O<|Ab O<|Ak<|Aq O ?_ ?_
 ·intro g
  have g:k=8#8:=AC g
  refine Ad<|Ab O<|Ab O<|Ab O<|Ay<|Bj<|Av<|Ds O O O O ?_
  rw [g]
  exact ⟨by kernel_rfl,Below.refl _ _⟩
 intro q
 have q:¬k=8#8:=AD q
 refine Ao<|Ad<|Aa (Ch O (show _=some (b8 (5#8)) from rfl)) O<|Ab O<|Ak<|Aq O ?_ ?_
 ·intro g
  have g:k=5#8:=AC g
  refine Bw<|Bu O true ((decide_eq_true g))<|Ad<|Ab O<|Ab O<|Ab O<|Ay<|Bj<|Av<|Ds O O O O ?_
  rw [g]
  exact ⟨by kernel_rfl,Below.refl _ _⟩
 intro m
 have m:¬k=5#8:=AD m
 refine Ad<|Aa (Ch O (show _=some (b8 (6#8)) from rfl)) O<|Ab O<|Ak<|Aq O ?_ ?_
 ·intro g
  have g:k=6#8:=AC g
  refine Bw<|Bu O true ((decide_eq_true g))<|Ad<|Ab O<|Ab O<|Ab O<|Ay<|Bj<|Av<|Ds O O O O ?_
  rw [g]
  exact ⟨by kernel_rfl,Below.refl _ _⟩
 intro i
 have i:¬k=6#8:=AD i
 refine Ad<|Aa (Ch O (show _=some (b8 (9#8)) from rfl)) O<|Ab O<|Ak<|Aq O ?_ ?_
 ·intro g
  have g:k=9#8:=AC g
  refine Bw<|Bu O true ((decide_eq_true g))<|Ad<|Ab O<|Ab O<|Ab O<|Ay<|Bj<|Av<|Ds O O O O ?_
  rw [g]
  exact ⟨by kernel_rfl,Below.refl _ _⟩
 intro o
 have o:¬k=9#8:=AD o
 refine Ad<|Aa (Ch O (show _=some (b8 (10#8)) from rfl)) O<|Ab O<|Ak<|Aq O ?_ ?_
 ·intro g
  have g:k=10#8:=AC g
  refine Bw<|Bu O true ((decide_eq_true g))<|Ad<|Ab O<|Ab O<|Ab O<|Ay<|Bj<|Av<|Ds O O O O ?_
  rw [g]
  exact ⟨by kernel_rfl,Below.refl _ _⟩
 intro d
 have d:¬k=10#8:=AD d
 refine Ad<|Aa (Ch O (show _=some (b8 (11#8)) from rfl)) O<|Ab O<|Ak<|Aq O ?_ ?_
 ·intro g
  have g:k=11#8:=AC g
  refine Bw<|Bu O true ((decide_eq_true g))<|Ad<|Ab O<|Ab O<|Ab O<|Ay<|Bj<|Av<|Ds O O O O ?_
  rw [g]
  exact ⟨by kernel_rfl,Below.refl _ _⟩
 intro a
 have a:¬k=11#8:=AD a
 refine Bn<|Aa (Ch O (show _=some (b8 (13#8)) from rfl)) O<|Ab O<|Ak<|Aq O ?_ ?_
 ·intro g
  have g:k=13#8:=AC g
  refine Ad<|Ab O<|Ab O<|Ab O<|Ay<|Bj<|Av<|Ds O O O O ?_
  rw [g]
  exact ⟨by kernel_rfl,Below.refl _ _⟩
 intro b
 have b:¬k=13#8:=AD b
 refine Ad<|Aa (Ch O (show _=some (b8 (12#8)) from rfl)) O<|Ab O<|Ak<|Aq O ?_ ?_
 ·intro g
  have g:k=12#8:=AC g
  refine Ad<|Ab O<|Ab O<|Ab O<|Ay<|Bj<|Av<|Ds O O O O ?_
  rw [g]
  exact ⟨by kernel_rfl,Below.refl _ _⟩
 intro c
 have c:¬k=12#8:=AD c
 refine Cj<|Bg<|Cb<|Ab O<|Ab O<|Ab O<|Ay<|Ds O O O O ?_
 have e:DI k=none:=by
  cases h:DI k with
  |none=>rfl
  |some r=>
   have:=J6 k (by rw [h];rfl)
   rcases this with h|h|h|h|h|h|h|h|h|h|h|h|h<;>contradiction
 rw [show SW k=(0,0,false) by unfold SW;rw [e]]
 exact ⟨rfl,Below.refl _ _⟩
theorem EO (n a b:Int) (w:World):AK prog 257 [.int .i64 n, .int .i64 a, .int .i64 b] w (fun r c=>r= .bool (decide (a≤n) && decide (n≤b))∧Below w.heap.size w c):=by
 refine Az (n:=15) func257 O<|Ad<|Ab O<|Be<|Ac O<|Ac O<|Aa (Eu O O) O<|Ac O ?_
 refine Cc 10 O ?_ ?_
 ·intro g
  refine Ag (dj:=10) O O<|Ac O<|Ag (dj:=10) O O<|Ac O<|Ag (dj:=10) O O<|Aa (Dy O O) O<|B7 O<|Ab O<|Ay<|As O O ?_
  rw [g]
  exact ⟨rfl,Below.refl _ _⟩
 intro g
 refine Ae (dj:=10) O O O O<|Ae (dj:=10) O O O O<|Ae (dj:=10) O O O O<|Ci O<|Ab O<|Ay<|As O O ?_
 rw [g]
 exact ⟨rfl,Below.refl _ _⟩
def Vf (f:Int) (s:List Int):Bool:=if f=0 then decide (s.length=0) else if f=1 then Shapes.ok s else HC s
theorem Ht {k:BitVec 8} {i s:List Int} {n p a b c d e f:Int} (o:DI k=some [a,b,c,d,e,f]) (r:a≤(i.length:Int)) (q:(i.length:Int)≤b):
  CU k i s n p=(decide (c≤n∧n≤d∧0≤p∧p≤e) && Vf f s):=by
 unfold CU
 rw [o]
 show GF a b c d e f i s n p=_
 rw [Bool.eq_iff_iff,H9,Bool.and_eq_true,decide_eq_true_iff]
 unfold Vf
 constructor
 ·rintro ⟨⟨-, -,h,l,j,g⟩,m⟩;exact ⟨⟨h,l,j,g⟩,m⟩
 ·rintro ⟨⟨h,l,j,g⟩,m⟩;exact ⟨⟨r,q,h,l,j,g⟩,m⟩
theorem RL {k:BitVec 8} {i s:List Int} {n p a b c d e f:Int} (g:DI k=some [a,b,c,d,e,f]) (h:¬(a≤(i.length:Int)∧(i.length:Int)≤b)):CU k i s n p=false:=by
 cases hf:CU k i s n p with
 |false=>rfl
 |true=>
  have:=(AY hf g).1
  exact absurd ⟨this.1,this.2.1⟩ h
theorem Ub {l:List Int}:∀m:Nat,(∀i:Nat,i<m→1≤cn (i:Int) l)→m≤fl (m:Int) l
 |0,_=>Nat.zero_le _
 |m+1,h=>by
  have:=Ub m fun i a=>h i (by omega)
  have:=h m (by omega)
  rw [J8];omega
theorem Ua {l:List Int} {j:Nat} (a:2≤cn (j:Int) l):∀m:Nat,j<m→(∀i:Nat,i<m→1≤cn (i:Int) l)→m+1≤fl (m:Int) l
 |0,h,_=>by omega
 |m+1,h,hh=>by
  rw [J8]
  by_cases e:j=m
  ·have:=Ub m fun i b=>hh i (by omega)
   rw [← e] at this ⊢;omega
  ·have:=Ua a m (by omega) fun i b=>hh i (by omega)
   have:=hh m (by omega)
   omega
theorem Pv {i:Int}:∀{l:List Int},i ∉ l→cn i l=0
 |[],_=>rfl
 |x::l,h=>by
  simp only [cn]
  rw [Pv fun a=>h (mem_cons_of_mem _ a),if_neg fun e=>h (by rw [e];simp)]
theorem Nf (s:List Int):HC s=(decide (s.length≤4) && GR s):=by
 unfold HC
 by_cases h4:s.length≤4
 ·rw [decide_eq_true h4,Bool.and_true,Bool.true_and,Bool.eq_iff_iff]
  constructor
  ·intro c
   have d:∀i:Nat,i<s.length→1≤cn (i:Int) s:=fun i a=>OG (by simpa using IA.1 c i a)
   refine Sr fun i a=> ?_
   have h:=d i a
   by_cases e:2≤cn (i:Int) s
   ·have:=Ua e s.length a d
    have:=Si (s.length:Int) s
    omega
   ·omega
  ·intro f
   refine IA.2 fun j g=> ?_
   have:=Rz f h4 g
   cases c:s.contains (j:Int) with
   |true=>rfl
   |false=>
    exfalso
    have b:(j:Int) ∉ s:=by simpa using c
    have k:cn (j:Int) s=0:=Pv b
    omega
 ·rw [decide_eq_false h4];simp
theorem Tu:∀k:BitVec 8,((decide (k=1#8)||decide (k=2#8)||decide (k=10#8)||decide (k=11#8))||(match DI k with
  |some [_,_,c,d,e,f]=>decide (f=0) && (decide (k=8#8)||decide (e=0)) && (decide (k=6#8)||decide (k=8#8)||decide (k=9#8)||decide (k=12#8)||decide (k=13#8)||(decide (c=0) && decide (d=0)))
  |_=>true))=true:=by decide+kernel
theorem Qg {k:BitVec 8} {i s:List Int} {n p:Int} (h:DI k=none):CU k i s n p=false:=by unfold CU;rw [h]
theorem QK (k:BitVec 8):(DI k=none∧SW k=(0,0,false))∨∃a b c d e f,DI k=some [a,b,c,d,e,f]∧SW k=(a,b,true):=by
 cases h:DI k with
 |none=>exact .inl ⟨rfl,by unfold SW;rw [h]⟩
 |some r=>
  have:=(LN h).2.2
  obtain ⟨a,b,c,d,e,f,rfl⟩:=Rn this
  exact .inr ⟨a,b,c,d,e,f,rfl,by unfold SW;rw [h]⟩
theorem Ti (x:N5) (W:World) (T:N5.at W x):AK prog 232 [x.v] W (fun r V=>r= .bool (CU x.k x.i x.s x.n x.p)∧Below W.heap.size W V):=by
 have m:=Below.refl W.heap.size W
 have l:=T.i
 have k:=T.s
 refine Az (n:=112) func232 O<|Ad<|Cr (cs:=x.cells) O O O ?_
 rintro X w U o j -
 have m:=m.bs j
 have l:=l.bs j
 have k:=k.bs j
 refine Ab O<|Be<|Ba underlying79 O (EA _)<|Aa (Al (ED _) O ‹_› rfl) O ?_
 refine Ai O O (SZ x.k _) ?_
 rintro _ w ⟨rfl,j⟩
 have m:=m.bs j
 have l:=l.bs j
 have k:=k.bs j
 have o:=o.bs j
 rcases QK x.k with ⟨u,p⟩|⟨a,b,c,d,e,f,u,p⟩
 ·rw [p]
  exact Ac rfl<|Aa (Bt (i:=0) rfl rfl) rfl<|Aa (Bt (i:=1) rfl rfl) rfl<|Aa (Bt (i:=2) rfl rfl) rfl<|Ab rfl<|Ab rfl<|Ab rfl<|Bi<|Ac rfl<|Aa (Co rfl) rfl<|Ac rfl<|Cm 15 (v' := .bool true) rfl (cngA Value.bool (rfl))<|Ae (dj:=15) rfl rfl rfl rfl<|Ae (dj:=15) rfl rfl rfl rfl<|Ae (dj:=15) rfl rfl rfl rfl<|Ae (dj:=15) rfl rfl rfl rfl<|Ae (dj:=15) rfl rfl rfl rfl<|Ae (dj:=15) rfl rfl rfl rfl<|Ae (dj:=15) rfl rfl rfl rfl<|B7 rfl<|Ak<|Ca rfl<|Ad<|Ab rfl<|B2<|As rfl rfl<|⟨by rw [Qg u],m⟩
 rw [p]
 refine Ac O<|Aa (Bt (i:=0) O O) O<|Aa (Bt (i:=1) O O) O<|Aa (Bt (i:=2) O O) O<|Ab O<|Ab O<|Ab O<|Bi<|Ac O<|Aa (Co O) O<|Ac O<|Cm 15 (v' := .bool false) O (cngA Value.bool (rfl))<|Ag (dj:=15) O O<|Ba underlying79 O (AT _)<|Ag (dj:=15) O O<|Aa (Al (AN _) O ‹_› rfl) O ?_
 refine Ag (dj:=15) O O<|Aa (Ap AE O ‹_›) O ?_
 refine Ag (dj:=15) O O<|Ac O<|Ag (dj:=15) O O<|Ac O<|Ag (dj:=15) O O<|Ai O O (EO (x.i.length:Int) a b w) ?_
 rintro _ w ⟨rfl,j⟩
 have m:=m.bs j
 have l:=l.bs j
 have k:=k.bs j
 have o:=o.bs j
 refine Ag (dj:=15) O O<|Aa (Co O) O<|Ci O<|Ak<|Aq O ?_ ?_
 ·intro q
  refine Ad<|Ab O<|B2<|As O O ?_
  have q:¬(a≤(x.i.length:Int)∧(x.i.length:Int)≤b):=by simp at q;omega
  exact ⟨by rw [RL u q],m⟩
 intro q
 have q:a≤(x.i.length:Int)∧(x.i.length:Int)≤b:=by simp at q;omega
 obtain ⟨B,z⟩:=q
 clear p
 refine Bw<|Ao<|Ad<|Ba underlying79 O (EA _)<|Aa (Al (ED _) O ‹_› rfl) O ?_
 refine Ak<|An<|Ao<|Ad<|Aa (Ch O (show _=some (b8 (1#8)) from rfl)) O<|Ab O<|Ak<|Aq O ?_ ?_
 ·intro q
  have g:x.k=1#8:=AC q
  refine Bw<|Bu O true (q)<|Ad<|Ba underlying79 O (AT _)<|Aa (Al (AN _) O ‹_› rfl) O ?_
  have v:CU x.k x.i x.s x.n x.p=(Shapes.ok x.s && decide (x.n=0) && decide (x.p=0)):=by
   have p:=u
   rw [g,T2] at p
   cases p
   rw [Ht u B z,Bool.eq_iff_iff]
   show ((decide _ && Shapes.ok x.s)=true)↔_
   simp only [Bool.and_eq_true,decide_eq_true_eq]
   constructor
   ·rintro ⟨s,t⟩;exact ⟨⟨t,by omega⟩,by omega⟩
   ·rintro ⟨⟨s,t⟩,C⟩;exact ⟨by omega,s⟩
  rw [v]
  refine Ai O O (DA x.y x.s _ k) ?_
  rintro _ w ⟨rfl,j⟩
  have m:=m.bs j
  have l:=l.bs j
  have k:=k.bs j
  have o:=o.bs j
  refine Ac O ?_
  refine Cc 33 O ?_ ?_
  ·intro s
   refine Ag (dj:=33) O O<|Ba underlying79 O (BC _)<|Ag (dj:=33) O O<|Aa (Al (AO _) O ‹_› rfl) O ?_
   refine Ag (dj:=33) O O<|Aa (C6 O O) O<|B7 O<|Ac O ?_
   refine Cc 38 O ?_ ?_
   ·intro t
    refine Ag (dj:=38) O O<|Ba underlying79 O (BC _)<|Ag (dj:=38) O O<|Aa (Al (AO _) O ‹_› rfl) O ?_
    refine Ag (dj:=38) O O<|Aa (C6 O O) O<|B7 O<|Ab O<|Ay<|Bj<|Av<|As O O ?_
    rw [s,t]
    exact ⟨rfl,m⟩
   intro t
   refine Ae (dj:=38) O O O O<|Ae (dj:=38) O O O O<|Ae (dj:=38) O O O O<|Ci O<|Ab O<|Ay<|Bj<|Av<|As O O ?_
   rw [s,t]
   exact ⟨rfl,m⟩
  intro s
  refine Ae (dj:=33) O O O O<|Ae (dj:=33) O O O O<|Ae (dj:=33) O O O O<|Ci O<|Ac O<|Ae (dj:=38) O O O O<|Ae (dj:=38) O O O O<|Ae (dj:=38) O O O O<|Ci O<|Ab O<|Ay<|Bj<|Av<|As O O ?_
  rw [s]
  exact ⟨rfl,m⟩
 intro s
 refine Ad<|Aa (Ch O (show _=some (b8 (2#8)) from rfl)) O<|Ab O<|Ak<|Aq O ?_ ?_
 ·intro q
  have g:x.k=2#8:=AC q
  refine Bw<|Bu O true (q)<|Ad<|Ba underlying79 O (AT _)<|Aa (Al (AN _) O ‹_› rfl) O ?_
  have v:CU x.k x.i x.s x.n x.p=(Shapes.ok x.s && decide (x.n=0) && decide (x.p=0)):=by
   have p:=u
   rw [g,T1] at p
   cases p
   rw [Ht u B z,Bool.eq_iff_iff]
   show ((decide _ && Shapes.ok x.s)=true)↔_
   simp only [Bool.and_eq_true,decide_eq_true_eq]
   constructor
   ·rintro ⟨s,t⟩;exact ⟨⟨t,by omega⟩,by omega⟩
   ·rintro ⟨⟨s,t⟩,C⟩;exact ⟨by omega,s⟩
  rw [v]
  refine Ai O O (DA x.y x.s _ k) ?_
  rintro _ w ⟨rfl,j⟩
  have m:=m.bs j
  have l:=l.bs j
  have k:=k.bs j
  have o:=o.bs j
  refine Ac O ?_
  refine Cc 33 O ?_ ?_
  ·intro s
   refine Ag (dj:=33) O O<|Ba underlying79 O (BC _)<|Ag (dj:=33) O O<|Aa (Al (AO _) O ‹_› rfl) O ?_
   refine Ag (dj:=33) O O<|Aa (C6 O O) O<|B7 O<|Ac O ?_
   refine Cc 38 O ?_ ?_
   ·intro t
    refine Ag (dj:=38) O O<|Ba underlying79 O (BC _)<|Ag (dj:=38) O O<|Aa (Al (AO _) O ‹_› rfl) O ?_
    refine Ag (dj:=38) O O<|Aa (C6 O O) O<|B7 O<|Ab O<|Ay<|Bj<|Av<|As O O ?_
    rw [s,t]
    exact ⟨rfl,m⟩
   intro t
   refine Ae (dj:=38) O O O O<|Ae (dj:=38) O O O O<|Ae (dj:=38) O O O O<|Ci O<|Ab O<|Ay<|Bj<|Av<|As O O ?_
   rw [s,t]
   exact ⟨rfl,m⟩
  intro s
  refine Ae (dj:=33) O O O O<|Ae (dj:=33) O O O O<|Ae (dj:=33) O O O O<|Ci O<|Ac O<|Ae (dj:=38) O O O O<|Ae (dj:=38) O O O O<|Ae (dj:=38) O O O O<|Ci O<|Ab O<|Ay<|Bj<|Av<|As O O ?_
  rw [s]
  exact ⟨rfl,m⟩
 intro t
 refine Bn<|Aa (Ch O (show _=some (b8 (10#8)) from rfl)) O<|Ab O<|Ak<|Aq O ?_ ?_
 ·intro q
  have g:x.k=10#8:=AC q
  have v:CU x.k x.i x.s x.n x.p=(Shapes.ok x.s && decide (x.n=0) && decide (x.p=0)):=by
   have p:=u
   rw [g,Lj] at p
   cases p
   rw [Ht u B z,Bool.eq_iff_iff]
   show ((decide _ && Shapes.ok x.s)=true)↔_
   simp only [Bool.and_eq_true,decide_eq_true_eq]
   constructor
   ·rintro ⟨s,t⟩;exact ⟨⟨t,by omega⟩,by omega⟩
   ·rintro ⟨⟨s,t⟩,C⟩;exact ⟨by omega,s⟩
  rw [v]
  refine Ad<|Ba underlying79 O (AT _)<|Aa (Al (AN _) O ‹_› rfl) O ?_
  refine Ai O O (DA x.y x.s _ k) ?_
  rintro _ w ⟨rfl,j⟩
  have m:=m.bs j
  have l:=l.bs j
  have k:=k.bs j
  have o:=o.bs j
  refine Ac O ?_
  refine Cc 33 O ?_ ?_
  ·intro s
   refine Ag (dj:=33) O O<|Ba underlying79 O (BC _)<|Ag (dj:=33) O O<|Aa (Al (AO _) O ‹_› rfl) O ?_
   refine Ag (dj:=33) O O<|Aa (C6 O O) O<|B7 O<|Ac O ?_
   refine Cc 38 O ?_ ?_
   ·intro t
    refine Ag (dj:=38) O O<|Ba underlying79 O (BC _)<|Ag (dj:=38) O O<|Aa (Al (AO _) O ‹_› rfl) O ?_
    refine Ag (dj:=38) O O<|Aa (C6 O O) O<|B7 O<|Ab O<|Ay<|Bj<|Av<|As O O ?_
    rw [s,t]
    exact ⟨rfl,m⟩
   intro t
   refine Ae (dj:=38) O O O O<|Ae (dj:=38) O O O O<|Ae (dj:=38) O O O O<|Ci O<|Ab O<|Ay<|Bj<|Av<|As O O ?_
   rw [s,t]
   exact ⟨rfl,m⟩
  intro s
  refine Ae (dj:=33) O O O O<|Ae (dj:=33) O O O O<|Ae (dj:=33) O O O O<|Ci O<|Ac O<|Ae (dj:=38) O O O O<|Ae (dj:=38) O O O O<|Ae (dj:=38) O O O O<|Ci O<|Ab O<|Ay<|Bj<|Av<|As O O ?_
  rw [s]
  exact ⟨rfl,m⟩
 intro E
 refine Ad<|Aa (Ch O (show _=some (b8 (11#8)) from rfl)) O<|Ab O<|Ak<|Aq O ?_ ?_
 ·intro q
  have g:x.k=11#8:=AC q
  have v:CU x.k x.i x.s x.n x.p=(decide (x.s.length≤4) && GR x.s && decide (x.n=0) && decide (x.p=0)):=by
   have p:=u
   rw [g,Li] at p
   cases p
   rw [Ht u B z,Bool.eq_iff_iff]
   show ((decide _ && HC x.s)=true)↔_
   rw [Nf]
   simp only [Bool.and_eq_true,decide_eq_true_eq]
   constructor
   ·rintro ⟨s,t,C⟩;exact ⟨⟨⟨t,C⟩,by omega⟩,by omega⟩
   ·rintro ⟨⟨⟨s,t⟩,C⟩,H⟩;exact ⟨by omega,s,t⟩
  rw [v]
  refine Ad<|Ba underlying79 O (AT _)<|Aa (Al (AN _) O ‹_› rfl) O ?_
  refine Aa (Ap AE O ‹_›) O ?_
  refine Aa (Dy O O) O<|Ac O ?_
  refine Cc 49 O ?_ ?_
  ·intro H
   have G:x.s.length≤4:=by have:=AC H;omega
   refine Ag (dj:=49) O O<|Ba underlying79 O (AT _)<|Ag (dj:=49) O O<|Aa (Al (AN _) O ‹_› rfl) O ?_
   refine Ag (dj:=49) O O<|Ba underlying79 O (AT _)<|Ag (dj:=49) O O<|Aa (Al (AN _) O ‹_› rfl) O ?_
   refine Ag (dj:=49) O O<|Aa (Ap AE O ‹_›) O ?_
   refine Ag (dj:=49) O O<|Ai O O (Rr x.y x.s x.s.length _ k G) ?_
   rintro _ w ⟨rfl,j⟩
   have m:=m.bs j
   have l:=l.bs j
   have k:=k.bs j
   have o:=o.bs j
   rw [decide_eq_true (show x.s.length=x.s.length from rfl),Bool.true_and,decide_eq_true G]
   refine B7 O<|Ac O ?_
   refine Cc 57 O ?_ ?_
   ·intro F
    refine Ag (dj:=57) O O<|Ba underlying79 O (BC _)<|Ag (dj:=57) O O<|Aa (Al (AO _) O ‹_› rfl) O ?_
    refine Ag (dj:=57) O O<|Aa (C6 O O) O<|B7 O<|Ac O ?_
    refine Cc 62 O ?_ ?_
    ·intro A
     refine Ag (dj:=62) O O<|Ba underlying79 O (BC _)<|Ag (dj:=62) O O<|Aa (Al (AO _) O ‹_› rfl) O ?_
     refine Ag (dj:=62) O O<|Aa (C6 O O) O<|B7 O<|Ab O<|Ay<|Bj<|Av<|As O O ?_
     rw [F,A]
     exact ⟨rfl,m⟩
    intro A
    refine Ae (dj:=62) O O O O<|Ae (dj:=62) O O O O<|Ae (dj:=62) O O O O<|Ci O<|Ab O<|Ay<|Bj<|Av<|As O O ?_
    rw [F,A]
    exact ⟨rfl,m⟩
   intro F
   refine Ae (dj:=57) O O O O<|Ae (dj:=57) O O O O<|Ae (dj:=57) O O O O<|Ci O<|Ac O<|Ae (dj:=62) O O O O<|Ae (dj:=62) O O O O<|Ae (dj:=62) O O O O<|Ci O<|Ab O<|Ay<|Bj<|Av<|As O O ?_
   rw [F]
   exact ⟨rfl,m⟩
  intro H
  have G:¬x.s.length≤4:=by have:=AD H;omega
  refine Ae (dj:=49) O O O O<|Ae (dj:=49) O O O O<|Ae (dj:=49) O O O O<|Ae (dj:=49) O O O O<|Ae (dj:=49) O O O O<|Ae (dj:=49) O O O O<|Ci O<|Ac O<|Ae (dj:=57) O O O O<|Ae (dj:=57) O O O O<|Ae (dj:=57) O O O O<|Ci O<|Ac O<|Ae (dj:=62) O O O O<|Ae (dj:=62) O O O O<|Ae (dj:=62) O O O O<|Ci O<|Ab O<|Ay<|Bj<|Av<|As O O ?_
  rw [decide_eq_false G]
  exact ⟨rfl,m⟩
 intro D
 have N:=Tu x.k
 rw [s,t,E,D,u] at N
 simp only [Bool.or_false,Bool.false_or,Bool.and_eq_true,Bool.or_eq_true,decide_eq_true_eq] at N
 obtain ⟨⟨R,Z⟩,Y⟩:=N
 have K:CU x.k x.i x.s x.n x.p=(decide (c≤x.n∧x.n≤d∧0≤x.p∧x.p≤e) && decide (x.s.length=0)):=by
  rw [Ht u B z,R];rfl
 clear s t E D R
 refine Cj<|Bg<|Ar<|B9<|Ao<|Ad<|Ba underlying79 O (AT _)<|Aa (Al (AN _) O ‹_› rfl) O ?_
 refine Aa (Ap AE O ‹_›) O ?_
 refine Aa (Dh O O) O<|Ac O ?_
 refine Cc 71 O ?_ ?_
 ·intro q
  have q:¬x.s.length=0:=by have:=AC q;omega
  exact Ae (dj:=71) rfl rfl rfl rfl<|Ae (dj:=71) rfl rfl rfl rfl<|Ae (dj:=71) rfl rfl rfl rfl<|Ae (dj:=71) rfl rfl rfl rfl<|Ft (dj:=75) rfl rfl rfl<|Ft (dj:=75) rfl rfl rfl<|Ft (dj:=75) rfl rfl rfl<|Ae (dj:=71) rfl rfl rfl rfl<|B7 rfl<|Ak<|Ca rfl<|Ad<|Ab rfl<|B2<|As rfl rfl<|⟨by rw [K,decide_eq_false q,Bool.and_false],m⟩
 intro q
 have l0:x.s.length=0:=by have:=AD q;omega
 refine Ag (dj:=71) O O<|Ba underlying79 O (EA _)<|Ag (dj:=71) O O<|Aa (Al (ED _) O ‹_› rfl) O ?_
 refine Ag (dj:=71) O O<|Aa (Fh O (show _=some (b8 (8#8)) from rfl)) O<|Ag (dj:=71) O O<|Ac O ?_
 refine Cc 75 O ?_ ?_
 ·intro Q
  have I:¬x.k=8#8:=by simpa using Q
  have e0:e=0:=Z.resolve_left I
  refine Ag (dj:=75) O O<|Ba underlying79 O (BC _)<|Ag (dj:=75) O O<|Aa (Al (AO _) O ‹_› rfl) O ?_
  refine Ag (dj:=75) O O<|Aa (Ct O O) O<|Ag (dj:=71) O O<|B7 O<|Ci O<|Ak<|Aq O ?_ ?_
  ·intro q
   have p0:¬x.p=0:=by simpa using q
   exact Ad<|Ab rfl<|B2<|As rfl rfl<|⟨by rw [K,decide_eq_false (show ¬(c≤x.n∧x.n≤d∧0≤x.p∧x.p≤e) by omega),Bool.false_and],m⟩
  intro q
  have p0:x.p=0:=by simpa using q
  refine Bw<|Ao<|Ad<|Ba underlying79 O (EA _)<|Aa (Al (ED _) O ‹_› rfl) O ?_
  refine Ak<|An<|Ad<|Aa (Ch O (show _=some (b8 (6#8)) from rfl)) O<|Ab O<|Ak<|Aq O ?_ ?_
  ·intro q
   have g:x.k=6#8:=AC q
   have p:=u
   rw [g,Tx] at p
   cases p
   refine Ad<|Ba underlying79 O (BC _)<|Aa (Al (AO _) O ‹_› rfl) O ?_
   refine Ai O O (EO x.n 0 31 _) ?_
   rintro _ w ⟨rfl,j⟩
   have m:=m.bs j
   have l:=l.bs j
   have k:=k.bs j
   have o:=o.bs j
   refine Ab O<|Ay<|Bj<|Av<|As O O ?_
   refine ⟨cngA Value.bool ?_,m⟩
   rw [K,Bool.eq_iff_iff]
   simp only [Bool.and_eq_true,decide_eq_true_eq]
   omega
  intro A
  refine Ad<|Aa (Ch O (show _=some (b8 (8#8)) from rfl)) O<|Ab O<|Ak<|Bu O false ((decide_eq_false I))<|Ad<|Aa (Ch O (show _=some (b8 (9#8)) from rfl)) O<|Ab O<|Ak<|Aq O ?_ ?_
  ·intro q
   have g:x.k=9#8:=AC q
   have p:=u
   rw [g,Tv] at p
   cases p
   refine Ad<|Ba underlying79 O (BC _)<|Aa (Al (AO _) O ‹_› rfl) O ?_
   refine Ai O O (EO x.n 1 64 _) ?_
   rintro _ w ⟨rfl,j⟩
   have m:=m.bs j
   have l:=l.bs j
   have k:=k.bs j
   have o:=o.bs j
   refine Ab O<|Ay<|Bj<|Av<|As O O ?_
   refine ⟨cngA Value.bool ?_,m⟩
   rw [K,Bool.eq_iff_iff]
   simp only [Bool.and_eq_true,decide_eq_true_eq]
   omega
  intro y
  refine Ao<|Ad<|Aa (Ch O (show _=some (b8 (12#8)) from rfl)) O<|Ab O<|Ak<|Aq O ?_ ?_
  ·intro S
   have g:x.k=12#8:=AC S
   have p:=u
   rw [g,MQ] at p
   cases p
   refine Bw<|Bu O true (S)<|Ad<|Ba underlying79 O (BC _)<|Aa (Al (AO _) O ‹_› rfl) O ?_
   refine Ai O O (EO x.n 0 3 _) ?_
   rintro _ w ⟨rfl,j⟩
   have m:=m.bs j
   have l:=l.bs j
   have k:=k.bs j
   have o:=o.bs j
   refine Ab O<|Ay<|Bj<|Av<|As O O ?_
   refine ⟨cngA Value.bool ?_,m⟩
   rw [K,Bool.eq_iff_iff]
   simp only [Bool.and_eq_true,decide_eq_true_eq]
   omega
  intro M
  refine Bn<|Aa (Ch O (show _=some (b8 (13#8)) from rfl)) O<|Ab O<|Ak<|Aq O ?_ ?_
  ·intro q
   have g:x.k=13#8:=AC q
   have p:=u
   rw [g,Lh] at p
   cases p
   refine Ad<|Ba underlying79 O (BC _)<|Aa (Al (AO _) O ‹_› rfl) O ?_
   refine Ai O O (EO x.n 0 3 _) ?_
   rintro _ w ⟨rfl,j⟩
   have m:=m.bs j
   have l:=l.bs j
   have k:=k.bs j
   have o:=o.bs j
   refine Ab O<|Ay<|Bj<|Av<|As O O ?_
   refine ⟨cngA Value.bool ?_,m⟩
   rw [K,Bool.eq_iff_iff]
   simp only [Bool.and_eq_true,decide_eq_true_eq]
   omega
  intro L
  have cd0:c=0∧d=0:=by
   rcases Y with ((((h|h)|h)|h)|h)|h
   ·exact absurd (decide_eq_true h) (by rw [A];decide)
   ·exact absurd h I
   ·exact absurd (decide_eq_true h) (by rw [y];decide)
   ·exact absurd (decide_eq_true h) (by rw [M];decide)
   ·exact absurd (decide_eq_true h) (by rw [L];decide)
   ·exact h
  refine Cj<|Bg<|Cb<|Ba underlying79 O (BC _)<|Aa (Al (AO _) O ‹_› rfl) O ?_
  refine Aa (C6 O O) O<|Ab O<|Ay<|As O O ?_
  refine ⟨cngA Value.bool ?_,m⟩
  rw [K,Bool.eq_iff_iff]
  simp only [Bool.and_eq_true,decide_eq_true_eq]
  omega
 intro Q
 have g:x.k=8#8:=by simpa using Q
 have p:=u
 rw [g,RM] at p
 cases p
 refine Ae (dj:=75) O O O O<|Ae (dj:=75) O O O O<|Ae (dj:=75) O O O O<|Ag (dj:=71) O O<|Ci O<|Ci O<|Ak<|D5 O<|Bw<|Ao<|Ad<|Ba underlying79 O (EA _)<|Aa (Al (ED _) O ‹_› rfl) O ?_
 refine Ak<|An<|Ad<|Aa (Ch O (show _=some (b8 (6#8)) from rfl)) O<|Ab O<|Ak<|Bu O false ((by rw [g];rfl))<|Ad<|Aa (Ch O (show _=some (b8 (8#8)) from rfl)) O<|Ab O<|Ak<|Bu O true ((by rw [g];rfl))<|Ad<|Ba underlying79 O (BC _)<|Aa (Al (AO _) O ‹_› rfl) O ?_
 refine Ai O O (EO x.n 1 8 _) ?_
 rintro _ w ⟨rfl,j⟩
 have m:=m.bs j
 have l:=l.bs j
 have k:=k.bs j
 have o:=o.bs j
 refine Ac O ?_
 refine Cc 93 O ?_ ?_
 ·intro y
  refine Ag (dj:=93) O O<|Ba underlying79 O (BC _)<|Ag (dj:=93) O O<|Aa (Al (AO _) O ‹_› rfl) O ?_
  refine Ag (dj:=93) O O<|Ai O O (EO x.p 0 8 _) ?_
  rintro _ w ⟨rfl,j⟩
  have m:=m.bs j
  have l:=l.bs j
  have k:=k.bs j
  have o:=o.bs j
  refine B7 O<|Ab O<|Ay<|Bj<|Av<|As O O ?_
  have J:1≤x.n∧x.n≤8:=by simpa using y
  refine ⟨cngA Value.bool ?_,m⟩
  rw [K,Bool.eq_iff_iff]
  simp only [Bool.and_eq_true,decide_eq_true_eq]
  omega
 intro y
 have J:¬(1≤x.n∧x.n≤8):=by simp at y;omega
 exact Ae (dj:=93) rfl rfl rfl rfl<|Ae (dj:=93) rfl rfl rfl rfl<|Ae (dj:=93) rfl rfl rfl rfl<|Ci rfl<|Ab rfl<|Ay<|Bj<|Av<|As rfl rfl<|⟨by rw [K,decide_eq_false (show ¬(1≤x.n∧x.n≤8∧0≤x.p∧x.p≤8) by omega),Bool.false_and],m⟩

theorem PE (u v:Value) (a b:List Int) (W:World) (j:BO (Value.int .i64) W u a) (i:BO (Value.int .i64) W v b):
  AK prog 259 [u,v] W (fun r o=>Below W.heap.size W o∧V4 W o r a b):=by
 have f:=Below.refl W.heap.size W
 refine Az (n:=38) func259 O<|Ad<|Ab O<|Ab O<|Bi<|Ac O<|Ai O O (DA u a _ j) ?_
 rintro _ w ⟨rfl,k⟩
 have f:=f.bs k
 have j:=j.bs k
 have i:=i.bs k
 refine Aa (Co O) O<|Ac O ?_
 refine Cc 9 O ?_ ?_
 ·intro g
  have e:=J3 (a:=a) (b:=b) (.inl (by simpa using g))
  refine Ae (dj:=9) O O O O<|Ae (dj:=9) O O O O<|Ae (dj:=9) O O O O<|B7 O<|Ak<|Ca O<|Ad<|Ab O<|Ab O<|B2<|Bx O O O ?_
  exact ⟨f,_,by rw [e],fun _=>rfl,fun h=>by rw [e] at h;cases h⟩
 intro g
 have l:Shapes.ok a=true:=by simpa using g
 refine Ag (dj:=9) O O<|Ac O<|Ag (dj:=9) O O<|Ai O O (DA v b _ i) ?_
 rintro _ w ⟨rfl,k⟩
 have f:=f.bs k
 have j:=j.bs k
 have i:=i.bs k
 refine Ag (dj:=9) O O<|Aa (Co O) O<|Ci O<|Ak<|Aq O ?_ ?_
 ·intro g
  have e:=J3 (a:=a) (b:=b) (.inr (by simpa using g))
  refine Ad<|Ab O<|Ab O<|B2<|Bx O O O ?_
  exact ⟨f,_,by rw [e],fun _=>rfl,fun h=>by rw [e] at h;cases h⟩
 intro g
 have m:Shapes.ok b=true:=by simpa using g
 refine Bw<|Ao<|Ao<|Da BB (by kernel_rfl)<|Bq O<|Ah (fun d c=>Ap AE O (Sl.bs ‹_› c)) O ?_
 refine Ah (fun d c=>Ct O O) O<|Bq O ?_
 refine Dj 17 O ?_ ?_
 ·intro g
  have e:Gy a b=10:=GP l m fun h=>by simp [h.1] at g
  refine Au (dj:=17) O O O O<|Au (dj:=17) O O O O<|Au (dj:=17) O O O O<|Ah (fun d c=>C3 O O) O<|Bq O<|Au (dj:=22) O O O O<|Au (dj:=22) O O O O<|Au (dj:=22) O O O O<|Au (dj:=22) O O O O<|Au (dj:=22) O O O O<|Au (dj:=22) O O O O<|Au (dj:=22) O O O O<|Ah (fun d c=>C3 O O) O ?_
  refine C2 (fun p c=> ?_)
  refine Ar<|B9<|Ca O<|Ad<|Ab O<|Ab O<|B2<|Bx O O O ?_
  exact ⟨bt f c,_,by rw [e],fun _=>rfl,fun h=>by rw [e] at h;cases h⟩
 intro g
 have s:a.length=2:=by simp at g;omega
 refine Bb (dj:=17) O O<|Bq O<|Bb (dj:=17) O O<|Ah (fun d c=>Ap AE O (Sl.bs ‹_› c)) O ?_
 refine Bb (dj:=17) O O<|Ah (fun d c=>Ct O O) O<|Ah (fun d c=>C0 O O) O<|Bq O ?_
 refine Dj 22 O ?_ ?_
 ·intro g
  have e:Gy a b=10:=GP l m fun h=>by simp [h.2.1] at g
  refine Au (dj:=22) O O O O<|Au (dj:=22) O O O O<|Au (dj:=22) O O O O<|Au (dj:=22) O O O O<|Au (dj:=22) O O O O<|Au (dj:=22) O O O O<|Au (dj:=22) O O O O<|Ah (fun d c=>C3 O O) O ?_
  refine C2 (fun p c=> ?_)
  refine Ar<|B9<|Ca O<|Ad<|Ab O<|Ab O<|B2<|Bx O O O ?_
  exact ⟨bt f c,_,by rw [e],fun _=>rfl,fun h=>by rw [e] at h;cases h⟩
 intro g
 have lb:b.length=2:=by simp at g;omega
 refine Bb (dj:=22) O O<|Bq O<|Bb (dj:=22) O O<|Ah (fun d c=>Bh AE O O (Sl.bs ‹_› c) 1 O (by omega)) O ?_
 refine Bb (dj:=22) O O<|Ah (fun d c=>Bo (AO _) O (Sl.bs ‹_› c) (by omega)) O ?_
 refine Bb (dj:=22) O O<|Bq O<|Bb (dj:=22) O O<|Ah (fun d c=>Bh AE O O (Sl.bs ‹_› c) 0 O (by omega)) O ?_
 refine Bb (dj:=22) O O<|Ah (fun d c=>Bo (AO _) O (Sl.bs ‹_› c) (by omega)) O ?_
 refine Bb (dj:=22) O O<|Ah (fun d c=>Ct O O) O<|Ah (fun d c=>C0 O O) O ?_
 refine C2 (fun p c=> ?_)
 refine Ar<|B9<|Aq O ?_ ?_
 ·intro g
  have e:Gy a b=10:=GP l m fun h=>by simp at g;exact g (by simpa using h.2.2)
  refine Ad<|Ab O<|Ab O<|B2<|Bx O O O ?_
  exact ⟨bt f c,_,by rw [e],fun _=>rfl,fun h=>by rw [e] at h;cases h⟩
 intro g
 have e:Gy a b=0:=M5 l m ⟨s,lb,by simpa using g⟩
 have f:=f.bs c
 have j:=j.bs c
 have i:=i.bs c
 clear c
 refine Bw<|Ao<|Cw.tail 6 BB (by kernel_rfl)<|Bq O<|Ah (fun d c=>Bh AE O O (Sl.bs ‹_› c) 0 O (by omega)) O ?_
 refine Ah (fun d c=>Bo (AO _) O (Sl.bs ‹_› c) (by omega)) O ?_
 refine Bq O<|Ah (fun d c=>Bh AE O O (Sl.bs ‹_› c) 1 O (by omega)) O ?_
 refine Ah (fun d c=>Bo (AO _) O (Sl.bs ‹_› c) (by omega)) O ?_
 refine D0 (fun y c=> ?_)
 have f:=f.bs c
 have j:=j.bs c
 have i:=i.bs c
 refine Bc (Cv (vs:=[a.getD 0 default,b.getD 1 default].map (Value.int .i64)) AE DO O O O O O) O ?_
 rintro x t ⟨q, -,k, -⟩
 have z:=f.size
 have f:=f.bs k
 have j:=j.bs k
 have i:=i.bs k
 exact Ab rfl<|Ab rfl<|Ay<|Bx rfl rfl rfl<|⟨f,x,by rw [e],fun h=>absurd e h,fun _=>BY q z⟩
end Go.Proofs.YtblbopcaflaldaaGreatDoor

namespace Go.Proofs.YtblbopcaflaldaaGreatDoor
open Go Go.Dd Go.RowKit List
set_option maxRecDepth 100000
theorem Vs {s:List Int} (h:s.length=3):s=[s.getD 0 default,s.getD 1 default,s.getD 2 default]:=by
 match s,h with
 |[a,b,c],_=>rfl
theorem TX {s:List Int} (h:s.length=3):Shapes.prod s=s.getD 0 default*(s.getD 1 default*s.getD 2 default):=by
 rw [Vs h];simp [Shapes.prod]

structure UU (t:T4) (wide:Int):Prop where
 lt:t.s.length=3
 w:1≤wide∧wide≤64
 w1:wide≤t.s.getD 1 default
 w2:wide≤t.s.getD 2 default
 gt:Shapes.good t.s
 tl:(t.l.length:Int)=t.s.getD 0 default*(t.s.getD 1 default*t.s.getD 2 default)
 ok:Shapes.ok (HR t.s wide)=true
 s1:He (t.s.getD 1 default) wide wide=t.s.getD 1 default / wide
 s2:He (t.s.getD 2 default) wide wide=t.s.getD 2 default / wide
theorem Hz {r w:Int} (d:1≤w) (c:w≤r):He r w w=r / w∧1≤r / w∧r / w≤r∧r / w*w≤r:=by
 have e:(r - w) / w=r / w - 1:=by
  have:=Int.add_mul_ediv_right (r - w) 1 (show w≠0 by omega)
  rw [Int.one_mul,Int.sub_add_cancel] at this
  omega
 have a:He r w w=r / w:=by unfold He;rw [if_neg (by omega),e];omega
 have b:=Int.ediv_nonneg (show 0≤r - w by omega) (show 0≤w by omega)
 exact ⟨a,by omega,Int.ediv_le_self _ (by omega),Int.ediv_mul_le _ (by omega)⟩
theorem Tm {t:T4} {a:Int} (p:L1 t.s t.l=true) (e:CK t.s a=0):UU t a:=by
 obtain ⟨j,v⟩:=NB p
 have T:=(Shapes.ok_iff t.s).1 j
 have c:GQ t.s a=false:=by cases h:GQ t.s a<;>simp [CK,h] at e ⊢
 have i:Hp t.s a=true:=by cases h:Hp t.s a<;>simp [CK,c,h] at e ⊢
 simp only [Hp,Bool.and_eq_true,decide_eq_true_eq] at i
 obtain ⟨⟨lt,g⟩,m⟩:=i
 simp only [GQ,Bool.or_eq_false_iff,decide_eq_false_iff_not] at c
 obtain ⟨⟨-,C⟩,D⟩:=c
 have z:=CM T.2.1 (k:=0) (by omega)
 have B:=CM T.2.1 (k:=1) (by omega)
 have x:=CM T.2.1 (k:=2) (by omega)
 obtain ⟨d,A,s, -⟩:=Hz (r:=t.s.getD 1 default) (w:=a) (by omega) g
 obtain ⟨b,u,o, -⟩:=Hz (r:=t.s.getD 2 default) (w:=a) (by omega) m
 have n:=TX lt
 have l:(HR t.s a).length=3:=rfl
 have ps:Shapes.prod (HR t.s a)=t.s.getD 0 default*(t.s.getD 1 default / a*(t.s.getD 2 default / a)):=by
  rw [TX l]
  show t.s.getD 0 default*(He (t.s.getD 1 default) a a*He (t.s.getD 2 default) a a)=_
  rw [d,b]
 have q:t.s.getD 1 default / a*(t.s.getD 2 default / a)≤t.s.getD 1 default*t.s.getD 2 default:=Int.mul_le_mul s o (by omega) (by omega)
 have E:t.s.getD 0 default*(t.s.getD 1 default / a*(t.s.getD 2 default / a))≤t.s.getD 0 default*(t.s.getD 1 default*t.s.getD 2 default):=Int.mul_le_mul_of_nonneg_left q (by omega)
 refine ⟨lt,by omega,g,m,T.2.1, ?_,(Shapes.ok_iff _).2 ⟨by rw [l];omega, ?_,by rw [ps];omega⟩,d,b⟩
 ·have:=Shapes.size_ok j
  rw [← n];have:=Shapes.size_le t.s;omega
 ·intro y f
  simp only [HR,mem_cons,not_mem_nil,or_false] at f
  rw [d,b] at f
  rcases f with rfl|rfl|rfl<;>omega
end Go.Proofs.YtblbopcaflaldaaGreatDoor

namespace Go.Proofs.YtblbopcaflaldaaGreatDoor
open Go Go.Dd Go.RowKit List Go.Proofs.Tryz
set_option maxRecDepth 100000
theorem Ux {t:List Int} {a:Int} (h:¬t.length=3):Hp t a=false:=by simp only [Hp,decide_eq_false h,Bool.false_and]
theorem Uw {t:List Int} {a:Int} (h:¬a≤t.getD 1 default):Hp t a=false:=by simp only [Hp,decide_eq_false h,Bool.false_and,Bool.and_false]
theorem Uv {t:List Int} {a:Int} (h:¬a≤t.getD 2 default):Hp t a=false:=by simp only [Hp,decide_eq_false h,Bool.and_false]
theorem NQ (t:List Int) (a:Int) (u:Value) (W:World) (c:BO (Value.int .i64) W u t):
  AK prog 261 [u, .int .i64 a] W (fun r v=>Below W.heap.size W v∧SL W v r (CK t a) (HR t a)):=by
 have d:=Below.refl W.heap.size W
 refine Az (n:=48) func261 O<|Ad<|Ab O<|Ab O<|Bi<|Ac O<|Ai O O (DA u t _ c) ?_
 rintro _ w ⟨rfl,i⟩
 have d:=d.bs i
 have c:=c.bs i
 refine Aa (Co O) O<|Ac O ?_
 refine Cc 9 O ?_ ?_
 ·intro q
  refine Ae (dj:=9) O O O O<|Ae (dj:=9) O O O O<|B7 O<|Ac O<|Ae (dj:=13) O O O O<|Ae (dj:=13) O O O O<|B7 O<|Ak<|Ca O<|Ad<|Ab O<|Ab O<|B2<|Bx O O O ?_
  rw [show CK t a=1 by simp [CK,show GQ t a=true by simp_all [GQ]]]
  exact ⟨d,BN (by decide)⟩
 intro q
 refine Ag (dj:=9) O O<|Ac O<|Ag (dj:=9) O O<|Bz O<|Ci O<|Ac O ?_
 refine Cc 13 O ?_ ?_
 ·intro m
  refine Ae (dj:=13) O O O O<|Ae (dj:=13) O O O O<|B7 O<|Ak<|Ca O<|Ad<|Ab O<|Ab O<|B2<|Bx O O O ?_
  rw [show CK t a=1 by simp [CK,show GQ t a=true by simp_all [GQ]]]
  exact ⟨d,BN (by decide)⟩
 intro m
 refine Ag (dj:=13) O O<|Ac O<|Ag (dj:=13) O O<|Aa (Dh O O) O<|Ci O<|Ak<|Aq O ?_ ?_
 ·intro s
  refine Ad<|Ab O<|Ab O<|B2<|Bx O O O ?_
  rw [show CK t a=1 by simp [CK,show GQ t a=true by simp_all [GQ]]]
  exact ⟨d,BN (by decide)⟩
 intro s
 have l:GQ t a=false:=by simp_all [GQ]
 have D:Shapes.ok t=true:=by simpa using q
 have e:1≤a:=by simpa using m
 have I:a≤64:=by simpa using s
 have o:=(Shapes.ok_iff t).1 D
 clear q m s
 refine Bw<|Ao<|Ad<|Ac O<|Aa (Ap AE O ‹_›) O ?_
 refine Aa (Ct O O) O<|Ac O ?_
 refine Cc 20 O ?_ ?_
 ·intro j
  have lt:¬t.length=3:=by have:=j;simp at this;omega
  refine Ae (dj:=20) O O O O<|Ae (dj:=20) O O O O<|Ae (dj:=20) O O O O<|Ae (dj:=20) O O O O<|Ae (dj:=20) O O O O<|B7 O<|Ac O<|Ae (dj:=27) O O O O<|Ae (dj:=27) O O O O<|Ae (dj:=27) O O O O<|Ae (dj:=27) O O O O<|Ae (dj:=27) O O O O<|B7 O<|Ak<|Ca O<|Ad<|Ab O<|Ab O<|B2<|Bx O O O ?_
  rw [show CK t a=10 by rw [CK,l,Ux lt];rfl]
  exact ⟨d,BN (by decide)⟩
 intro j
 have lt:t.length=3:=by have:=j;simp at this;omega
 have G:=CM o.2.1 (k:=0) (by omega)
 have H:=CM o.2.1 (k:=1) (by omega)
 have E:=CM o.2.1 (k:=2) (by omega)
 clear j
 refine Ag (dj:=20) O O<|Ac O<|Ag (dj:=20) O O<|Aa (Bh AE O O ‹_› 1 O (by omega)) O ?_
 refine Ag (dj:=20) O O<|Aa (Bo (AO _) O ‹_› (by omega)) O ?_
 refine Ag (dj:=20) O O<|Ac O<|Ag (dj:=20) O O<|Bz O<|Ci O<|Ac O ?_
 refine Cc 27 O ?_ ?_
 ·intro g
  have g:¬a≤t.getD 1 default:=by have:=AC g;omega
  refine Ae (dj:=27) O O O O<|Ae (dj:=27) O O O O<|Ae (dj:=27) O O O O<|Ae (dj:=27) O O O O<|Ae (dj:=27) O O O O<|B7 O<|Ak<|Ca O<|Ad<|Ab O<|Ab O<|B2<|Bx O O O ?_
  rw [show CK t a=10 by rw [CK,l,Uw g];rfl]
  exact ⟨d,BN (by decide)⟩
 intro g
 have g:a≤t.getD 1 default:=by have:=AD g;omega
 refine Ag (dj:=27) O O<|Ac O<|Ag (dj:=27) O O<|Aa (Bh AE O O ‹_› 2 O (by omega)) O ?_
 refine Ag (dj:=27) O O<|Aa (Bo (AO _) O ‹_› (by omega)) O ?_
 refine Ag (dj:=27) O O<|Ac O<|Ag (dj:=27) O O<|Bz O<|Ci O<|Ak<|Aq O ?_ ?_
 ·intro f
  have f:¬a≤t.getD 2 default:=by have:=AC f;omega
  refine Ad<|Ab O<|Ab O<|B2<|Bx O O O ?_
  rw [show CK t a=10 by rw [CK,l,Uv f];rfl]
  exact ⟨d,BN (by decide)⟩
 intro f
 have f:a≤t.getD 2 default:=by have:=AD f;omega
 have z:Hp t a=true:=by rw [Hp,decide_eq_true lt,decide_eq_true g,decide_eq_true f];rfl
 obtain ⟨B, -⟩:=Hz e g
 obtain ⟨C, -⟩:=Hz e f
 have y:HR t a=[t.getD 0 default,t.getD 1 default / a,t.getD 2 default / a]:=by unfold HR;rw [B,C]
 refine Bw<|Ao<|Cw.tail 13 BB (by kernel_rfl)<|Bq O<|Ah (fun e b=>Bh AE O O (Sl.bs ‹_› b) 0 O (by omega)) O ?_
 refine Ah (fun e b=>Bo (AO _) O (Sl.bs ‹_› b) (by omega)) O ?_
 refine Bq O<|Ah (fun e b=>Bh AE O O (Sl.bs ‹_› b) 1 O (by omega)) O ?_
 refine Ah (fun e b=>Bo (AO _) O (Sl.bs ‹_› b) (by omega)) O ?_
 refine Bq O<|Ah (fun e b=>Ff O O (by omega) (by omega)) O<|Bq O<|Ah (fun e b=>Bh AE O O (Sl.bs ‹_› b) 2 O (by omega)) O ?_
 refine Ah (fun e b=>Bo (AO _) O (Sl.bs ‹_› b) (by omega)) O ?_
 refine Bq O<|Ah (fun e b=>Ff O O (by omega) (by omega)) O ?_
 refine D0 (fun F b=> ?_)
 have d:=d.bs b
 have c:=c.bs b
 have A:=AA d
 refine Bc (Cv (vs:=(HR t a).map (Value.int .i64)) AE DO O (by rw [y];rfl) O O O) O ?_
 rintro x w ⟨p, -,i, -⟩
 have p:=BY p A
 have d:=d.bs i
 have c:=c.bs i
 refine Ab O<|Ab O<|Ay<|Bx O O O ?_
 rw [show CK t a=0 by simp [CK,l,z]]
 exact ⟨d,x,_,rfl,p,fun h=>absurd rfl h,fun _=>rfl⟩
theorem Q9 {t s:List Int} {a b:Int} (h:t.getD 1 default+2*b<s.getD 2 default∨t.getD 2 default+2*b<s.getD 3 default):Shapes.ok (Hi t s a b)=false:=by
 cases hk:Shapes.ok (Hi t s a b) with
 |false=>rfl
 |true=>
  have g:=((Shapes.ok_iff _).1 hk).2.1
  have e:(Hi t s a b).length=3:=rfl
  have d:1≤He (t.getD 1 default+2*b) (s.getD 2 default) a:=(CM g (k:=1) (by omega)).1
  have c:1≤He (t.getD 2 default+2*b) (s.getD 3 default) a:=(CM g (k:=2) (by omega)).1
  unfold He at d c
  rcases h with h|h
  ·rw [if_pos h] at d;omega
  ·rw [if_pos h] at c;omega
theorem P9 (t s:List Int) (a c:Int) (u v:Value) (W:World) (f:BO (Value.int .i64) W u t) (e:BO (Value.int .i64) W v s):
  AK prog 260 [u,v, .int .i64 a, .int .i64 c] W (fun r E=>Below W.heap.size W E∧SL W E r (CI t s a c) (Hi t s a c)):=by
 have i:=Below.refl W.heap.size W
 refine Az (n:=110) func260 O<|Ad<|Ab O<|Ab O<|Bi<|Ac O<|Ai O O (DA u t _ f) ?_
 rintro _ w ⟨rfl,j⟩
 have i:=i.bs j
 have f:=f.bs j
 have e:=e.bs j
 refine Aa (Co O) O<|Ac O ?_
 refine Cc 14 O ?_ ?_
 ·intro A
  refine Ae (dj:=14) O O O O<|Ae (dj:=14) O O O O<|Ae (dj:=14) O O O O<|B7 O<|Ac O<|Ae (dj:=19) O O O O<|Ae (dj:=19) O O O O<|B7 O<|Ac O<|Ae (dj:=23) O O O O<|Ae (dj:=23) O O O O<|B7 O<|Ac O<|Ae (dj:=27) O O O O<|Ae (dj:=27) O O O O<|B7 O<|Ac O<|Ae (dj:=31) O O O O<|Ae (dj:=31) O O O O<|B7 O<|Ak<|Ca O<|Ad<|Ab O<|Ab O<|B2<|Bx O O O ?_
  rw [show CI t s a c=1 by simp [CI,show EW t s a c=true by simp_all [EW]]]
  exact ⟨i,BN (by decide)⟩
 intro A
 refine Ag (dj:=14) O O<|Ac O<|Ag (dj:=14) O O<|Ai O O (DA v s _ e) ?_
 rintro _ w ⟨rfl,j⟩
 have i:=i.bs j
 have f:=f.bs j
 have e:=e.bs j
 refine Ag (dj:=14) O O<|Aa (Co O) O<|Ci O<|Ac O ?_
 refine Cc 19 O ?_ ?_
 ·intro y
  refine Ae (dj:=19) O O O O<|Ae (dj:=19) O O O O<|B7 O<|Ac O<|Ae (dj:=23) O O O O<|Ae (dj:=23) O O O O<|B7 O<|Ac O<|Ae (dj:=27) O O O O<|Ae (dj:=27) O O O O<|B7 O<|Ac O<|Ae (dj:=31) O O O O<|Ae (dj:=31) O O O O<|B7 O<|Ak<|Ca O<|Ad<|Ab O<|Ab O<|B2<|Bx O O O ?_
  rw [show CI t s a c=1 by simp [CI,show EW t s a c=true by simp_all [EW]]]
  exact ⟨i,BN (by decide)⟩
 intro y
 refine Ag (dj:=19) O O<|Ac O<|Ag (dj:=19) O O<|Bz O<|Ci O<|Ac O ?_
 refine Cc 23 O ?_ ?_
 ·intro D
  refine Ae (dj:=23) O O O O<|Ae (dj:=23) O O O O<|B7 O<|Ac O<|Ae (dj:=27) O O O O<|Ae (dj:=27) O O O O<|B7 O<|Ac O<|Ae (dj:=31) O O O O<|Ae (dj:=31) O O O O<|B7 O<|Ak<|Ca O<|Ad<|Ab O<|Ab O<|B2<|Bx O O O ?_
  rw [show CI t s a c=1 by simp [CI,show EW t s a c=true by simp_all [EW]]]
  exact ⟨i,BN (by decide)⟩
 intro D
 refine Ag (dj:=23) O O<|Ac O<|Ag (dj:=23) O O<|Aa (Dh O O) O<|Ci O<|Ac O ?_
 refine Cc 27 O ?_ ?_
 ·intro z
  refine Ae (dj:=27) O O O O<|Ae (dj:=27) O O O O<|B7 O<|Ac O<|Ae (dj:=31) O O O O<|Ae (dj:=31) O O O O<|B7 O<|Ak<|Ca O<|Ad<|Ab O<|Ab O<|B2<|Bx O O O ?_
  rw [show CI t s a c=1 by simp [CI,show EW t s a c=true by simp_all [EW]]]
  exact ⟨i,BN (by decide)⟩
 intro z
 refine Ag (dj:=27) O O<|Ac O<|Ag (dj:=27) O O<|Bz O<|Ci O<|Ac O ?_
 refine Cc 31 O ?_ ?_
 ·intro B
  refine Ae (dj:=31) O O O O<|Ae (dj:=31) O O O O<|B7 O<|Ak<|Ca O<|Ad<|Ab O<|Ab O<|B2<|Bx O O O ?_
  rw [show CI t s a c=1 by simp [CI,show EW t s a c=true by simp_all [EW]]]
  exact ⟨i,BN (by decide)⟩
 intro B
 have Q:Shapes.ok t=true:=by simpa using A
 have K:Shapes.ok s=true:=by simpa using y
 have L:1≤a:=by simpa using D
 have H:a≤8:=by simpa using z
 have T:0≤c:=by simpa using B
 refine Ag (dj:=31) O O<|Ac O<|Ag (dj:=31) O O<|Aa (Dh O O) O<|Ci O<|Ak<|Aq O ?_ ?_
 ·intro q
  refine Ad<|Ab O<|Ab O<|B2<|Bx O O O ?_
  rw [show CI t s a c=1 by simp [CI,show EW t s a c=true by simp_all [EW]]]
  exact ⟨i,BN (by decide)⟩
 intro q
 have R:c≤8:=by simpa using q
 have p:EW t s a c=false:=by simp_all [EW]
 clear A y D z B q
 have G:=(Shapes.ok_iff t).1 Q
 have C:=(Shapes.ok_iff s).1 K
 refine Bw<|Ao<|Ao<|Da BB (by kernel_rfl)<|Bq O<|Ah (fun d b=>Ap AE O (Sl.bs ‹_› b)) O ?_
 refine Ah (fun d b=>Ct O O) O<|Bq O ?_
 refine Dj 38 O ?_ ?_
 ·intro g
  refine Au (dj:=38) O O O O<|Au (dj:=38) O O O O<|Au (dj:=38) O O O O<|Ah (fun d b=>C3 O O) O<|Bq O<|Au (dj:=43) O O O O<|Au (dj:=43) O O O O<|Au (dj:=43) O O O O<|Au (dj:=43) O O O O<|Au (dj:=43) O O O O<|Au (dj:=43) O O O O<|Au (dj:=43) O O O O<|Ah (fun d b=>C3 O O) O<|Bq O<|Au (dj:=52) O O O O<|Au (dj:=52) O O O O<|Au (dj:=52) O O O O<|Au (dj:=52) O O O O<|Au (dj:=52) O O O O<|Au (dj:=52) O O O O<|Au (dj:=52) O O O O<|Au (dj:=52) O O O O<|Au (dj:=52) O O O O<|Au (dj:=52) O O O O<|Ah (fun d b=>C3 O O) O<|Bq O<|Au (dj:=64) O O O O<|Au (dj:=64) O O O O<|Au (dj:=64) O O O O<|Au (dj:=64) O O O O<|Au (dj:=64) O O O O<|Au (dj:=64) O O O O<|Au (dj:=64) O O O O<|Au (dj:=64) O O O O<|Au (dj:=64) O O O O<|Au (dj:=64) O O O O<|Ah (fun d b=>C3 O O) O ?_
  refine C2 (fun d b=> ?_)
  refine Ar<|B9<|Ca O<|Ad<|Ab O<|Ab O<|B2<|Bx O O O ?_
  rw [show CI t s a c=10 by rw [CI,p,QC (fun h=>by simp [h] at g)];rfl]
  exact ⟨bt i b,BN (by decide)⟩
 intro I
 have lt:t.length=3:=by have:=I;simp at this;omega
 refine Bb (dj:=38) O O<|Bq O<|Bb (dj:=38) O O<|Ah (fun d b=>Ap AE O (Sl.bs ‹_› b)) O ?_
 refine Bb (dj:=38) O O<|Ah (fun d b=>Ct O O) O<|Ah (fun d b=>C0 O O) O<|Bq O ?_
 refine Dj 43 O ?_ ?_
 ·intro g
  refine Au (dj:=43) O O O O<|Au (dj:=43) O O O O<|Au (dj:=43) O O O O<|Au (dj:=43) O O O O<|Au (dj:=43) O O O O<|Au (dj:=43) O O O O<|Au (dj:=43) O O O O<|Ah (fun d b=>C3 O O) O<|Bq O<|Au (dj:=52) O O O O<|Au (dj:=52) O O O O<|Au (dj:=52) O O O O<|Au (dj:=52) O O O O<|Au (dj:=52) O O O O<|Au (dj:=52) O O O O<|Au (dj:=52) O O O O<|Au (dj:=52) O O O O<|Au (dj:=52) O O O O<|Au (dj:=52) O O O O<|Ah (fun d b=>C3 O O) O<|Bq O<|Au (dj:=64) O O O O<|Au (dj:=64) O O O O<|Au (dj:=64) O O O O<|Au (dj:=64) O O O O<|Au (dj:=64) O O O O<|Au (dj:=64) O O O O<|Au (dj:=64) O O O O<|Au (dj:=64) O O O O<|Au (dj:=64) O O O O<|Au (dj:=64) O O O O<|Ah (fun d b=>C3 O O) O ?_
  refine C2 (fun d b=> ?_)
  refine Ar<|B9<|Ca O<|Ad<|Ab O<|Ab O<|B2<|Bx O O O ?_
  rw [show CI t s a c=10 by rw [CI,p,QB (fun h=>by simp [h] at g)];rfl]
  exact ⟨bt i b,BN (by decide)⟩
 intro J
 have ls:s.length=4:=by have:=J;simp at this;omega
 have t1:=CM G.2.1 (k:=1) (by omega)
 have S:=CM G.2.1 (k:=2) (by omega)
 have X:=CM C.2.1 (k:=0) (by omega)
 have U:=CM C.2.1 (k:=2) (by omega)
 have s3:=CM C.2.1 (k:=3) (by omega)
 refine Bb (dj:=43) O O<|Bq O<|Bb (dj:=43) O O<|Ah (fun d b=>Bh AE O O (Sl.bs ‹_› b) 0 O (by omega)) O ?_
 refine Bb (dj:=43) O O<|Ah (fun d b=>Bo (AO _) O (Sl.bs ‹_› b) (by omega)) O ?_
 refine Bb (dj:=43) O O<|Bq O<|Bb (dj:=43) O O<|Ah (fun d b=>Bh AE O O (Sl.bs ‹_› b) 1 O (by omega)) O ?_
 refine Bb (dj:=43) O O<|Ah (fun d b=>Bo (AO _) O (Sl.bs ‹_› b) (by omega)) O ?_
 refine Bb (dj:=43) O O<|Ah (fun d b=>Ct O O) O<|Ah (fun d b=>C0 O O) O<|Bq O ?_
 refine Dj 52 O ?_ ?_
 ·intro g
  refine Au (dj:=52) O O O O<|Au (dj:=52) O O O O<|Au (dj:=52) O O O O<|Au (dj:=52) O O O O<|Au (dj:=52) O O O O<|Au (dj:=52) O O O O<|Au (dj:=52) O O O O<|Au (dj:=52) O O O O<|Au (dj:=52) O O O O<|Au (dj:=52) O O O O<|Ah (fun d b=>C3 O O) O<|Bq O<|Au (dj:=64) O O O O<|Au (dj:=64) O O O O<|Au (dj:=64) O O O O<|Au (dj:=64) O O O O<|Au (dj:=64) O O O O<|Au (dj:=64) O O O O<|Au (dj:=64) O O O O<|Au (dj:=64) O O O O<|Au (dj:=64) O O O O<|Au (dj:=64) O O O O<|Ah (fun d b=>C3 O O) O ?_
  refine C2 (fun d b=> ?_)
  refine Ar<|B9<|Ca O<|Ad<|Ab O<|Ab O<|B2<|Bx O O O ?_
  rw [show CI t s a c=10 by rw [CI,p,QA (fun h=>by rw [decide_eq_true h] at g;cases g)];rfl]
  exact ⟨bt i b,BN (by decide)⟩
 intro F
 have Y:JC t s=true:=by
  have:t.getD 0 default=s.getD 1 default:=by simpa only [Bool.not_eq_false',decide_eq_true_eq] using F
  rw [JC,decide_eq_true lt,decide_eq_true ls,decide_eq_true this];rfl
 refine Bb (dj:=52) O O<|Bq O<|Bb (dj:=52) O O<|Ah (fun d b=>Bh AE O O (Sl.bs ‹_› b) 1 O (by omega)) O ?_
 refine Bb (dj:=52) O O<|Ah (fun d b=>Bo (AO _) O (Sl.bs ‹_› b) (by omega)) O ?_
 refine Bb (dj:=52) O O<|Bq O<|Bb (dj:=52) O O<|Ah (fun d b=>Dv O O (by omega)) O<|Bb (dj:=52) O O<|Ah (fun d b=>Dp O O (by omega)) O<|Bb (dj:=52) O O<|Bq O<|Bb (dj:=52) O O<|Ah (fun d b=>Bh AE O O (Sl.bs ‹_› b) 2 O (by omega)) O ?_
 refine Bb (dj:=52) O O<|Ah (fun d b=>Bo (AO _) O (Sl.bs ‹_› b) (by omega)) O ?_
 refine Bb (dj:=52) O O<|Ah (fun d b=>Er O O) O<|Ah (fun d b=>C0 O O) O<|Bq O ?_
 refine Dj 64 O ?_ ?_
 ·intro g
  have g:=AC g
  refine Au (dj:=64) O O O O<|Au (dj:=64) O O O O<|Au (dj:=64) O O O O<|Au (dj:=64) O O O O<|Au (dj:=64) O O O O<|Au (dj:=64) O O O O<|Au (dj:=64) O O O O<|Au (dj:=64) O O O O<|Au (dj:=64) O O O O<|Au (dj:=64) O O O O<|Ah (fun d b=>C3 O O) O ?_
  refine C2 (fun d b=> ?_)
  refine Ar<|B9<|Ca O<|Ad<|Ab O<|Ab O<|B2<|Bx O O O ?_
  rw [show CI t s a c=10 by rw [CI,p,Q9 (.inl g),Bool.and_false];rfl]
  exact ⟨bt i b,BN (by decide)⟩
 intro m
 have m:=AD m
 refine Bb (dj:=64) O O<|Bq O<|Bb (dj:=64) O O<|Ah (fun d b=>Bh AE O O (Sl.bs ‹_› b) 2 O (by omega)) O ?_
 refine Bb (dj:=64) O O<|Ah (fun d b=>Bo (AO _) O (Sl.bs ‹_› b) (by omega)) O ?_
 refine Bb (dj:=64) O O<|Bq O<|Bb (dj:=64) O O<|Ah (fun d b=>Dv O O (by omega)) O<|Bb (dj:=64) O O<|Ah (fun d b=>Dp O O (by omega)) O<|Bb (dj:=64) O O<|Bq O<|Bb (dj:=64) O O<|Ah (fun d b=>Bh AE O O (Sl.bs ‹_› b) 3 O (by omega)) O ?_
 refine Bb (dj:=64) O O<|Ah (fun d b=>Bo (AO _) O (Sl.bs ‹_› b) (by omega)) O ?_
 refine Bb (dj:=64) O O<|Ah (fun d b=>Er O O) O<|Ah (fun d b=>C0 O O) O ?_
 refine C2 (fun d b=> ?_)
 refine Ar<|B9<|Aq O ?_ ?_
 ·intro g
  have g:=AC g
  refine Ad<|Ab O<|Ab O<|B2<|Bx O O O ?_
  rw [show CI t s a c=10 by rw [CI,p,Q9 (.inr g),Bool.and_false];rfl]
  exact ⟨bt i b,BN (by decide)⟩
 intro l
 have l:=AD l
 have i:=i.bs b
 have f:=f.bs b
 have e:=e.bs b
 clear b I J F
 have V:=Int.ediv_le_self a (show 0≤t.getD 1 default+2*c - s.getD 2 default by omega)
 have q2:=Int.ediv_nonneg (show 0≤t.getD 1 default+2*c - s.getD 2 default by omega) (show 0≤a by omega)
 have Z:=Int.ediv_le_self a (show 0≤t.getD 2 default+2*c - s.getD 3 default by omega)
 have q4:=Int.ediv_nonneg (show 0≤t.getD 2 default+2*c - s.getD 3 default by omega) (show 0≤a by omega)
 have M:Hi t s a c=[s.getD 0 default,(t.getD 1 default+2*c - s.getD 2 default) / a+1,(t.getD 2 default+2*c - s.getD 3 default) / a+1]:=by
  unfold Hi He;rw [if_neg m,if_neg l]
 refine Bw<|Ao<|Cw.tail 29 BB (by kernel_rfl)<|Bq O<|Ah (fun d b=>Bh AE O O (Sl.bs ‹_› b) 0 O (by omega)) O ?_
 refine Ah (fun d b=>Bo (AO _) O (Sl.bs ‹_› b) (by omega)) O ?_
 refine Bq O<|Ah (fun d b=>Bh AE O O (Sl.bs ‹_› b) 1 O (by omega)) O ?_
 refine Ah (fun d b=>Bo (AO _) O (Sl.bs ‹_› b) (by omega)) O ?_
 refine Bq O<|Ah (fun d b=>Dv O O (by omega)) O<|Ah (fun d b=>Dp O O (by omega)) O<|Bq O<|Ah (fun d b=>Bh AE O O (Sl.bs ‹_› b) 2 O (by omega)) O ?_
 refine Ah (fun d b=>Bo (AO _) O (Sl.bs ‹_› b) (by omega)) O ?_
 refine Ah (fun d b=>D2 O O (by omega)) O<|Bq O<|Ah (fun d b=>Ff O O (by omega) (by omega)) O<|Ah (fun d b=>Dp O O (by omega)) O<|Bq O<|Ah (fun d b=>Bh AE O O (Sl.bs ‹_› b) 2 O (by omega)) O ?_
 refine Ah (fun d b=>Bo (AO _) O (Sl.bs ‹_› b) (by omega)) O ?_
 refine Bq O<|Ah (fun d b=>Dv O O (by omega)) O<|Ah (fun d b=>Dp O O (by omega)) O<|Bq O<|Ah (fun d b=>Bh AE O O (Sl.bs ‹_› b) 3 O (by omega)) O ?_
 refine Ah (fun d b=>Bo (AO _) O (Sl.bs ‹_› b) (by omega)) O ?_
 refine Ah (fun d b=>D2 O O (by omega)) O<|Bq O<|Ah (fun d b=>Ff O O (by omega) (by omega)) O<|Ah (fun d b=>Dp O O (by omega)) O ?_
 refine D0 (fun w2 b=> ?_)
 have i:=i.bs b
 have f:=f.bs b
 have e:=e.bs b
 have N:=AA i
 refine Bc (Cv (vs:=(Hi t s a c).map (Value.int .i64)) AE DO O (by rw [M];rfl) O O O) O ?_
 rintro x w ⟨o, -,j, -⟩
 have o:=BY o N
 have i:=i.bs j
 have f:=f.bs j
 have e:=e.bs j
 refine Ab O<|Bi<|Ac O<|Ai O O (DA x (Hi t s a c) _ (BD o)) ?_
 rintro _ w ⟨rfl,j⟩
 have i:=i.bs j
 have f:=f.bs j
 have e:=e.bs j
 have o:=o.bs j
 refine Aa (Co O) O<|Ak<|Aq O ?_ ?_
 ·intro g
  refine Ad<|Ab O<|Ab O<|B2<|Bx O O O ?_
  rw [show CI t s a c=10 by simp_all [CI]]
  exact ⟨i,BN (by decide)⟩
 intro g
 refine Cs<|Ac O<|Ab O<|Ab O<|Ay<|Bx O O O ?_
 rw [show CI t s a c=0 by simp_all [CI]]
 exact ⟨i,x,_,rfl,o,fun h=>absurd rfl h,fun _=>rfl⟩

theorem PB (u v:Value) (s o:List Int) (W:World) (w:BO (Value.int .i64) W u s) (m:BO (Value.int .i64) W v o) (F:∀j,j<o.length→0≤o.getD j default∧o.getD j default<(s.length:Int)) (L:o.length≤4):
  AK prog 262 [u,v] W (fun r d=>Below W.heap.size W d∧d.ownsRow W.heap.size 3 1 r o.length ((turn s o).map (Value.int .i64))):=by
 refine Az (n:=24) func262 O<|Ad<|Ab O<|Be<|Ab O<|Bi<|Ab O<|Ak<|An ?_
 refine Bl (S:=(Nat×Value)) (fun z=>[(0,u),(1,v),(5,z.2),(6, .int .i64 (z.1:Int))]) (fun z d=>z.1≤o.length∧Below W.heap.size W d∧d.ownsRow W.heap.size 3 1 z.2 z.1 (((turn s o).take z.1).map (Value.int .i64))) (fun z=>o.length - z.1) ((0, .slice none 0 0)) ⟨rfl,rfl,rfl,rfl,trivial⟩ ?_ ?_
 ·exact ⟨Nat.zero_le _,Below.refl _ _,World.ownsRow_nil _ _ _ _⟩
 rintro ⟨i,x⟩ J ⟨H,b,c⟩
 dsimp only at H c ⊢
 have f:=w.bs b
 have l:=m.bs b
 have B:=b.size
 refine Ao<|Ad<|Ac O<|Ac O<|Aa (Ap AE O ‹_›) O ?_
 refine Bz O<|Ak<|Aq O ?_ ?_
 ·intro g
  have a:i<o.length:=by have:=AC g;omega
  have G:=F i a
  obtain ⟨k,A⟩:∃k:Nat,o.getD i default=(k:Int):=⟨_,(Int.toNat_of_nonneg G.1).symm⟩
  have p:k<s.length:=by omega
  have lt:=GD s o
  have I:(turn s o).take (i+1)=(turn s o).take i++[s.getD k default]:=by
   have e:(turn s o).getD i default=s.getD k default:=by rw [SS a,A,Int.toNat_natCast]
   have h:i<(turn s o).length:=by omega
   rw [take_succ_eq_append_getElem h,← e];simp [h]
  refine Bw<|Ao<|An<|Bn<|Ac O<|Ac O<|Ac O<|Ac O<|Aa (Bh AE O O ‹_› _ O (by omega)) O ?_
  refine Aa ((Bo (AO _) O l a).as (cngA (Value.int .i64) A)) O<|Aa (Bh AE O O f k O p) O<|Aa (Bo (AO _) O ‹_› (by omega)) O ?_
  refine Bc (Cv (vs:=[s.getD k default].map (Value.int .i64)) AE DO O O O O O) O ?_
  rintro q M ⟨E, -,D, -⟩
  have c:=AI c D
  have b:=bt b D
  have B:=b.size
  refine Bc (De (base:=W.heap.size) AE DO O (by decide) O O c (AF E) (BL (fun _=>rfl) _) (by omega) (by omega) B) O ?_
  rintro y K ⟨C,t, -⟩
  have b:=b.trans t
  rw [← map_append,← I] at C
  refine Ab O<|Bd<|Bg<|B6<|Ac O<|B1 O (by omega)<|Ab O<|Bd ?_
  exact Ar (Bp ((i+1,y)) ⟨rfl,rfl,rfl,rfl,trivial⟩ (⟨a,b,C⟩) (by simp only;omega))
 intro g
 have a:i=o.length:=by have:=AD g;omega
 rw [a,take_of_length_le (by rw [GD];exact AU _)] at c
 exact Bk<|Aj<|Aj<|A0<|Cb<|Ac rfl<|Ab rfl<|Ay<|As rfl rfl<|⟨b,c⟩
theorem SN {s:List Int} {k i:Nat} (h:i<s.length):wo (s.take (i+1)) k=if i=k then wo (s.take i) k else wo (s.take i) k++[s.getD i default]:=by
 have e:s.take (i+1)=s.take i++[s.getD i default]:=by rw [take_succ_eq_append_getElem h];simp [h]
 have l:(s.take i).length=i:=by rw [length_take];omega
 unfold wo
 rw [e,take_append,drop_append,l]
 by_cases g:i=k
 ·subst g
  rw [if_pos rfl,Nat.sub_self,take_zero,append_nil,drop_of_length_le (by rw [l];omega)]
  rw [drop_of_length_le (by simp)]
  simp
 ·rw [if_neg g]
  rcases Nat.lt_or_ge i k with b|b
  ·have a:(s.take i).drop (k+1)=[]:=drop_of_length_le (by omega)
   have d:[s.getD i default].drop (k+1 - i)=[]:=drop_of_length_le (by simp;omega)
   have c:[s.getD i default].take (k - i)=[s.getD i default]:=take_of_length_le (by simp;omega)
   rw [a,d,c];simp
  ·rw [show k - i=0 by omega,show k+1 - i=0 by omega,take_zero,drop_zero,append_nil,append_assoc]
def SO (s:List Int) (k:Nat):List Int:=if (wo s k).length=0 then [1] else wo s k
theorem Ui {s:List Int} {k:Nat} (a:k<s.length):SO s k=FR s k:=by
 have b:=P3 a
 unfold SO
 by_cases g:s.length=1
 ·rw [if_pos (by omega)];unfold FR;rw [if_pos g]
 ·rw [if_neg (by omega),N6 g]
theorem Mz (u:Value) (s:List Int) (k:Nat) (W:World) (o:BO (Value.int .i64) W u s) (E:s.length≤4):
  AK prog 264 [u, .int .i64 (k:Int)] W (fun r f=>Below W.heap.size W f∧f.ownsRow W.heap.size 3 1 r (SO s k).length ((SO s k).map (Value.int .i64))):=by
 refine Az (n:=28) func264 O<|Ad<|Ab O<|Be<|Ab O<|Bi<|Ab O<|Ak<|An ?_
 refine Bl (S:=(Nat×Value)) (fun z=>[(0,u),(1, .int .i64 (k:Int)),(5,z.2),(6, .int .i64 (z.1:Int))]) (fun z f=>z.1≤s.length∧Below W.heap.size W f∧f.ownsRow W.heap.size 3 1 z.2 (wo (s.take z.1) k).length ((wo (s.take z.1) k).map (Value.int .i64))) (fun z=>s.length - z.1) ((0, .slice none 0 0)) ⟨rfl,rfl,rfl,rfl,trivial⟩ ?_ ?_
 ·exact ⟨Nat.zero_le _,Below.refl _ _,by show W.ownsRow _ _ _ _ (wo (s.take 0) k).length ((wo (s.take 0) k).map _);rw [show wo (s.take 0) k=[] by simp [wo]];exact World.ownsRow_nil _ _ _ _⟩
 rintro ⟨i,x⟩ w ⟨C,c,d⟩
 dsimp only at C d ⊢
 have t:=o.bs c
 have m:=c.size
 have F:(wo (s.take i) k).length≤i:=by
  unfold wo
  rw [length_append,length_take,length_drop,length_take];omega
 refine Ao<|Ad<|Ac O<|Ac O<|Aa (Ap AE O ‹_›) O ?_
 refine Bz O<|Ak<|Aq O ?_ ?_
 ·intro g
  have b:i<s.length:=by have:=AC g;omega
  have e:=SN (k:=k) b
  refine Bw<|Ao<|An<|Ad<|Ac O<|Ac O<|Aa (Ct O O) O<|Ak<|Aq O ?_ ?_
  ·intro a
   have a:¬i=k:=by have:=a;simp at this;omega
   rw [if_neg a] at e
   refine Bn<|Ac O<|Ac O<|Ac O<|Aa (Bh AE O O ‹_› _ O (by omega)) O ?_
   refine Aa (Bo (AO _) O ‹_› (by omega)) O ?_
   refine Bc (Cv (vs:=[s.getD i default].map (Value.int .i64)) AE DO O O O O O) O ?_
   rintro q D ⟨j, -,h, -⟩
   have d:=AI d h
   have c:=bt c h
   have m:=c.size
   refine Bc (De (base:=W.heap.size) AE DO O (by decide) O O d (AF j) (BL (fun _=>rfl) _) (by omega) (by omega) m) O ?_
   rintro y A ⟨v,l, -⟩
   have c:=c.trans l
   rw [← map_append,← e] at v
   have p:A.ownsRow W.heap.size 3 1 y (wo (s.take (i+1)) k).length ((wo (s.take (i+1)) k).map (Value.int .i64)):=by rw [e,length_append,← e];exact v
   refine Ab O<|Bd<|Bg<|B6<|Ac O<|B1 O (by omega)<|Ab O<|Bd ?_
   exact Ar (Bp ((i+1,y)) ⟨rfl,rfl,rfl,rfl,trivial⟩ (⟨b,c,p⟩) (by simp only;omega))
  intro a
  have a:i=k:=by have:=a;simp at this;omega
  rw [if_pos a] at e
  refine Cj<|Bg<|B6<|Ac O<|B1 O (by omega)<|Ab O<|Bd ?_
  exact Ar (Bp ((i+1,x)) ⟨rfl,rfl,rfl,rfl,trivial⟩ (⟨b,c,by show w.ownsRow _ _ _ _ (wo (s.take (i+1)) k).length ((wo (s.take (i+1)) k).map _);rw [e];exact d⟩) (by simp only;omega))
 intro g
 have b:i=s.length:=by have:=AD g;omega
 rw [b,take_length] at d
 have B:=BD d
 refine Bk<|Aj<|Aj<|A0<|Ar<|B9<|Ao<|Ad<|Ac O<|Aa (Ap AE O ‹_›) O ?_
 refine Aa (C6 O O) O<|Ak<|Aq O ?_ ?_
 ·intro a
  have a:(wo s k).length=0:=by have:=AC a;omega
  refine Bn<|Bc (Cv (vs:=[(1:Int)].map (Value.int .i64)) AE DO O O O O O) O ?_
  rintro q D ⟨j, -,h, -⟩
  refine Ab O<|Be<|Ac O<|Ab O<|Ay<|As O O ?_
  rw [show SO s k=[1] by unfold SO;rw [if_pos a]]
  exact ⟨bt c h,BY j m⟩
 intro a
 have a:¬(wo s k).length=0:=by have:=AD a;omega
 refine Cs<|Ac O<|Ab O<|Ay<|As O O ?_
 rw [show SO s k=wo s k by unfold SO;rw [if_neg a]]
 exact ⟨c,d⟩

theorem R4 {s:List Int} (h:Shapes.ok s=true) {i:Nat} (a:i<s.length):1≤s.getD i default∧s.getD i default≤64:=by
 have:=((Shapes.ok_iff s).1 h).2.1 s[i] (getElem_mem a)
 simpa [a] using this
theorem Vd {m n:Int} (c:1≤m∧m≤64) (b:1≤n∧n≤64) (h:m*n≤4096):Shapes.ok [m,n]=true:=by
 rw [Shapes.ok_iff]
 refine ⟨by simp,fun x a=> ?_,by simp [Shapes.prod];omega⟩
 simp at a
 rcases a with rfl|rfl<;>assumption
theorem Vv {l:List (List Int)} {n:Int} (i:1≤l.length) (g:l.length≤4) (c:∀s ∈ l,Shapes.ok s=true) (j:0≤n):
  decide (Oo l n=0)=Shapes.ok (Pk l n.toNat)∧(Oo l n=0→U7 l n=some (Pk l n.toNat)):=by
 have a:∀s,Ki n.toNat (l.headD []) l.tail=some s→s.length=(l.headD []).length:=fun s h=>LO _ _ _ h
 have b:Shapes.ok []=false:=by decide
 by_cases hA:((l.headD []).length:Int)≤n
 ·have d:Oo l n=1:=by
   unfold Oo RN
   rw [decide_eq_true hA];simp
  have f:Pk l n.toNat=[]:=by
   unfold Pk
   cases hs:Ki n.toNat (l.headD []) l.tail with
   |none=>rfl
   |some s=>
    have:=a s hs
    show (if n.toNat<s.length then s else [])=[]
    rw [if_neg (by omega)]
  rw [d,f]
  exact ⟨by rw [b];rfl,fun h=>by cases h⟩
 ·have e:RN l n=false:=by
   unfold RN
   rw [decide_eq_false (show ¬l.length<1 by omega),decide_eq_false (show ¬4<l.length by omega),decide_eq_false (show ¬n<0 by omega),decide_eq_false hA]
   rw [List.any_eq_false.2 fun s hs=>by rw [c s hs];decide]
   rfl
  have d:Oo l n=V9 (U7 l n):=by unfold Oo;rw [e];rfl
  rw [d]
  unfold U7 Pk
  cases hs:Ki n.toNat (l.headD []) l.tail with
  |none=>exact ⟨by show decide ((10:Int)=0)=Shapes.ok [];rw [b];rfl,fun h=>by cases h⟩
  |some s=>
   have:=a s hs
   have f:(if n.toNat<s.length then s else [])=s:=if_pos (by omega)
   show decide (V9 (some s)=0)=Shapes.ok (if n.toNat<s.length then s else [])∧(_→some s=some (if n.toNat<s.length then s else []))
   rw [f]
   refine ⟨?_,fun _=>rfl⟩
   show decide ((if Shapes.ok s=true then (0:Int) else 10)=0)=_
   cases Shapes.ok s<;>rfl
def UP (w:World) (r:Value) (G:List Int):Prop:=∃u s,r= .tuple #[u, .bool (Shapes.ok G)]∧BO (Value.int .i64) w u s∧(Shapes.ok G=true→s=G)
theorem FS {w:World} {u:Value} {s G:List Int} {b:Bool} (hs:BO (Value.int .i64) w u s) (a:b=Shapes.ok G) (h:b=true→s=G):UP w (.tuple #[u, .bool b]) G:=by
 subst a;exact ⟨u,s,rfl,hs,h⟩
theorem FW {w:World} {u:Value} {G:List Int} (hs:BO (Value.int .i64) w u G) (a:Shapes.ok G=true):UP w (.tuple #[u, .bool true]) G:=FS hs a.symm fun _=>rfl
theorem Rw {a b:List Int} (e:Gy a b=0):Shapes.ok [a.getD 0 default,b.getD 1 default]=true:=by
 unfold Gy at e
 split at e
 ·rename_i c
  rw [Bool.and_eq_true] at c
  split at e
  ·rename_i h
   have d:=R4 c.1 (i:=0) (by omega)
   have f:=R4 c.2 (i:=1) (by omega)
   have g:a.getD 0 default*b.getD 1 default≤4096:=by
    have:=Int.mul_le_mul d.2 f.2 (by omega) (by omega)
    omega
   exact Vd d f g
  ·cases e
 ·cases e
theorem Uh {t s:List Int} {a b:Int} (e:CI t s a b=0):Shapes.ok (Hi t s a b)=true:=by
 unfold CI at e
 split at e
 ·cases e
 ·split at e
  ·rename_i h;rw [Bool.and_eq_true] at h;exact h.2
  ·cases e
theorem Uu {t:List Int} {n:Int} (a:Shapes.ok t=true) (e:CK t n=0):Shapes.ok (HR t n)=true:=
 (Tm (t:=⟨.slice none 0 0, .slice none 0 0,t,replicate (Shapes.size t).toNat 0#32⟩) (by
  unfold L1
  show (Shapes.ok t && decide ((((replicate (Shapes.size t).toNat 0#32).length:Nat):Int)=Shapes.size t))=true
  have b:0<Shapes.size t:=AC a
  rw [a,Bool.true_and,length_replicate,decide_eq_true_iff]
  omega) e).ok
theorem Ly {ps:List (Value×List Int)} (h:ps.length=2):∃a b,ps=[a,b]:=by
 match ps,h with
 |[a,b],_=>exact ⟨a,b,rfl⟩
theorem IG {ps:List (Value×List Int)} (h:1≤ps.length):∃a l,ps=a::l:=by
 match ps,h with
 |a::l,_=>exact ⟨a,l,rfl⟩
set_option maxHeartbeats 800000 in
theorem PH (x:N5) (v:Value) (ps:List (Value×List Int)) (W:World) (hx:N5.at W x) (h:LI W v ps) (A:CU x.k x.i x.s x.n x.p=true) (hl:ps.length=x.i.length) (C:∀p ∈ ps,Shapes.ok p.2=true):
  AK prog 233 [x.v,v] W (fun r Q=>Below W.heap.size W Q∧UP Q r (Kw x.k x.s x.n x.p (AW ps))):=by
 have E:=Below.refl W.heap.size W
 obtain ⟨G,L⟩:∃G,G=Kw x.k x.s x.n x.p (AW ps):=⟨_,rfl⟩
 rw [← L]
 have F:=hx.s
 refine Az (n:=141) func233 O<|Ad<|Cr (cs:=x.cells) O O O ?_
 rintro A_x w eA_x M I -
 have E:=E.bs I
 have F:=F.bs I
 have h:=h.bs I
 refine Ab O<|Ab O<|Bi<|Ba underlying79 O (EA _)<|Aa (Al (ED _) O ‹_› rfl) O ?_
 refine Ak<|An<|Ao<|Ad<|Aa (Ch O (show _=some (b8 (1#8)) from rfl)) O<|Ab O<|Ak<|Aq O ?_ ?_
 ·intro q
  have g:x.k=1#8:=AC q
  refine Bw<|Bu O true (q)<|Ad<|Ba underlying79 O (AT _)<|Aa (Al (AN _) O ‹_› rfl) O ?_
  refine Ab O<|Ab O<|Ay<|Bj<|Av<|Bx O O O ?_
  have t:G=x.s:=by rw [L,g];rfl
  have H:Shapes.ok x.s=true:=(AY (by rw [g] at A;exact A) T2).2
  exact ⟨E,FW (t ▸ F) (by rw [t];exact H)⟩
 intro q1
 refine Bn<|Aa (Ch O (show _=some (b8 (2#8)) from rfl)) O<|Ab O<|Ak<|Aq O ?_ ?_
 ·intro q
  have g:x.k=2#8:=AC q
  refine Ad<|Ba underlying79 O (AT _)<|Aa (Al (AN _) O ‹_› rfl) O ?_
  refine Ab O<|Ab O<|Ay<|Bj<|Av<|Bx O O O ?_
  have t:G=x.s:=by rw [L,g];rfl
  have H:Shapes.ok x.s=true:=(AY (by rw [g] at A;exact A) T1).2
  exact ⟨E,FW (t ▸ F) (by rw [t];exact H)⟩
 intro q2
 refine Ao<|Ad<|Aa (Ch O (show _=some (b8 (3#8)) from rfl)) O<|Ab O<|Ak<|Aq O ?_ ?_
 ·intro q
  have g:x.k=3#8:=AC q
  refine Bw<|Bu O true (q)<|Ao ?_
  have l2:ps.length=2:=by have:=(AY (by rw [g] at A;exact A) Tz).1;omega
  obtain ⟨a,b,rfl⟩:=Ly l2
  have D:a ∈ [a,b]:=by simp
  have R:b ∈ [a,b]:=by simp
  have z:=C a D
  have V:=C b R
  have y:=h.each a D
  have J:=h.each b R
  have d:=h.sl
  clear l2
  have t:G=if a.2=b.2 then a.2 else []:=by rw [L,g];rfl
  refine Da BB (by kernel_rfl)<|Bq O<|Ah (fun c o=>Bh AX O O (d.bs o) 0 O (Nat.zero_lt_succ _)) O<|Ah (fun c o=>Ex.as (Bo (AN _) O (d.bs o) (Nat.zero_lt_succ _)) O) O<|Bq O<|Ah (fun c o=>Bh AX O O (d.bs o) 0 O (Nat.zero_lt_succ _)) O<|Ah (fun c o=>Ex.as (Bo (AN _) O (d.bs o) (Nat.zero_lt_succ _)) O) O<|Bq O<|Ah (fun c o=>Bh AX O O (d.bs o) 1 O (show 1<2 by decide)) O<|Ah (fun c o=>Ex.as (Bo (AN _) O (d.bs o) (show 1<2 by decide)) O) O<|Db O O (fun c o=>(JO a.1 b.1 a.2 b.2 _ (y.bs o) (J.bs o)).q o)<|Dx O<|Dx O ?_
  refine C2 (fun N o=> ?_)
  refine Ar<|B9<|Dq<|Bj<|Av<|Bx O O O ?_
  refine ⟨bt E o,FS (y.bs o) ?_ fun e=> ?_⟩
  ·rw [t]
   by_cases e:a.2=b.2
   ·rw [if_pos e,z,decide_eq_true e]
   ·rw [if_neg e,decide_eq_false e];rfl
  ·rw [t,if_pos (AC e)]
 intro q3
 refine Bn<|Aa (Ch O (show _=some (b8 (4#8)) from rfl)) O<|Ab O<|Ak<|Aq O ?_ ?_
 ·intro q
  have g:x.k=4#8:=AC q
  have l2:ps.length=2:=by have:=(AY (by rw [g] at A;exact A) Ty).1;omega
  obtain ⟨a,b,rfl⟩:=Ly l2
  have D:a ∈ [a,b]:=by simp
  have R:b ∈ [a,b]:=by simp
  have z:=C a D
  have V:=C b R
  have y:=h.each a D
  have J:=h.each b R
  have d:=h.sl
  clear l2
  have t:G=if a.2=b.2 then a.2 else []:=by rw [L,g];rfl
  refine Ao<|Da BB (by kernel_rfl)<|Bq O<|Ah (fun c o=>Bh AX O O (d.bs o) 0 O (Nat.zero_lt_succ _)) O<|Ah (fun c o=>Ex.as (Bo (AN _) O (d.bs o) (Nat.zero_lt_succ _)) O) O<|Bq O<|Ah (fun c o=>Bh AX O O (d.bs o) 0 O (Nat.zero_lt_succ _)) O<|Ah (fun c o=>Ex.as (Bo (AN _) O (d.bs o) (Nat.zero_lt_succ _)) O) O<|Bq O<|Ah (fun c o=>Bh AX O O (d.bs o) 1 O (show 1<2 by decide)) O<|Ah (fun c o=>Ex.as (Bo (AN _) O (d.bs o) (show 1<2 by decide)) O) O<|Db O O (fun c o=>(JO a.1 b.1 a.2 b.2 _ (y.bs o) (J.bs o)).q o)<|Dx O<|Dx O ?_
  refine C2 (fun N o=> ?_)
  refine Ar<|B9<|Dq<|Bj<|Av<|Bx O O O ?_
  refine ⟨bt E o,FS (y.bs o) ?_ fun e=> ?_⟩
  ·rw [t]
   by_cases e:a.2=b.2
   ·rw [if_pos e,z,decide_eq_true e]
   ·rw [if_neg e,decide_eq_false e];rfl
  ·rw [t,if_pos (AC e)]
 intro q4
 refine Ao<|Ad<|Aa (Ch O (show _=some (b8 (5#8)) from rfl)) O<|Ab O<|Ak<|Aq O ?_ ?_
 ·intro q
  have g:x.k=5#8:=AC q
  refine Bw<|Bu O true (q)<|Ao ?_
  have l1:ps.length=1:=by have:=(AY (by rw [g] at A;exact A) U6).1;omega
  obtain ⟨a,l,rfl⟩:=IG (ps:=ps) (by omega)
  have D:a ∈ a::l:=by simp
  have z:=C a D
  have y:=h.each a D
  have d:=h.sl
  have t:G=a.2:=by rw [L,g];rfl
  refine Bn<|Ac O<|Aa (Bh AX O O (d.bs (Below.refl _ _)) 0 O (Nat.zero_lt_succ _)) O<|Aa (Ex.as (Bo (AN _) O (d.bs (Below.refl _ _)) (Nat.zero_lt_succ _)) O) O<|Ab O<|Ab O<|Ay<|Bj<|Av<|Bx O O O ?_
  exact ⟨E,FW (t ▸ y) (by rw [t];exact z)⟩
 intro q5
 refine Bn<|Aa (Ch O (show _=some (b8 (6#8)) from rfl)) O<|Ab O<|Ak<|Aq O ?_ ?_
 ·intro q
  have g:x.k=6#8:=AC q
  refine Ao ?_
  have l1:ps.length=1:=by have:=(AY (by rw [g] at A;exact A) Tx).1;omega
  obtain ⟨a,l,rfl⟩:=IG (ps:=ps) (by omega)
  have D:a ∈ a::l:=by simp
  have z:=C a D
  have y:=h.each a D
  have d:=h.sl
  have t:G=a.2:=by rw [L,g];rfl
  refine Bn<|Ac O<|Aa (Bh AX O O (d.bs (Below.refl _ _)) 0 O (Nat.zero_lt_succ _)) O<|Aa (Ex.as (Bo (AN _) O (d.bs (Below.refl _ _)) (Nat.zero_lt_succ _)) O) O<|Ab O<|Ab O<|Ay<|Bj<|Av<|Bx O O O ?_
  exact ⟨E,FW (t ▸ y) (by rw [t];exact z)⟩
 intro q6
 refine Ad<|Aa (Ch O (show _=some (b8 (7#8)) from rfl)) O<|Ab O<|Ak<|Aq O ?_ ?_
 ·intro q
  have g:x.k=7#8:=AC q
  have l2:ps.length=2:=by have:=(AY (by rw [g] at A;exact A) Tw).1;omega
  obtain ⟨a,b,rfl⟩:=Ly l2
  have D:a ∈ [a,b]:=by simp
  have R:b ∈ [a,b]:=by simp
  have z:=C a D
  have V:=C b R
  have y:=h.each a D
  have J:=h.each b R
  have d:=h.sl
  clear l2
  have t:G=if Gy a.2 b.2=0 then [a.2.getD 0 default,b.2.getD 1 default] else []:=by rw [L,g];rfl
  refine Ao ?_
  rename World=>c
  refine Cw.any BB (fun N B _=> ?_)
  refine Dg (fun Q=>Below c.heap.size c Q) (fun hC=> ?_) (B)
  refine Cf (Am (Bf (Am Br)))<|Af 0 O (fun c f=>B4 O) O<|Af 1 O (fun c f=>Bh AX O O (d.bs f) 0 O (Nat.zero_lt_succ _)) O<|Af 2 O (fun c f=>Ex.as (Bo (AN _) O (d.bs f) (Nat.zero_lt_succ _)) O) O<|Af 3 O (fun c f=>B4 O) O<|Af 4 O (fun c f=>Bh AX O O (d.bs f) 1 O (show 1<2 by decide)) O<|Af 5 O (fun c f=>Ex.as (Bo (AN _) O (d.bs f) (show 1<2 by decide)) O) O<|B5<|AR.only ‹_› (i:=6) (by kernel_rfl) O ?_
  refine Ai O O (PE a.1 b.1 a.2 b.2 N (y.bs B) (J.bs B)) ?_
  rintro _ w3 ⟨I,u,rfl,X,Y⟩
  have B:=bt B I
  refine AR.back<|Cf (Am (Bf (Am Br)))<|Af 7 O (fun c f=>B4 O) O<|Af 8 O (fun c f=>Bt (i:=0) O O) O<|Af 9 O (fun c f=>Bt (i:=1) O O) O<|Af 10 O (fun c f=>Ce O) O<|Af 11 O (fun c f=>Ce O) O<|B5<|Cq ‹_› (by kernel_rfl) ?_
  refine Cb<|Ac O<|Ac O<|Aa (C6 O O) O<|Ab O<|Ab O<|Ay<|Bj<|Av<|Bx O O O ?_
  have E:=bt E B
  refine ⟨E, ?_⟩
  by_cases e:Gy a.2 b.2=0
  ·rw [if_pos e] at t
   rw [decide_eq_true e]
   have d0:=Rw e
   exact FW (by rw [t];exact BD (Y e)) (by rw [t];exact d0)
  ·rw [if_neg e] at t
   rw [decide_eq_false e,X e]
   exact FS (s:=[]) (Ck _ _) (by rw [t];rfl) fun h=>by cases h
 intro q7
 refine Ad<|Aa (Ch O (show _=some (b8 (8#8)) from rfl)) O<|Ab O<|Ak<|Aq O ?_ ?_
 ·intro q
  have g:x.k=8#8:=AC q
  have l2:ps.length=2:=by have:=(AY (by rw [g] at A;exact A) RM).1;omega
  obtain ⟨a,b,rfl⟩:=Ly l2
  have D:a ∈ [a,b]:=by simp
  have R:b ∈ [a,b]:=by simp
  have z:=C a D
  have V:=C b R
  have y:=h.each a D
  have J:=h.each b R
  have d:=h.sl
  clear l2
  have t:G=if CI a.2 b.2 x.n x.p=0 then Hi a.2 b.2 x.n x.p else []:=by rw [L,g];rfl
  refine Ao ?_
  rename World=>c
  refine Cw.any BB (fun N B _=> ?_)
  refine Dg (fun Q=>Below c.heap.size c Q) (fun hC=> ?_) (B)
  refine Cf (Am (Bf (Am Br)))<|Af 0 O (fun c f=>B4 O) O<|Af 1 O (fun c f=>Bh AX O O (d.bs f) 0 O (Nat.zero_lt_succ _)) O<|Af 2 O (fun c f=>Ex.as (Bo (AN _) O (d.bs f) (Nat.zero_lt_succ _)) O) O<|Af 3 O (fun c f=>B4 O) O<|Af 4 O (fun c f=>Bh AX O O (d.bs f) 1 O (show 1<2 by decide)) O<|Af 5 O (fun c f=>Ex.as (Bo (AN _) O (d.bs f) (show 1<2 by decide)) O) O<|Af 6 O (fun c f=>B8 underlying79 O (BC _)) O<|Af 7 O (fun c f=>Al (AO _) O (AP.bs ‹_› f) O) O<|Af 8 O (fun c f=>B8 underlying79 O (BC _)) O<|Af 9 O (fun c f=>Al (AO _) O (AP.bs ‹_› f) O) O<|B5 ?_
  refine AR.only ‹_› (i:=10) (by kernel_rfl) O ?_
  refine Ai O O (P9 a.2 b.2 x.n x.p a.1 b.1 N (y.bs B) (J.bs B)) ?_
  rintro _ w3 ⟨I,u,m,rfl,K,X,Y⟩
  have B:=bt B I
  refine AR.back<|Cf (Am (Bf (Am Br)))<|Af 11 O (fun c f=>B4 O) O<|Af 12 O (fun c f=>Bt (i:=0) O O) O<|Af 13 O (fun c f=>Bt (i:=1) O O) O<|Af 14 O (fun c f=>Ce O) O<|Af 15 O (fun c f=>Ce O) O<|B5<|Cq ‹_› (by kernel_rfl) ?_
  refine Cb<|Ac O<|Ac O<|Aa (C6 O O) O<|Ab O<|Ab O<|Ay<|Bj<|Av<|Bx O O O ?_
  have E:=bt E B
  refine ⟨E, ?_⟩
  by_cases e:CI a.2 b.2 x.n x.p=0
  ·rw [if_pos e] at t
   rw [decide_eq_true e]
   exact FW (by rw [t,← Y e];exact BD K) (by rw [t];exact Uh e)
  ·rw [if_neg e] at t
   rw [decide_eq_false e,(X e).1]
   exact FS (s:=[]) (Ck _ _) (by rw [t];rfl) fun h=>by cases h
 intro q8
 refine Ad<|Aa (Ch O (show _=some (b8 (9#8)) from rfl)) O<|Ab O<|Ak<|Aq O ?_ ?_
 ·intro q
  have g:x.k=9#8:=AC q
  have l1:ps.length=1:=by have:=(AY (by rw [g] at A;exact A) Tv).1;omega
  obtain ⟨a,l,rfl⟩:=IG (ps:=ps) (by omega)
  have D:a ∈ a::l:=by simp
  have z:=C a D
  have y:=h.each a D
  have d:=h.sl
  have t:G=if CK a.2 x.n=0 then HR a.2 x.n else []:=by rw [L,g];rfl
  refine Ao ?_
  rename World=>c
  refine Cw.any BB (fun N B _=> ?_)
  refine Dg (fun Q=>Below c.heap.size c Q) (fun hC=> ?_) (B)
  refine Cf (Am (Bf (Am Br)))<|Af 0 O (fun c f=>B4 O) O<|Af 1 O (fun c f=>Bh AX O O (d.bs f) 0 O (Nat.zero_lt_succ _)) O<|Af 2 O (fun c f=>Ex.as (Bo (AN _) O (d.bs f) (Nat.zero_lt_succ _)) O) O<|Af 3 O (fun c f=>B8 underlying79 O (BC _)) O<|Af 4 O (fun c f=>Al (AO _) O (AP.bs ‹_› f) O) O<|B5 ?_
  refine AR.only ‹_› (i:=5) (by kernel_rfl) O ?_
  refine Ai O O (NQ a.2 x.n a.1 N (y.bs B)) ?_
  rintro _ w3 ⟨I,u,m,rfl,K,X,Y⟩
  have B:=bt B I
  refine AR.back<|Cf (Am (Bf (Am Br)))<|Af 6 O (fun c f=>B4 O) O<|Af 7 O (fun c f=>Bt (i:=0) O O) O<|Af 8 O (fun c f=>Bt (i:=1) O O) O<|Af 9 O (fun c f=>Ce O) O<|Af 10 O (fun c f=>Ce O) O<|B5<|Cq ‹_› (by kernel_rfl) ?_
  refine Cb<|Ac O<|Ac O<|Aa (C6 O O) O<|Ab O<|Ab O<|Ay<|Bj<|Av<|Bx O O O ?_
  have E:=bt E B
  refine ⟨E, ?_⟩
  by_cases e:CK a.2 x.n=0
  ·rw [if_pos e] at t
   rw [decide_eq_true e]
   exact FW (by rw [t,← Y e];exact BD K) (by rw [t];exact Uu z e)
  ·rw [if_neg e] at t
   rw [decide_eq_false e,(X e).1]
   exact FS (s:=[]) (Ck _ _) (by rw [t];rfl) fun h=>by cases h
 intro q9
 refine Ad<|Aa (Ch O (show _=some (b8 (10#8)) from rfl)) O<|Ab O<|Ak<|Aq O ?_ ?_
 ·intro q
  have g:x.k=10#8:=AC q
  have l1:ps.length=1:=by have:=(AY (by rw [g] at A;exact A) Lj).1;omega
  obtain ⟨a,l,rfl⟩:=IG (ps:=ps) (by omega)
  have D:a ∈ a::l:=by simp
  have z:=C a D
  have y:=h.each a D
  have d:=h.sl
  have H:Shapes.ok x.s=true:=(AY (by rw [g] at A;exact A) Lj).2
  have t:G=if Shapes.size a.2=Shapes.size x.s then x.s else []:=by rw [L,g];rfl
  refine Ao<|Da BB (by kernel_rfl)<|Ah (fun c o=>B8 underlying79 O (AT _)) O<|Ah (fun c o=>Al (AN _) O (AP.bs ‹_› o) O) O ?_
  refine Ah (fun c o=>B8 underlying79 O (AT _)) O<|Ah (fun c o=>Al (AN _) O (AP.bs ‹_› o) O) O ?_
  refine Db O O (fun c o=>(J1 x.y x.s _ (F.bs o)).q o)<|Bq O<|Ah (fun c o=>Bh AX O O (d.bs o) 0 O (Nat.zero_lt_succ _)) O<|Ah (fun c o=>Ex.as (Bo (AN _) O (d.bs o) (Nat.zero_lt_succ _)) O) O<|Db O O (fun c o=>(J1 a.1 a.2 _ (y.bs o)).q o)<|Ah (fun c o=>C6 O O) O<|Dx O<|Dx O ?_
  refine C2 (fun N o=> ?_)
  refine Ar<|B9<|Dq<|Bj<|Av<|Bx O O O ?_
  refine ⟨bt E o,FS (F.bs o) ?_ fun e=> ?_⟩
  ·rw [t]
   by_cases e:Shapes.size a.2=Shapes.size x.s
   ·rw [if_pos e,H,decide_eq_true e.symm]
   ·rw [if_neg e,decide_eq_false fun h=>e h.symm];rfl
  ·rw [t,if_pos (AC e).symm]
 intro q10
 refine Ad<|Aa (Ch O (show _=some (b8 (11#8)) from rfl)) O<|Ab O<|Ak<|Aq O ?_ ?_
 ·intro q
  have g:x.k=11#8:=AC q
  have l1:ps.length=1:=by have:=(AY (by rw [g] at A;exact A) Li).1;omega
  obtain ⟨a,l,rfl⟩:=IG (ps:=ps) (by omega)
  have D:a ∈ a::l:=by simp
  have z:=C a D
  have y:=h.each a D
  have d:=h.sl
  have H:HC x.s=true:=(AY (by rw [g] at A;exact A) Li).2
  have t:G=Mu a.2 x.s:=by rw [L,g];rfl
  unfold Mu at t
  have S:=H
  rw [Nf,Bool.and_eq_true,decide_eq_true_iff] at S
  have k_c:TG x.s=true:=by unfold HC at H;exact (Bool.and_eq_true _ _ ▸ H).1
  refine Ao<|Ao<|Da BB (by kernel_rfl)<|Ah (fun c o=>B8 underlying79 O (AT _)) O<|Ah (fun c o=>Al (AN _) O (AP.bs ‹_› o) O) O ?_
  refine Ah (fun c o=>Ap AE O (Sl.bs ‹_› o)) O ?_
  refine Bq O<|Ah (fun c o=>Bh AX O O (d.bs o) 0 O (Nat.zero_lt_succ _)) O<|Ah (fun c o=>Ex.as (Bo (AN _) O (d.bs o) (Nat.zero_lt_succ _)) O) O<|Ah (fun c o=>Ap AE O (Sl.bs ‹_› o)) O ?_
  refine Ah (fun c o=>Ct O O) O ?_
  refine C2 (fun N o=> ?_)
  refine Ar<|B9<|Aq O ?_ ?_
  ·intro q
   have l2:¬a.2.length=x.s.length:=fun e=>by rw [e] at q;simp at q
   rw [if_neg l2] at t
   refine Ad<|Ab O<|Ab O<|B2<|Bj<|Av<|Bx O O O ?_
   exact ⟨bt E o,FS (s:=[]) (Ck _ _) (by rw [t];rfl) fun h=>by cases h⟩
  intro q
  have l2:a.2.length=x.s.length:=by simp at q;omega
  rw [if_pos l2] at t
  have hb:=So k_c S.1
  have ho:∀j,j<x.s.length→0≤x.s.getD j default∧x.s.getD j default<(a.2.length:Int):=fun j hj=>by
   have:=hb _ (GU hj)
   omega
  have E:=E.bs o
  have F:=F.bs o
  have h:=h.bs o
  have M:=M.bs o
  refine Bw<|Ao ?_
  have d:=h.sl
  have y:=h.each a D
  rename World=>c
  refine Cw.any BB (fun N B _=> ?_)
  refine Dg (fun Q=>Below c.heap.size c Q) (fun hC=> ?_) (B)
  refine Cf (Am (Bf (Am Br)))<|Af 0 O (fun c f=>B4 O) O<|Af 1 O (fun c f=>Bh AX O O (d.bs f) 0 O (Nat.zero_lt_succ _)) O<|Af 2 O (fun c f=>Ex.as (Bo (AN _) O (d.bs f) (Nat.zero_lt_succ _)) O) O<|Af 3 O (fun c f=>B8 underlying79 O (AT _)) O<|Af 4 O (fun c f=>Al (AN _) O (AP.bs ‹_› f) O) O<|B5 ?_
  refine AR.only ‹_› (i:=5) (by kernel_rfl) O ?_
  refine Ai O O (PB a.1 x.y a.2 x.s N (y.bs B) (F.bs B) ho S.1) ?_
  rintro u w3 ⟨I,K⟩
  have B:=bt B I
  refine AR.back<|Cf (Am (Bf (Am Br)))<|Af 6 O (fun c f=>Ce O) O<|Af 7 O (fun c f=>Ce O) O<|B5<|Cq ‹_› (by kernel_rfl) ?_
  refine Ar<|B9<|Dq<|Bj<|Av<|Bx O O O ?_
  refine ⟨bt E B,FW ?_ ?_⟩
  ·rw [t]
   have:=AF K
   rw [← GD a.2 x.s] at this
   exact this
  ·rw [t]
   exact SR z S.2 l2.symm
 intro q11
 refine Ad<|Aa (Ch O (show _=some (b8 (12#8)) from rfl)) O<|Ab O<|Ak<|Aq O ?_ ?_
 ·intro q
  have g:x.k=12#8:=AC q
  have lk:=(AY (by rw [g] at A;exact A) MQ).1
  have t:G=Pk (AW ps) x.n.toNat:=by rw [L,g];rfl
  obtain ⟨j1,j2⟩:=Vv (l:=AW ps) (n:=x.n) (by rw [length_map];omega) (by rw [length_map];omega) (fun s hs=>by
   obtain ⟨p,hp,rfl⟩:=List.mem_map.1 hs
   exact C p hp) (by omega)
  rw [← t] at j1 j2
  refine Ad<|Ac O<|Ba underlying79 O (BC _)<|Aa (Al (AO _) O ‹_› rfl) O ?_
  refine Ai O O (PG v ps x.n _ h) ?_
  rintro _ w ⟨I,u,s,rfl,s_u,hs⟩
  have E:=E.bs I
  have F:=F.bs I
  have h:=h.bs I
  have M:=M.bs I
  exact Ac rfl<|Aa (Bt (i:=0) rfl rfl) rfl<|Aa (Bt (i:=1) rfl rfl) rfl<|Ab rfl<|Ab rfl<|Be<|Ac rfl<|Ac rfl<|Aa (C6 rfl rfl) rfl<|Ab rfl<|Ab rfl<|Ay<|Bj<|Av<|Bx rfl rfl rfl<|⟨E,FS s_u j1 fun e=>Option.some.inj ((hs (AC e)).symm.trans (j2 (AC e)))⟩
 intro Z
 have g:x.k=13#8:=by
  have:=H8 A
  obtain ⟨_,_,_,_,_,_,e⟩:=this
  have:=J6 x.k (by rw [e];rfl)
  rcases this with e|e|e|e|e|e|e|e|e|e|e|e|e
  ·rw [e] at q1;cases q1
  ·rw [e] at q2;cases q2
  ·rw [e] at q3;cases q3
  ·rw [e] at q4;cases q4
  ·rw [e] at q5;cases q5
  ·rw [e] at q6;cases q6
  ·rw [e] at q7;cases q7
  ·rw [e] at q8;cases q8
  ·rw [e] at q9;cases q9
  ·rw [e] at q10;cases q10
  ·rw [e] at q11;cases q11
  ·rw [e] at Z;cases Z
  ·exact e
 have l1:ps.length=1:=by have:=(AY (by rw [g] at A;exact A) Lh).1;omega
 obtain ⟨a,l,rfl⟩:=IG (ps:=ps) (by omega)
 have D:a ∈ a::l:=by simp
 have z:=C a D
 have y:=h.each a D
 have d:=h.sl
 have lk:=(AY (by rw [g] at A;exact A) Lh).1
 have t:G=SP a.2 x.n:=by rw [L,g];rfl
 obtain ⟨k,U⟩:∃k:Nat,x.n=(k:Int):=⟨x.n.toNat,by omega⟩
 have la:=Gv z
 have T:decide ((k:Int)<(a.2.length:Int))=Shapes.ok G∧((k:Int)<(a.2.length:Int)→SO a.2 k=G):=by
  rw [t,U]
  unfold SP
  by_cases e:k<a.2.length
  ·have e2:(if (a.2.length:Int)≤(k:Int) then [] else if a.2.length=1 then [1] else a.2.eraseIdx (k:Int).toNat)=FR a.2 k:=by
    rw [if_neg (by omega),Int.toNat_natCast,eraseIdx_eq_take_drop_succ];rfl
   rw [e2,N7 z e,decide_eq_true (by omega)]
   exact ⟨rfl,fun _=>Ui e⟩
  ·rw [if_pos (by omega),decide_eq_false (by omega)]
   exact ⟨rfl,fun h=>by omega⟩
 refine Cj<|Bg<|Ar<|B9<|Ao ?_
 rename World=>c
 refine Cw.any BB (fun N B _=> ?_)
 refine Dg (fun Q=>Below c.heap.size c Q) (fun hC=> ?_) (B)
 refine Cf (Am Br)<|Af 0 O (fun c f=>B4 O) O<|Af 1 O (fun c f=>Bh AX O O (d.bs f) 0 O (Nat.zero_lt_succ _)) O<|Af 2 O (fun c f=>Ex.as (Bo (AN _) O (d.bs f) (Nat.zero_lt_succ _)) O) O<|Af 3 O (fun c f=>B8 underlying79 O (BC _)) O<|Af 4 O (fun c f=>Ex.as (Al (AO _) O (AP.bs M f) O) (cngA (Value.int .i64) U)) O<|Af 6 O (fun c f=>B8 underlying79 O (BC _)) O<|Af 7 O (fun c f=>Ex.as (Al (AO _) O (AP.bs M f) O) (cngA (Value.int .i64) U)) O<|Af 8 O (fun c f=>B4 O) O<|Af 9 O (fun c f=>Bh AX O O (d.bs f) 0 O (Nat.zero_lt_succ _)) O<|Af 10 O (fun c f=>Ex.as (Bo (AN _) O (d.bs f) (Nat.zero_lt_succ _)) O) O<|Af 11 O (fun c f=>Ap AE O (y.bs f)) O<|Af 12 O (fun c f=>Er O O) O<|B5<|AR.only ‹_› (i:=5) (by kernel_rfl) O ?_
 refine Ai O O (Mz a.1 a.2 k N (y.bs B) la.2) ?_
 rintro u w3 ⟨I,K⟩
 have B:=bt B I
 refine AR.back<|Cf (Am Br)<|Af 13 O (fun c f=>Ce O) O<|Af 14 O (fun c f=>Ce O) O<|B5<|Cq ‹_› (by kernel_rfl) ?_
 exact Ar<|B9<|Dq<|Bx rfl rfl rfl<|⟨bt E B,FS (BD K) T.1 fun e=>T.2 (AC e)⟩

theorem RK {x:N5} (h:CU x.k x.i x.s x.n x.p=true):x.i.length≤4:=by
 obtain ⟨a,b,c,d,e,f,g⟩:=H8 h
 have l:=(AY h g).1
 have j:∀p ∈ Lk,p.2.2.getD 1 0≤4:=by decide
 unfold DI at g
 cases hf:Lk.find? (fun p=>decide (p.2.1=(x.k.toNat:Int))) with
 |none=>rw [hf] at g;cases g
 |some p=>
  rw [hf] at g
  have i:=j p (mem_of_find?_eq_some hf)
  have k:p.2.2=[a,b,c,d,e,f]:=by simpa using g
  rw [k] at i
  simp at i
  omega
theorem RG:∀k:BitVec 8,(!(DI k).isSome||(Jf k==(!decide (k=1#8) && !decide (k=2#8))))=true:=by decide+kernel
theorem MU {ls:List N5} {i:Nat} {x:N5} (a:i<ls.length) (b:x=ls[i]):DJ (ls.take (i+1))=if x.k=1#8 then DJ (ls.take i)+1 else DJ (ls.take i):=by
 rw [take_succ_eq_append_getElem a,← b]
 unfold DJ
 rw [filter_append,length_append]
 by_cases e:x.k=1#8
 ·rw [if_pos e,filter_cons,decide_eq_true e];rfl
 ·rw [if_neg e,filter_cons,decide_eq_false e];rfl
theorem RV {m:Nat} {l:List Int} {k:Nat} (a:k<l.length) (h:l.getD k default<0∨(m:Int)≤l.getD k default):inB m l=true:=by
 unfold inB
 rw [any_eq_true]
 refine ⟨l.getD k default,GU a, ?_⟩
 rcases h with h|h
 ·rw [decide_eq_true h];rfl
 ·rw [decide_eq_true h,Bool.or_true]
theorem UD {m:Nat} {l:List Int} (h:∀j ∈ l,0≤j∧j<(m:Int)):inB m l=false:=by
 unfold inB
 rw [any_eq_false]
 intro j a
 have:=h j a
 rw [decide_eq_false (show ¬j<0 by omega),decide_eq_false (show ¬(m:Int)≤j by omega)]
 decide
set_option maxHeartbeats 1000000 in
theorem PD (v:Value) (ls:List N5) (W:World) (h:GN W v ls):
  AK prog 162 [.agg [v].toArray] W (fun r w' =>Below W.heap.size W w' ∧match GL ls with
   |none=>∃u,r= .tuple #[u, .bool false]
   |some ss=>∃u ps,r= .tuple #[u, .bool true]∧LI w' u ps∧AW ps=ss):=by
 obtain ⟨R,hR⟩:∃R,R=GL ls:=⟨_,rfl⟩
 rw [← hR]
 have o:=Below.refl W.heap.size W
 have L:=h.sl
 have hle:=h.sl.le
 refine Az (n:=109) func162 O<|Ad<|Cr (cs:=[v]) O O O ?_
 rintro A_g w1 eA_g A hn1 -
 have o:=o.bs hn1
 have L:=L.bs hn1
 refine Ab O<|Ab O<|Bi<|Ba underlying24 O (BU _)<|Aa (Al (CD _) O ‹_› rfl) O ?_
 refine Aa (Ap BE O ‹_›) O ?_
 refine Bz O<|Ac O ?_
 refine Cc 17 O ?_ ?_
 ·intro g
  have g:=AC g
  refine Ae (dj:=17) O O O O<|Ae (dj:=17) O O O O<|Ae (dj:=17) O O O O<|Ae (dj:=17) O O O O<|B7 O<|Ak<|Ca O<|Ad<|Ab O<|Ab O<|B2<|Bx O O O ?_
  have hN:R=none:=by rw [hR,GL,if_pos (by omega)]
  rw [hN]
  exact ⟨o,_,rfl⟩
 intro g1
 have g1:=AD g1
 refine Ag (dj:=17) O O<|Ba underlying24 O (BU _)<|Ag (dj:=17) O O<|Aa (Al (CD _) O ‹_› rfl) O ?_
 refine Ag (dj:=17) O O<|Aa (Ap BE O ‹_›) O ?_
 refine Ag (dj:=17) O O<|Aa (Dh O O) O<|Ci O<|Ak<|Aq O ?_ ?_
 ·intro g
  have g:=AC g
  refine Ad<|Ab O<|Ab O<|B2<|Bx O O O ?_
  have hN:R=none:=by rw [hR,GL,if_pos (by omega)]
  rw [hN]
  exact ⟨o,_,rfl⟩
 intro g2
 have g2:=AD g2
 have Z:GL ls=match FA [] ls with|some ss=>if DJ ls=1∧Jf (ls.getD (ls.length - 1) default).k=true then some ss else none|none=>none:=by rw [GL,if_neg (by omega)];rfl
 have hRn:FA [] ls=none→R=none:=fun e=>by rw [hR,Z,e]
 have z1:=AA o
 have y_g:=BA A
 obtain ⟨B,hBd⟩:∃B,B=w1.heap.size:=⟨_,rfl⟩
 have hW1:=o
 clear o hn1
 refine Cs<|Ab O<|Be<|Ab O<|Bi<|Ab O<|Ak<|An ?_
 refine Bl (S:=(Nat×Nat×Value×List (Value×List Int))) (fun z=>[(1, .pointer (some ⟨A_g,0,none⟩)),(4, .int .i64 (z.2.1:Int)),(5,z.2.2.1),(6, .int .i64 (z.1:Int))]) (fun z w' =>z.1≤ls.length∧Below w1.heap.size w1 w' ∧w'.ownsRow B 70 1 z.2.2.1 z.1 (z.2.2.2.map (·.1))∧II B w' z.2.2.1 z.2.2.2∧(∀p ∈ z.2.2.2,Shapes.ok p.2=true)∧FA (AW z.2.2.2) (ls.drop z.1)=FA [] ls∧z.2.1=DJ (ls.take z.1)∧z.2.2.2.length=z.1∧z.2.1≤z.1) (fun z=>ls.length - z.1) ((0,0, .slice none 0 0,[])) ⟨rfl,rfl,rfl,rfl,trivial⟩ ?_ ?_
 ·exact ⟨Nat.zero_le _,Below.refl _ _,⟨rfl, .inl ⟨rfl,rfl⟩⟩,(fun p M=>by cases M),(fun p M=>by cases M),rfl,rfl,rfl,AU _⟩
 rintro ⟨i,c,u,ps⟩ w2 ⟨hi,o,l,d,hok,C,hc,Q,hci⟩
 dsimp only at hi o l d hok C hc Q hci ⊢
 have L:=L.bs o
 have A:=A.bs o
 have z2:=o.size
 have ub:=AB l
 have lps2:(AW ps).length=ps.length:=length_map _
 have V:=bt hW1 o
 refine Ao<|Ad<|Ac O<|Ba underlying24 O (BU _)<|Aa (Al (CD _) O ‹_› rfl) O ?_
 refine Aa (Ap BE O ‹_›) O ?_
 refine Bz O<|Ak<|Aq O ?_ ?_
 ·intro g
  have J:i<ls.length:=by have:=AC g;omega
  obtain ⟨x,E⟩:∃x,x=ls[i]:=⟨_,rfl⟩
  have hx:=(h.each x (E ▸ getElem_mem J)).bs V
  have hcl:=h.cells J
  rw [← E] at hcl
  have hdr:ls.drop i=x::ls.drop (i+1):=by rw [E];exact drop_eq_getElem_cons J
  have Y:FA [] ls=match JI (AW ps) x with|some s=>FA (AW ps++[s]) (ls.drop (i+1))|none=>none:=by rw [← C,hdr];rfl
  have hno:JI (AW ps) x=none→R=none:=fun e=>hRn (by rw [Y,e])
  refine Bw<|Ao<|An<|Ad<|Ba underlying24 O (BU _)<|Aa (Al (CD _) O ‹_› rfl) O ?_
  refine Ac O<|Aa (Cl BE O O L i O J) O<|Aa (C8 (cs:=x.cells) (EK _) (EH _) O L O (by decide) hcl) O<|Cz (cs:=x.cells) EJ O O O O (fun _=>rfl) (hx.ones) ?_
  rintro A_x w3 eA_x b_x f zhn
  have hx:=hx.bs f
  replace o:=bt o f
  have d:=d.bs f
  have l:=AI l f
  have A:=A.bs f
  have z3:=f.size
  refine Bi<|Aa (Cx (EK _) (EH _) O O ‹_›) O ?_
  refine Ai O O (Ti x w3 hx) ?_
  rintro _ w4 ⟨rfl,f⟩
  have hx:=hx.bs f
  have b_x:=b_x.bs f
  replace o:=bt o f
  have d:=d.bs f
  have l:=AI l f
  have A:=A.bs f
  have z4:=f.size
  refine Aa (Co O) O<|Ak<|Aq O ?_ ?_
  ·intro gk
   have gk:CU x.k x.i x.s x.n x.p=false:=by simpa using gk
   refine Ad<|Ab O<|Ab O<|B2<|Bj<|Av<|Av<|Bj<|Av<|Bx O O O ?_
   have hN:R=none:=hno (by unfold JI;rw [gk];rfl)
   rw [hN]
   exact ⟨bt hW1 o,_,rfl⟩
  intro gk
  have gk:CU x.k x.i x.s x.n x.p=true:=by simpa using gk
  obtain ⟨c',hc'⟩:∃c' :Nat,c' =if x.k=1#8 then c+1 else c:=⟨_,rfl⟩
  refine Bw<|Ao<|Ad<|Ba underlying79 O (EA _)<|Aa (Al (ED _) O ‹_› rfl) O ?_
  refine Aa (Ch O (show _=some (b8 (1#8)) from rfl)) O<|Ak ?_
  refine Cw.mid (F:=[(1, .pointer (some ⟨A_g,0,none⟩)),(4, .int .i64 (c' :Int)),(5,u),(6, .int .i64 (i:Int)),(7, .pointer (some ⟨A_x,0,none⟩))]) (I:=fun w' =>w' =w4) ?_ ?_
  ·refine Aq O ?_ ?_
   ·intro q
    have q:=AC q
    refine Bn<|Ac O<|Aa ((Dp O O (by omega)).as (cngA (Value.int .i64) (show (c:Int)+1=((c+1:Nat):Int) by omega))) O<|Ab O<|Bd ?_
    exact Pw.mid ⟨rfl,(by rw [hc',if_pos q];rfl),rfl,rfl,rfl,trivial⟩ (rfl)
   intro q
   have q:=AD q
   refine Cj ?_
   exact Pw.mid ⟨rfl,(by rw [hc',if_neg q];rfl),rfl,rfl,rfl,trivial⟩ (rfl)
  rintro w4' rfl
  refine B9 ?_
  have li:=RK gk
  have h_i:=hx.i
  have ub:=AB l
  refine Ad<|Ab O<|Bi<|Ab O<|Ak<|An ?_
  refine Bl (S:=(Nat×Value)) (fun z=>[(1, .pointer (some ⟨A_g,0,none⟩)),(4, .int .i64 (c' :Int)),(5,u),(6, .int .i64 (i:Int)),(7, .pointer (some ⟨A_x,0,none⟩)),(8,z.2),(9, .int .i64 (z.1:Int))]) (fun z w' =>z.1≤x.i.length∧Below w4'.heap.size w4' w' ∧w'.ownsRow w4'.heap.size 70 1 z.2 z.1 (((x.i.take z.1).map fun j=>ps.getD j.toNat default).map (·.1))∧(∀j ∈ x.i.take z.1,0≤j∧j<(i:Int))) (fun z=>x.i.length - z.1) ((0, .slice none 0 0)) ⟨rfl,rfl,rfl,rfl,rfl,rfl,rfl,trivial⟩ ?_ ?_
  ·exact ⟨Nat.zero_le _,Below.refl _ _,⟨rfl, .inl ⟨rfl,rfl⟩⟩,fun j T=>by simp at T⟩
  rintro ⟨k,q⟩ w5 ⟨hk,w,N,U⟩
  dsimp only at hk w N U ⊢
  have D:=h_i.bs w
  have b_x5:=b_x.bs w
  have z5:=w.size
  refine Ao<|Ad<|Ac O<|Ba underlying79 O (AT _)<|Aa (Al (AN _) O ‹_› rfl) O ?_
  refine Aa (Ap AE O ‹_›) O ?_
  refine Bz O<|Ak<|Aq O ?_ ?_
  ·intro g
   have t:k<x.i.length:=by have:=AC g;omega
   obtain ⟨j,T⟩:∃j,j=x.i.getD k default:=⟨_,rfl⟩
   refine Bw<|Ao<|An<|Ao<|Ad<|Ba underlying79 O (AT _)<|Aa (Al (AN _) O ‹_› rfl) O ?_
   refine Ac O<|Aa (Bh AE O O D k O t) O<|Aa ((Bo (AO _) O D t).as (cngA (Value.int .i64) T.symm)) O<|Bz O<|Ac O ?_
   refine Cc 56 O ?_ ?_
   ·intro g3
    have g3:=AC g3
    refine Ae (dj:=56) O O O O<|Ae (dj:=56) O O O O<|Ae (dj:=56) O O O O<|Ae (dj:=56) O O O O<|Ae (dj:=56) O O O O<|Ae (dj:=56) O O O O<|Ae (dj:=56) O O O O<|B7 O<|Ak<|Ca O<|Ad<|Ab O<|Ab O<|B2<|Bj<|Av<|Av<|Bj<|Av<|Bj<|Av<|Av<|Bj<|Av<|Bx O O O ?_
    have hN:R=none:=hno (by unfold JI;rw [lps2,Q,RV t (.inl (T ▸ g3))];simp)
    rw [hN]
    exact ⟨bt (bt hW1 o) w,_,rfl⟩
   intro g3
   have g3:=AD g3
   refine Ag (dj:=56) O O<|Ba underlying79 O (AT _)<|Ag (dj:=56) O O<|Aa (Al (AN _) O ‹_› rfl) O ?_
   refine Ag (dj:=56) O O<|Ac O<|Ag (dj:=56) O O<|Aa (Bh AE O O D k O t) O<|Ag (dj:=56) O O<|Aa ((Bo (AO _) O D t).as (cngA (Value.int .i64) T.symm)) O<|Ag (dj:=56) O O<|Ac O<|Ag (dj:=56) O O<|Aa (Eu O O) O<|Ci O<|Ak<|Aq O ?_ ?_
   ·intro g4
    have g4:=AC g4
    refine Ad<|Ab O<|Ab O<|B2<|Bj<|Av<|Av<|Bj<|Av<|Bj<|Av<|Av<|Bj<|Av<|Bx O O O ?_
    have hN:R=none:=hno (by unfold JI;rw [lps2,Q,RV t (.inr (T ▸ g4))];simp)
    rw [hN]
    exact ⟨bt (bt hW1 o) w,_,rfl⟩
   intro g4
   have g4:=AD g4
   have o_u5:=AI l w
   have su5:BO (fun p:Value×List Int=>p.1) w5 u ps:=by have:=AF o_u5;rw [← Q] at this;exact this
   have H:j.toNat<ps.length:=by omega
   have s_j:=((d (ps.getD j.toNat default) (by rw [getD_eq_getElem?_getD,getElem?_eq_getElem H];exact getElem_mem H)).1).bs w
   refine Bw<|Bn<|Ac O<|Ac O<|Ba underlying79 O (AT _)<|Aa (Al (AN _) O ‹_› rfl) O ?_
   refine Ac O<|Aa (Bh AE O O D k O t) O<|Aa ((Bo (AO _) O D t).as (cngA (Value.int .i64) (show _=((j.toNat:Nat):Int) by rw [← T];omega))) O<|Aa (Bh AX O O su5 j.toNat O H) O<|Aa (Bo (AN _) O su5 H) O<|Bc (Cv (vs:=[(ps.getD j.toNat default).1]) AX Jg O O O (by rw [all_cons,s_j.one'];rfl) O) O ?_
   rintro y w6 ⟨o_y, -,f, -⟩
   have hB6:=bt w f
   have N:=AI N f
   have s_j:=s_j.bs f
   refine Bc (Cn (base:=w4'.heap.size) AX Jg O (by decide) O O N (AF o_y) (by rw [all_cons,s_j.one'];rfl) (by omega) (by omega) hB6.size) O ?_
   rintro q' w7 ⟨o_q',f, -, -⟩
   have hB7:=hB6.trans f
   have e1:((x.i.take (k+1)).map fun j=>ps.getD j.toNat default).map (·.1)=((x.i.take k).map fun j=>ps.getD j.toNat default).map (·.1)++[(ps.getD j.toNat default).1]:=by
    rw [take_succ_eq_append_getElem t,map_append,map_append,T]
    simp [t]
   rw [← e1] at o_q'
   have hin' :∀m ∈ x.i.take (k+1),0≤m∧m<(i:Int):=fun m hm=>by
    rw [take_succ_eq_append_getElem t] at hm
    rcases List.mem_append.1 hm with hm|hm
    ·exact U m hm
    ·rw [List.mem_singleton.1 hm,show x.i[k]=j by rw [T];simp [t]];omega
   refine Ab O<|Bd<|Bg<|B6<|Ac O<|B1 O (by omega)<|Ab O<|Bd ?_
   exact Ar (Bp ((k+1,q')) ⟨rfl,rfl,rfl,rfl,rfl,rfl,rfl,trivial⟩ (⟨t,hB7,o_q',hin'⟩) (by simp only;omega))
  intro g
  have t:k=x.i.length:=by have:=AD g;omega
  subst t
  rw [take_length] at N U
  obtain ⟨qs,hqs⟩:∃qs,qs=x.i.map fun j=>ps.getD j.toNat default:=⟨_,rfl⟩
  rw [← hqs] at N
  have lqs:qs.length=x.i.length:=by rw [hqs,length_map]
  have hqm:∀p ∈ qs,p ∈ ps:=fun p M=>by
   rw [hqs] at M
   obtain ⟨j,T,rfl⟩:=List.mem_map.1 M
   have:=U j T
   have H:j.toNat<ps.length:=by omega
   rw [getD_eq_getElem?_getD,getElem?_eq_getElem H];exact getElem_mem H
  have hLI:LI w5 q qs:=⟨by have:=AF N;rw [← lqs] at this;exact this,fun p M=>((d p (hqm p M)).1).bs w⟩
  obtain ⟨G,hGd⟩:∃G,G=Kw x.k x.s x.n x.p (AW qs):=⟨_,rfl⟩
  have hG2:Kw x.k x.s x.n x.p (x.i.map fun j=>(AW ps).getD j.toNat [])=G:=by
   rw [hGd,hqs]
   congr 1
   unfold AW
   rw [map_map]
   refine map_congr_left fun j T=> ?_
   have:=U j T
   have H:j.toNat<ps.length:=by omega
   simp [getD_eq_getElem?_getD,H]
  have gb:inB (AW ps).length x.i=false:=by rw [lps2,Q];exact UD U
  have X:JI (AW ps) x=if Shapes.ok G=true then some G else none:=by
   unfold JI;rw [gk,gb,hG2]
   cases Shapes.ok G<;>rfl
  replace o:=bt o w
  have d:=d.bs w
  have l:=AI l w
  have A:=A.bs w
  have ub:=AB l
  refine Bk<|Aj<|Aj<|A0<|Cb<|Aa (Cx (EK _) (EH _) O O ‹_›) O ?_
  refine Ac O<|Ai O O (PH x q qs w5 (hx.bs w) hLI gk lqs (fun p M=>hok p (hqm p M))) ?_
  rintro _ w6 ⟨f,hT⟩
  rw [← hGd] at hT
  obtain ⟨y,s,rfl,s_y,hs⟩:=hT
  replace o:=bt o f
  have d:=d.bs f
  have l:=AI l f
  have A:=A.bs f
  have z6:=f.size
  refine Ac O<|Aa (Bt (i:=0) O O) O<|Aa (Bt (i:=1) O O) O<|Ab O<|Ab O<|Bi<|Ac O<|Aa (Co O) O<|Ak<|Aq O ?_ ?_
  ·intro go
   have go:Shapes.ok G=false:=by simpa using go
   refine Ad<|Ab O<|Ab O<|B2<|Bj<|Av<|Av<|Bj<|Av<|Bx O O O ?_
   have hN:R=none:=hno (by rw [X,go];rfl)
   rw [hN]
   exact ⟨bt hW1 o,_,rfl⟩
  intro go
  have go:Shapes.ok G=true:=by simpa using go
  rw [hs go] at s_y
  clear hs
  rw [if_pos go] at X
  have ls4:=Gv go
  have ub:=AB l
  have z6' :=o.size
  refine Bw<|Bn<|Ac O<|Ac O<|Bc (Cn (base:=w6.heap.size) AE DO O (by decide) O O (World.ownsRow_nil _ _ _ _) s_y (BL (fun _=>rfl) _) (by omega) (by omega) (AU _)) O ?_
  rintro y2 w7 ⟨o_y2, -,hg, -⟩
  rw [nil_append,Nat.zero_add] at o_y2
  have f:=EU hg (AU _) fun _ e=>by cases e
  replace o:=bt o f
  have d:=d.bs f
  have l:=AI l f
  have A:=A.bs f
  have y_own:=AB o_y2
  have K:=BD o_y2
  have z7:=f.size
  clear f hg
  refine Bc (Cv (vs:=[y2]) AX Jg O O O (by rw [all_cons,K.one'];rfl) O) O ?_
  rintro p2 w8 ⟨o_p2, -,f, -⟩
  replace o:=bt o f
  have d:=d.bs f
  have l:=AI l f
  have A:=A.bs f
  have K:=K.bs f
  have z8:=f.size
  refine Bc (Cn (base:=B) AX Jg O (by decide) O O l (AF o_p2) (by rw [all_cons,K.one'];rfl) (by omega) (by omega) (by have:=o.size;omega)) O ?_
  rintro u' w9 ⟨o_u',f,hg,hcs⟩
  have hoff2:II B w8 u (ps++[(y2,G)]):=fun p M=>(List.mem_append.1 M).elim (d p) (fun e=>by
   rw [List.mem_singleton.1 e]
   refine ⟨K,fun b e=> ?_⟩
   have h1:=y_own b e
   have:=o.size
   exact ⟨⟨by omega,by omega⟩,fun e2=>by have:=ub b e2;omega⟩)
  have d:=hoff2.grow hg hcs
  have e1:ps.map (·.1)++[y2]=(ps++[(y2,G)]).map (·.1):=by rw [map_append];rfl
  rw [e1] at o_u'
  replace o:Below w1.heap.size w1 w9:=by rw [← hBd] at o ⊢;exact o.trans f
  have hok' :∀p ∈ ps++[(y2,G)],Shapes.ok p.2=true:=fun p M=>(List.mem_append.1 M).elim (hok p) (fun e=>by rw [List.mem_singleton.1 e];exact go)
  have hrec' :FA (AW (ps++[(y2,G)])) (ls.drop (i+1))=FA [] ls:=by
   rw [Y,X]
   have:AW (ps++[(y2,G)])=AW ps++[G]:=by unfold AW;rw [map_append];rfl
   rw [this]
  have hcc:c' =DJ (ls.take (i+1)):=by rw [hc',hc,MU J E]
  have hci' :c' ≤i+1:=by rw [hc'];split<;>omega
  refine Ab O<|Bd<|Bg<|B6<|Ac O<|B1 O (by omega)<|Ab O<|Bd ?_
  exact Ar (Bp ((i+1,c',u',ps++[(y2,G)])) ⟨rfl,rfl,rfl,rfl,trivial⟩ (⟨J,o,o_u',d,hok',hrec',hcc,by rw [length_append,Q];rfl,hci'⟩) (by simp only;omega))
 intro g
 have J:i=ls.length:=by have:=AD g;omega
 subst J
 rw [drop_length] at C
 have C:FA [] ls=some (AW ps):=C.symm
 rw [take_length] at hc
 rw [C] at Z
 have hl' :ls.length - 1<ls.length:=by omega
 obtain ⟨x,E⟩:∃x,x=ls[ls.length - 1]:=⟨_,rfl⟩
 have exd:ls.getD (ls.length - 1) default=x:=by rw [getD_eq_getElem?_getD,getElem?_eq_getElem hl',E];rfl
 rw [exd] at Z
 have hcl:=h.cells hl'
 rw [← E] at hcl
 have hkx:(DI x.k).isSome=true:=by
  obtain ⟨_,_,_,_,_,_,e⟩:=H8 (I6 ls [] _ C x (E ▸ getElem_mem hl'))
  rw [e];rfl
 have hlf:Jf x.k=(!decide (x.k=1#8) && !decide (x.k=2#8)):=by
  have:=RG x.k
  rw [hkx] at this
  simpa using this
 rw [hlf] at Z
 have ad:∃ad c k,v= .slice (some ad) c k:=by
  obtain ⟨_,ao,cap,e,d1,d2,d3,_⟩:=h.sl
  cases ao with
  |none=>have:=d3 rfl;omega
  |some ad=>exact ⟨ad,_,_,e⟩
 have ck:(GI N5.cells ls)[(ls.length - 1)*5+0]? =some (b8 x.k):=by
  rw [J7 (fun a _=>Ed a) hl' (by decide),← E];rfl
 have hgf:R=if DJ ls=1∧(!decide (x.k=1#8) && !decide (x.k=2#8))=true then some (AW ps) else none:=by rw [hR,Z]
 refine Bk<|Aj<|Aj<|A0<|Cb<|Ba underlying24 O (BU _)<|Aa (Al (CD _) O ‹_› rfl) O ?_
 refine Ba underlying24 O (BU _)<|Aa (Al (CD _) O ‹_› rfl) O ?_
 refine Aa (Ap BE O ‹_›) O ?_
 refine Aa (Ex.as (D2 O O (by omega)) (cngA (Value.int .i64) (show (ls.length:Int) - 1=((ls.length - 1:Nat):Int) by omega))) O<|Aa (Cl BE O O L (ls.length - 1) O hl') O<|Aa (C9 (q:=0) underlying79 O (EA _) O ad) O<|Aa (Ea (ED _) O L ck) O<|Ab O<|Be<|Ac O<|Ac O<|Aa (C6 O O) O<|Ac O ?_
 refine Cc 101 O ?_ ?_
 ·intro gc
  have gc:DJ ls=1:=by rw [← hc];have:=AC gc;omega
  refine Ag (dj:=101) O O<|Ac O<|Ag (dj:=101) O O<|Aa (Fh O (show _=some (b8 (1#8)) from rfl)) O<|B7 O<|Ac O ?_
  refine Cc 105 O ?_ ?_
  ·intro g3
   refine Ag (dj:=105) O O<|Ac O<|Ag (dj:=105) O O<|Aa (Fh O (show _=some (b8 (2#8)) from rfl)) O<|B7 O<|Ab O<|Ab O<|Ay<|Bx O O O ?_
   have g3' :decide (x.k=1#8)=false:=by simpa using g3
   by_cases g4:x.k=2#8
   ·rw [hgf,if_neg (fun h=>by rw [g4] at h;simp at h)]
    exact ⟨V,_,by rw [g4];rfl⟩
   ·rw [hgf,if_pos ⟨gc,by rw [g3',decide_eq_false g4];rfl⟩]
    exact ⟨V,u,ps,by rw [decide_eq_false g4];rfl,⟨by have:=AF l;rw [← Q] at this;exact this,fun p M=>(d p M).1⟩,rfl⟩
  intro g3
  have g3' :decide (x.k=1#8)=true:=by simpa using g3
  refine Ae (dj:=105) O O O O<|Ae (dj:=105) O O O O<|Ci O<|Ab O<|Ab O<|Ay<|Bx O O O ?_
  rw [hgf,if_neg (fun h=>by rw [g3'] at h;simp at h)]
  exact ⟨V,_,rfl⟩
 intro gc
 have gc:¬DJ ls=1:=fun e=>by rw [← hc] at e;subst e;simp at gc
 refine Ae (dj:=101) O O O O<|Ae (dj:=101) O O O O<|Ci O<|Ac O<|Ae (dj:=105) O O O O<|Ae (dj:=105) O O O O<|Ci O<|Ab O<|Ab O<|Ay<|Bx O O O ?_
 rw [hgf,if_neg (fun h=>gc h.1)]
 exact ⟨V,_,rfl⟩

theorem Ut (x:BitVec 32):x / 256#32=x>>>8:=by
 apply BitVec.eq_of_toNat_eq
 rw [BitVec.toNat_udiv,BitVec.toNat_ushiftRight,Nat.shiftRight_eq_div_pow]
 rfl
theorem VF (n:BitVec 32) (i:Nat):(n>>>(8*i)) / 256#32=n>>>(8*(i+1)):=by
 rw [Ut,← BitVec.shiftRight_add]
 rfl
theorem Qt {n:BitVec 32} {i:Nat} (a:i<4):(Crc.four n).take (i+1)=(Crc.four n).take i++[(n>>>(8*i)).setWidth 8]:=by
 match i,a with
 |0,_=>simp [Crc.four]
 |1,_=>rfl
 |2,_=>rfl
 |3,_=>rfl
theorem Pc (v:Value) (l:List (BitVec 8)) (n:BitVec 32) (W:World) (D:BO b8 W v l) (H:l.length≤16777216):
  AK prog 152 [v,u32 n] W (fun r c=>Below W.heap.size W c∧c.ownsRow W.heap.size 5 1 r (l++Crc.four n).length ((l++Crc.four n).map b8)):=by
 refine Az (n:=22) func152 O<|Ad<|Ab O<|Be<|Ac O<|Bc (D4 (base:=W.heap.size) (k:=0) (xs:=[]) AL CY O (by decide) O O ⟨rfl, .inl ⟨rfl,rfl⟩⟩ D (BL (fun _=>rfl) _) (by omega) (by omega) (AU _)) O ?_
 rintro x u ⟨o,f, -⟩
 have b:Below W.heap.size W u:=⟨f.os,f.tape,f.output,f.size,fun k w=>f.block k w (by simp [Value.ownBlock])⟩
 rw [Nat.zero_add,nil_append] at o
 have s:(256#32:BitVec 32)≠0:=by decide
 refine Ab O<|Bi<|Ab O<|Ak<|An ?_
 refine Bl (S:=(Nat×Value)) (fun z=>[(1,u32 (n>>>(8*z.1))),(5,z.2),(6, .int .i64 (z.1:Int))]) (fun z c=>z.1≤4∧Below W.heap.size W c∧c.ownsRow W.heap.size 5 1 z.2 (l++(Crc.four n).take z.1).length ((l++(Crc.four n).take z.1).map b8)) (fun z=>4 - z.1) ((0,x)) ⟨rfl,rfl,rfl,trivial⟩ ?_ ?_
 ·exact ⟨by omega,b,by simpa using o⟩
 clear o b
 rintro ⟨i,y⟩ J ⟨C,b,h⟩
 dsimp only at C b h ⊢
 refine Ao<|Ad<|Ac O<|Bz O<|Ak<|Aq O ?_ ?_
 ·intro g
  have a:i<4:=by have:=AC g;omega
  have t:=Qt (n:=n) a
  have G:((Crc.four n).take i).length≤4:=by rw [length_take];omega
  have B:(l++(Crc.four n).take i).length+1=(l++(Crc.four n).take (i+1)).length:=by rw [t,← append_assoc,length_append (bs:=[_])];rfl
  have I:(l++(Crc.four n).take i).length≤16777220:=by rw [length_append];omega
  refine Bw<|Ao<|An<|Ad<|Ac O<|Ac O<|Aa (Ex.rem32 O (show _=some (u32 256#32) from rfl) s) O<|Aa (Ex.as (Ec Ih GM O) (cngA b8 (V2 _))) O<|Bc (Cv (vs:=[(n>>>(8*i)).setWidth 8].map b8) AL CY O O O O O) O ?_
  rintro q F ⟨m, -,d, -⟩
  have h:=AI h d
  have j:=bt b d
  refine Bc (De (base:=W.heap.size) AL CY O (by decide) O O h (AF m) (BL (fun _=>rfl) _) (by omega) (by omega) j.size) O ?_
  rintro A E ⟨e,p, -⟩
  rw [← map_append,append_assoc,← t,B] at e
  refine Ab O<|Ak<|Bn<|Ac O<|Aa (Ex.as (Ex.quo32 O (show _=some (u32 256#32) from rfl) s) (cngA u32 (VF n i))) O<|Ab O<|Bd<|Bg<|B6<|Ac O<|B1 O (by omega)<|Ab O<|Bd ?_
  exact Ar (Bp ((i+1,A)) ⟨rfl,rfl,rfl,trivial⟩ (⟨a,j.trans p,e⟩) (by simp only;omega))
 intro g
 have a:i=4:=by have:=AD g;omega
 subst a
 exact Bk<|Aj<|Aj<|A0<|Cb<|Ac rfl<|Ab rfl<|Ay<|As rfl rfl<|⟨b,h⟩
theorem M1 (v u:Value) (b:List (BitVec 8)) (l:List Int) (W w:World) (I:Below W.heap.size W w) (h:w.ownsRow W.heap.size 5 1 v b.length (b.map b8)) (E:BO (Value.int .i64) W u l) (X:b.length+l.length+1≤16777216):
  AK prog 151 [v,u] w (fun r k=>Below W.heap.size W k∧k.ownsRow W.heap.size 5 1 r (b++BI l).length ((b++BI l).map b8)∧OT w k v r):=by
 have a:=Fu w v
 have M:=E.bs I
 refine Az (n:=27) func151 O<|Ad<|Ab O<|Be<|Ac O<|Ac O<|Aa (Ap AE O ‹_›) O ?_
 refine Aa (Dm Hc GM O) O<|Bc (Cv (vs:=[BitVec.ofInt 8 (l.length:Int)].map b8) AL CY O O O O O) O ?_
 rintro q U ⟨d, -,B, -⟩
 have h:=AI h B
 have t:=bt I B
 have a:=a.bs B
 refine Bc (Cn (base:=W.heap.size) AL CY O (by decide) O O h (AF d) (BL (fun _=>rfl) _) (by omega) (by omega) t.size) O ?_
 rintro K Z ⟨m,f,C,G⟩
 have a:=a.app C (G.imp id fun e b p=>by rw [e] at p;cases p;omega)
 have A:=t.trans f
 have D:=E.bs A
 have J:b.map b8++[BitVec.ofInt 8 (l.length:Int)].map b8=(b++DR l 0).map b8:=by rw [← map_append];rfl
 have Q:b.length+1=(b++DR l 0).length:=by rw [length_append];rfl
 rw [J,Q] at m
 clear h d M B
 refine Ab O<|Bi<|Ab O<|Ak<|An ?_
 refine Bl (S:=(Nat×Value)) (fun z=>[(0,z.2),(1,u),(5, .int .i64 (z.1:Int))]) (fun z k=>z.1≤l.length∧Below W.heap.size W k∧k.ownsRow W.heap.size 5 1 z.2 (b++DR l z.1).length ((b++DR l z.1).map b8)∧OT w k v z.2) (fun z=>l.length - z.1) ((0,K)) ⟨rfl,rfl,rfl,trivial⟩ ?_ ?_
 ·exact ⟨Nat.zero_le _,A,m,a⟩
 clear m D a
 rintro ⟨i,y⟩ V ⟨H,j,s,a⟩
 dsimp only at H j s a ⊢
 have N:=E.bs j
 refine Ao<|Ad<|Ac O<|Ac O<|Aa (Ap AE O ‹_›) O ?_
 refine Bz O<|Ak<|Aq O ?_ ?_
 ·intro g
  have c:i<l.length:=by have:=AC g;omega
  have p:(b++DR l i).length+1=(b++DR l (i+1)).length:=by rw [length_append,length_append,G4 H,G4 c];rfl
  have Y:(b++DR l (i+1)).length=b.length+(i+2):=by rw [length_append,G4 c]
  have R:(b++DR l i)++[BitVec.ofInt 8 (l.getD i default)]=b++DR l (i+1):=by rw [Ku c,append_assoc]
  refine Bw<|Ao<|An<|Bn<|Ac O<|Ac O<|Ac O<|Aa (Bh AE O O ‹_› _ O (by omega)) O ?_
  refine Aa (Bo (AO _) O ‹_› (by omega)) O ?_
  refine Aa (Dm Hc GM O) O<|Bc (Cv (vs:=[BitVec.ofInt 8 (l.getD i default)].map b8) AL CY O O O O O) O ?_
  rintro q T ⟨d, -,o, -⟩
  have s:=AI s o
  have f:=bt j o
  have a:=a.bs o
  refine Bc (Cn (base:=W.heap.size) AL CY O (by decide) O O s (AF d) (BL (fun _=>rfl) _) (by omega) (by omega) f.size) O ?_
  rintro L w5 ⟨x,F,C,G⟩
  have a:=a.app C (G.imp id fun e b p=>by rw [e] at p;cases p;omega)
  rw [← map_append,R,p] at x
  refine Ab O<|Bd<|Bg<|B6<|Ac O<|B1 O (by omega)<|Ab O<|Bd ?_
  exact Ar (Bp ((i+1,L)) ⟨rfl,rfl,rfl,trivial⟩ (⟨c,f.trans F,x,a⟩) (by simp only;omega))
 intro g
 have c:i=l.length:=by have:=AD g;omega
 subst c
 rw [Lm] at s
 exact Bk<|Aj<|Aj<|A0<|Cb<|Ac rfl<|Ab rfl<|Ay<|As rfl rfl<|⟨j,s,a⟩

theorem Pd (v:Value) (ls:List N5) (W:World) (h:GN W v ls):AK prog 64 [.agg [v].toArray] W (fun r d=>r= .bool (GL ls).isSome∧Below W.heap.size W d):=by
 have a:=Below.refl W.heap.size W
 refine Az (n:=11) func64 O<|Ad<|Cr (cs:=[v]) O O O ?_
 rintro f w e g c -
 have a:=a.bs c
 have h:=h.bs c
 refine Ab O<|Be<|Aa (Cx (Gx _) (BX _) O O ‹_›) O ?_
 refine Ai O O (PD v ls w h) ?_
 rintro r d ⟨c,b⟩
 have a:=bt a c
 cases hg:GL ls with
 |none=>
  rw [hg] at b
  obtain ⟨u,rfl⟩:=b
  exact Ac rfl<|Aa (Bt (i:=0) rfl rfl) rfl<|Aa (Bt (i:=1) rfl rfl) rfl<|Ab rfl<|Ab rfl<|Be<|Ac rfl<|Ab rfl<|Ay<|As rfl rfl<|⟨rfl,a⟩
 |some ss=>
  rw [hg] at b
  obtain ⟨u,ps,rfl, -⟩:=b
  exact Ac rfl<|Aa (Bt (i:=0) rfl rfl) rfl<|Aa (Bt (i:=1) rfl rfl) rfl<|Ab rfl<|Ab rfl<|Be<|Ac rfl<|Ab rfl<|Ay<|As rfl rfl<|⟨rfl,a⟩
theorem JN (v:Value) (ls:List N5) (W:World) (h:GN W v ls) (J:ls.length≤1000000):
  AK prog 65 [.agg [v].toArray] W (fun r k=>Below W.heap.size W k∧AQ k W.heap.size 3 1 r (CP ls).length ((CP ls).map (Value.int .i64))):=by
 have m:=Below.refl W.heap.size W
 refine Az (n:=24) func65 O<|Ad<|Cr (cs:=[v]) O O O ?_
 rintro o w y l c -
 have m:=m.bs c
 have h:=h.bs c
 refine Ab O<|Be<|Ab O<|Bi<|Ab O<|Ak<|An ?_
 have d:=h.sl
 refine Bl (S:=(Nat×Value)) (fun z=>[(1, .pointer (some ⟨o,0,none⟩)),(3,z.2),(4, .int .i64 (z.1:Int))]) (fun z k=>z.1≤ls.length∧Below w.heap.size w k∧k.ownsRow w.heap.size 3 1 z.2 (CP (ls.take z.1)).length ((CP (ls.take z.1)).map (Value.int .i64))) (fun z=>ls.length - z.1) ((0, .slice none 0 0)) ⟨rfl,rfl,rfl,trivial⟩ ?_ ?_
 ·exact ⟨Nat.zero_le _,Below.refl _ _,⟨rfl, .inl ⟨rfl,rfl⟩⟩⟩
 rintro ⟨i,u⟩ B ⟨A,c,a⟩
 replace A:i≤ls.length:=A
 replace a:B.ownsRow w.heap.size 3 1 u (CP (ls.take i)).length ((CP (ls.take i)).map (Value.int .i64)):=a
 have l:=l.bs c
 have h:=h.bs c
 have d:=h.sl
 have G:=c.size
 have lt:(CP (ls.take i)).length≤(ls.take i).length:=by
  unfold CP
  rw [length_map]
  exact Nat.le_trans (length_filter_le _ _) (by simp)
 have H:(ls.take i).length≤ls.length:=by rw [length_take];omega
 refine Ao<|Ad<|Ac O<|Ba underlying24 O (BU _)<|Aa (Al (CD _) O ‹_› rfl) O ?_
 refine Aa (Ap BE O ‹_›) O ?_
 refine Bz O<|Ak<|Aq O ?_ ?_
 ·intro g
  have b:i<ls.length:=by have:=AC g;omega
  have x:=h.ad b
  have t:=(h.cell b).1
  have j:=KR ls i b
  have C:ls.getD i default=ls[i]:=by rw [getD_eq_getElem?_getD,getElem?_eq_getElem b];rfl
  rw [C] at j
  refine Bw<|Ao<|An<|Ad<|Ba underlying24 O (BU _)<|Aa (Al (CD _) O ‹_› rfl) O ?_
  refine Ac O<|Aa (Cl BE O O d i O b) O<|Aa (C9 (q:=0) underlying79 O (EA _) O x) O<|Aa (Ea (ED _) O d t) O<|Aa (Ch O (show _=some (b8 (2#8)) from rfl)) O<|Ak<|Aq O ?_ ?_
  ·intro e
   have e:ls[i].k=2#8:=AC e
   rw [if_pos e] at j
   refine Bn<|Ac O<|Ac O<|Bc (Cv (vs:=[(i:Int)].map (Value.int .i64)) AE DO O O O O O) O ?_
   rintro q K ⟨s, -,f, -⟩
   have a:=AI a f
   refine Bc (De (base:=w.heap.size) AE DO O (by decide) O O a (AF s) (BL (fun _=>rfl) _) (by omega) (by omega) (by have:=f.size;omega)) O ?_
   rintro E I ⟨a,p, -⟩
   have D:(CP (ls.take i)).map (Value.int .i64)++[(i:Int)].map (Value.int .i64)=(CP (ls.take (i+1))).map (Value.int .i64):=by rw [j,map_append]
   have F:(CP (ls.take i)).length+1=(CP (ls.take (i+1))).length:=by rw [j,length_append];rfl
   rw [D] at a
   refine Ab O<|Bd<|Bg<|B6<|Ac O<|B1 O (by omega)<|Ab O<|Bd ?_
   exact Ar (Bp ((i+1,E)) ⟨rfl,rfl,rfl,trivial⟩ (⟨b,(c.trans (f.mono G)).trans p,by simp only;rw [← F];exact a⟩) (by simp only;omega))
  intro e
  have e:¬ls[i].k=2#8:=AD e
  rw [if_neg e,append_nil] at j
  refine Cj<|Bg<|B6<|Ac O<|B1 O (by omega)<|Ab O<|Bd ?_
  exact Ar (Bp ((i+1,u)) ⟨rfl,rfl,rfl,trivial⟩ (⟨b,c,by simp only;rw [j];exact a⟩) (by simp only;omega))
 intro g
 have b:i=ls.length:=by have:=AD g;omega
 rw [b,take_length] at a
 exact Bk<|Aj<|Aj<|A0<|Cb<|Ac rfl<|Ab rfl<|Ay<|As rfl rfl<|⟨bt m c, .inl (BY a (AA m))⟩
theorem NR (v:Value) (ls:List N5) (W:World) (h:GN W v ls) (c:ls.length≤1000000):
  AK prog 65 [.agg [v].toArray] W (fun r a=>Below W.heap.size W a∧BO (Value.int .i64) a r (CP ls)):=(JN v ls W h c).mono fun _ _ ⟨d,b⟩=>⟨d,b.slT⟩
theorem PJ (v u:Value) (ls:List N5) (ws:List T4) (W:World) (h:GN W v ls) (hl:ls.length≤1000000) (s:EM W u ws):
  AK prog 47 [.agg [v,u].toArray] W (fun r Q=>r= .bool (GB ls ws)∧Below W.heap.size W Q):=by
 have p:=Below.refl W.heap.size W
 refine Az (n:=51) func47 O<|Ad<|Cr (cs:=[v,u]) O O O ?_
 rintro A_m w eA_m l c -
 have p:=p.bs c
 have h:=h.bs c
 have s:=s.bs c
 refine Ab O<|Bi<|Ba underlying27 O (BX _)<|Aa (D3 (ds:=[v]) (Gx _) (BX _) O O ‹_› rfl) O ?_
 refine Ai O O (Pd v ls w h) ?_
 rintro _ w ⟨rfl,c⟩
 have p:=p.bs c
 have h:=h.bs c
 have s:=s.bs c
 have l:=l.bs c
 refine Aa (Co O) O<|Ak<|Aq O ?_ ?_
 ·intro g
  have g:(GL ls).isSome=false:=by simpa using g
  refine Ad<|Ab O<|B2<|As O O ?_
  exact ⟨by unfold GB;rw [g];rfl,p⟩
 intro g
 have g:(GL ls).isSome=true:=by simpa using g
 refine Cs<|Ba underlying27 O (BX _)<|Aa (D3 (ds:=[v]) (Gx _) (BX _) O O ‹_› rfl) O ?_
 refine Ai O O (NR v ls w h hl) ?_
 rintro q w ⟨c,G⟩
 have p:=p.bs c
 have h:=h.bs c
 have s:=s.bs c
 have l:=l.bs c
 have f:=s.1
 have R:(CP ls).length=(F2 ls).length:=by rw [← IC,length_map]
 have lw6:(CP ls).length≤1000000:=by rw [R];exact Nat.le_trans (length_filter_le _ _) hl
 refine Ab O<|Bi<|Ac O<|Aa (Ap AE O ‹_›) O ?_
 refine Ba underlying27 O (CF _)<|Aa (Al (DD _) O ‹_› rfl) O ?_
 refine Aa (Ap BK O ‹_›) O ?_
 refine Aa (Ct O O) O<|Ak<|Aq O ?_ ?_
 ·intro A
  have A:¬(CP ls).length=ws.length:=by simp at A;omega
  refine Ad<|Ab O<|B2<|As O O ?_
  exact ⟨by unfold GB;rw [g,← R,decide_eq_false A];rfl,p⟩
 intro A
 have A:(CP ls).length=ws.length:=by simp at A;omega
 have Y:GB ls ws=Ic (ws.map pv) (F2 ls):=by unfold GB;rw [g,← R,decide_eq_true A,Bool.true_and,Bool.true_and]
 have V:=Hh (ws:=ws.map pv) (xs:=F2 ls) (by rw [length_map];omega)
 clear f
 refine Bw<|Ao<|Ad<|Ab O<|Ak<|An ?_
 refine Bl (S:=Nat) (fun i=>[(1, .pointer (some ⟨A_m,0,none⟩)),(3,q),(4, .int .i64 (i:Int))]) (fun i Q=>i≤ws.length∧(∀k,(L:k<(F2 ls).length)→k<i→IS ((ws.map pv).getD k ([],[])) (F2 ls)[k].s=true)∧Below w.heap.size w Q) (fun i=>ws.length - i) (0) ⟨rfl,rfl,rfl,trivial⟩ ?_ ?_
 ·exact ⟨Nat.zero_le _,fun k _ L=>absurd L (by omega),Below.refl _ _⟩
 rintro i b ⟨hi,hall,c⟩
 have l:=l.bs c
 have G:=G.bs c
 have M:=h.bs c
 have C:=s.bs c
 have z:=bt p c
 refine Ao<|Ad<|Ac O<|Ac O<|Aa (Ap AE O ‹_›) O ?_
 refine Bz O<|Ak<|Aq O ?_ ?_
 ·intro g3
  have d:i<ws.length:=by have:=AC g3;omega
  have H:i<(CP ls).length:=by omega
  obtain ⟨k,o,ek,h2,eF⟩:=Lt H
  obtain ⟨x,hx⟩:∃x,x=ls[k]:=⟨_,rfl⟩
  have K:(F2 ls)[i]=x:=by rw [eF,getD_eq_getElem?_getD,getElem?_eq_getElem o,hx];rfl
  obtain ⟨t,ht,htm,c1,c2⟩:=Jy d
  have D:(ws.map pv).getD i ([],[])=pv t:=by rw [getD_eq_getElem?_getD,getElem?_map,getElem?_eq_getElem d,← ht];rfl
  have F:=C.2 t htm
  have U:=C.slice d
  have Z:=M.each x (hx ▸ getElem_mem o)
  have had:=M.ad o
  have J:=(M.cell o).2
  rw [← hx] at J
  have f:=C.1
  have I:=M.sl
  refine Bw<|Ao<|An<|Ao ?_
  refine Cw.any BB (fun w2 m _=> ?_)
  refine Dg (fun y=>Below b.heap.size b y) (fun hC=> ?_) (m)
  refine Cf (Am (Bf (Am (Am (Bf (Am Br))))))<|Af 0 O (fun b a=>B8 underlying27 O (CF _)) O<|Af 1 O (fun b a=>Al (DD _) O (AP.bs ‹_› a) O) O<|Af 2 O (fun b a=>B4 O) O<|Af 3 O (fun b a=>Cl BK O O (f.bs a) i O d) O<|Af 4 O (fun b a=>C8 (cs:=[t.x,t.y]) (FZ _) (FX _) O (f.bs a) O (by decide) (G2 c1 c2)) O<|B5<|AR.only ‹_› (i:=5) (by kernel_rfl) O ?_
  refine Ai O O (PC t.x t.y t.s t.l w2 (F.bs m).1 (F.bs m).2) ?_
  rintro _ w3 ⟨rfl,X⟩
  replace m:=bt m X
  refine AR.back<|Cf (Am (Bf (Am (Am (Bf (Am Br))))))<|Af 6 O (fun b a=>Co O) O<|Af 7 O (fun b a=>B4 O) O<|B5 ?_
  refine Gj 31 O ?_ ?_
  ·intro B
   have B:L1 t.s t.l=false:=by simpa using B
   refine Cy (i:=8) (dj:=31) (Am (Bf (Am (Am (Bf (Am Br)))))) O O O O (by kernel_rfl) (by kernel_rfl) (by kernel_rfl) O<|Cy (i:=9) (dj:=31) (Am (Bf (Am (Am (Bf (Am Br)))))) O O O O (by kernel_rfl) (by kernel_rfl) (by kernel_rfl) O<|Cy (i:=10) (dj:=31) (Am (Bf (Am (Am (Bf (Am Br)))))) O O O O (by kernel_rfl) (by kernel_rfl) (by kernel_rfl) O<|Cy (i:=11) (dj:=31) (Am (Bf (Am (Am (Bf (Am Br)))))) O O O O (by kernel_rfl) (by kernel_rfl) (by kernel_rfl) O<|Cy (i:=12) (dj:=31) (Am (Bf (Am (Am (Bf (Am Br)))))) O O O O (by kernel_rfl) (by kernel_rfl) (by kernel_rfl) O<|Cy (i:=13) (dj:=31) (Am (Bf (Am (Am (Bf (Am Br)))))) O O O O (by kernel_rfl) (by kernel_rfl) (by kernel_rfl) O<|Cy (i:=14) (dj:=31) (Am (Bf (Am (Am (Bf (Am Br)))))) O O O O (by kernel_rfl) (by kernel_rfl) (by kernel_rfl) O<|Cy (i:=15) (dj:=31) (Am (Bf (Am (Am (Bf (Am Br)))))) O O O O (by kernel_rfl) (by kernel_rfl) (by kernel_rfl) O<|Cy (i:=16) (dj:=31) (Am (Bf (Am (Am (Bf (Am Br)))))) O O O O (by kernel_rfl) (by kernel_rfl) (by kernel_rfl) O ?_
   refine Cy (i:=17) (dj:=31) (Am (Bf (Am (Am (Bf (Am Br)))))) O O O O (by kernel_rfl) (by kernel_rfl) (by kernel_rfl) O<|Cy (i:=18) (dj:=31) (Am (Bf (Am (Am (Bf (Am Br)))))) O O O O (by kernel_rfl) (by kernel_rfl) (by kernel_rfl) O<|Cy (i:=19) (dj:=31) (Am (Bf (Am (Am (Bf (Am Br)))))) O O O O (by kernel_rfl) (by kernel_rfl) (by kernel_rfl) O<|Cy (i:=20) (dj:=31) (Am (Bf (Am (Am (Bf (Am Br)))))) O O O O (by kernel_rfl) (by kernel_rfl) (by kernel_rfl) O<|Cy (i:=21) (dj:=31) (Am (Bf (Am (Am (Bf (Am Br)))))) O O O O (by kernel_rfl) (by kernel_rfl) (by kernel_rfl) O<|Cy (i:=22) (dj:=31) (Am (Bf (Am (Am (Bf (Am Br)))))) O O O O (by kernel_rfl) (by kernel_rfl) (by kernel_rfl) O<|Cy (i:=23) (dj:=31) (Am (Bf (Am (Am (Bf (Am Br)))))) O O O O (by kernel_rfl) (by kernel_rfl) (by kernel_rfl) O<|Cy (i:=24) (dj:=31) (Am (Bf (Am (Am (Bf (Am Br)))))) O O O O (by kernel_rfl) (by kernel_rfl) (by kernel_rfl) O<|Cy (i:=25) (dj:=31) (Am (Bf (Am (Am (Bf (Am Br)))))) O O O O (by kernel_rfl) (by kernel_rfl) (by kernel_rfl) O ?_
   refine Cf (Am (Bf (Am (Am (Bf (Am Br))))))<|Af 26 O (fun b a=>C3 O O) O<|B5<|Cq ‹_› (by kernel_rfl) ?_
   refine Ar<|B9<|Ca O<|Ad<|Ab O<|Ay<|Bj<|Av<|Av<|Bj<|Av<|As O O ?_
   refine ⟨?_,bt z m⟩
   have:Ic (ws.map pv) (F2 ls)=false:=by
    cases hzz:Ic (ws.map pv) (F2 ls) with
    |false=>rfl
    |true=>
     have:=V.1 hzz i h2
     rw [D] at this
     unfold IS at this
     rw [show L1 (pv t).1 (pv t).2=false from B] at this
     cases this
   rw [Y,this]
  intro B
  have B:L1 t.s t.l=true:=by simpa using B
  refine C4 (i:=8) (dj:=31) (Am (Bf (Am (Am (Bf (Am Br)))))) O O O (by kernel_rfl) (by kernel_rfl) (by kernel_rfl) (fun b a=>B8 underlying27 O (CF _)) O<|C4 (i:=9) (dj:=31) (Am (Bf (Am (Am (Bf (Am Br)))))) O O O (by kernel_rfl) (by kernel_rfl) (by kernel_rfl) (fun b a=>Al (DD _) O (AP.bs ‹_› a) O) O<|C4 (i:=10) (dj:=31) (Am (Bf (Am (Am (Bf (Am Br)))))) O O O (by kernel_rfl) (by kernel_rfl) (by kernel_rfl) (fun b a=>B4 O) O<|C4 (i:=11) (dj:=31) (Am (Bf (Am (Am (Bf (Am Br)))))) O O O (by kernel_rfl) (by kernel_rfl) (by kernel_rfl) (fun b a=>Cl BK O O (f.bs a) i O d) O<|C4 (i:=12) (dj:=31) (Am (Bf (Am (Am (Bf (Am Br)))))) O O O (by kernel_rfl) (by kernel_rfl) (by kernel_rfl) (fun b a=>C9 (q:=0) underlying75 O (AT _) O U) O<|C4 (i:=13) (dj:=31) (Am (Bf (Am (Am (Bf (Am Br)))))) O O O (by kernel_rfl) (by kernel_rfl) (by kernel_rfl) (fun b a=>Ea (AN _) O (f.bs a) c1) O<|C4 (i:=14) (dj:=31) (Am (Bf (Am (Am (Bf (Am Br)))))) O O O (by kernel_rfl) (by kernel_rfl) (by kernel_rfl) (fun b a=>B8 underlying27 O (BX _)) O<|C4 (i:=15) (dj:=31) (Am (Bf (Am (Am (Bf (Am Br)))))) O O O (by kernel_rfl) (by kernel_rfl) (by kernel_rfl) (fun b a=>B8 underlying24 O (BU _)) O<|C4 (i:=16) (dj:=31) (Am (Bf (Am (Am (Bf (Am Br)))))) O O O (by kernel_rfl) (by kernel_rfl) (by kernel_rfl) (fun b a=>Al (CD _) O (AP.bs ‹_› a) O) O<|C4 (i:=17) (dj:=31) (Am (Bf (Am (Am (Bf (Am Br)))))) O O O (by kernel_rfl) (by kernel_rfl) (by kernel_rfl) (fun b a=>B4 O) O<|C4 (i:=18) (dj:=31) (Am (Bf (Am (Am (Bf (Am Br)))))) O O O (by kernel_rfl) (by kernel_rfl) (by kernel_rfl) (fun b a=>B4 O) O<|C4 (i:=19) (dj:=31) (Am (Bf (Am (Am (Bf (Am Br)))))) O O O (by kernel_rfl) (by kernel_rfl) (by kernel_rfl) (fun b a=>Bh AE O O (Sl.bs ‹_› a) _ O (by omega)) O<|C4 (i:=20) (dj:=31) (Am (Bf (Am (Am (Bf (Am Br)))))) O O O (by kernel_rfl) (by kernel_rfl) (by kernel_rfl) (fun b a=>Ex.as (Bo (AO _) O (G.bs a) H) (cngA (Value.int .i64) ek)) O<|C4 (i:=21) (dj:=31) (Am (Bf (Am (Am (Bf (Am Br)))))) O O O (by kernel_rfl) (by kernel_rfl) (by kernel_rfl) (fun b a=>Cl BE O O (I.bs a) k O o) O<|C4 (i:=22) (dj:=31) (Am (Bf (Am (Am (Bf (Am Br)))))) O O O (by kernel_rfl) (by kernel_rfl) (by kernel_rfl) (fun b a=>C9 (q:=0) underlying79 O (AT _) O had) O<|C4 (i:=23) (dj:=31) (Am (Bf (Am (Am (Bf (Am Br)))))) O O O (by kernel_rfl) (by kernel_rfl) (by kernel_rfl) (fun b a=>Ea (AN _) O (I.bs a) J) O<|AR.only ‹_› (i:=24) (by kernel_rfl) O ?_
  refine Ag (dj:=31) O O<|Ai O O (JO t.x x.y t.s x.s w3 (F.bs m).1 (Z.s.bs m)) ?_
  rintro _ w4 ⟨rfl,N⟩
  replace m:=bt m N
  refine AR.back<|C4 (i:=25) (dj:=31) (Am (Bf (Am (Am (Bf (Am Br)))))) O O O (by kernel_rfl) (by kernel_rfl) (by kernel_rfl) (fun b a=>Co O) O<|Cf (Am (Bf (Am (Am (Bf (Am Br))))))<|Af 26 O (fun b a=>C0 O O) O<|B5<|Cq ‹_› (by kernel_rfl) ?_
  refine Ar<|B9<|Aq O ?_ ?_
  ·intro E
   have E:¬t.s=x.s:=by simpa using E
   refine Ad<|Ab O<|Ay<|Bj<|Av<|Av<|Bj<|Av<|As O O ?_
   refine ⟨?_,bt z m⟩
   have:Ic (ws.map pv) (F2 ls)=false:=by
    cases hzz:Ic (ws.map pv) (F2 ls) with
    |false=>rfl
    |true=>
     have:=V.1 hzz i h2
     rw [D,K] at this
     unfold IS at this
     rw [Bool.and_eq_true] at this
     exact absurd (AC this.2) E
   rw [Y,this]
  intro E
  have E:t.s=x.s:=by simpa using E
  refine Cj<|Bg<|B6<|Ac O<|B1 O (by omega)<|Ab O<|Bd ?_
  exact Ar (Bp (i+1) ⟨rfl,rfl,rfl,trivial⟩ (⟨d,fun j hj T=>(Nat.lt_succ_iff_lt_or_eq.1 T).elim (hall j hj) (fun e=>by subst e;rw [D,K];unfold IS;rw [show L1 (pv t).1 (pv t).2=true from B,Bool.true_and];exact decide_eq_true E),bt c m⟩) (by omega))
 intro g3
 have d:i=ws.length:=by have:=AD g3;omega
 exact Bk<|Aj<|Aj<|A0<|Cb<|Ab rfl<|Ay<|As rfl rfl<|⟨by rw [Y,V.2 fun k L=>hall k L (by omega)],z⟩

theorem G5 {w b:World} {A B sz n:Nat} {T U:TypeId} {v:Value} {cs xs:List Value} (k:AP w A U cs) (o:w.ownsRow B T sz v n xs) (g:w.grownBy b v.ownBlock) (a:T≠U):AP b A U cs:=
 k.by g fun e=>by
  obtain ⟨ds,c⟩:=AQ.ty (.inl o) e.symm
  exact a (BM c k)
set_option maxHeartbeats 1000000 in
theorem Ur (v u:Value) (ls:List N5) (ws:List T4) (W:World) (h:GN W v ls) (hw:EM W u ws) (S:V6 ls ws):
  AK prog 48 [.agg [v,u].toArray] W (fun r B=>Below W.heap.size W B∧BO b8 B r (NZ ls ws)):=by
 have G:=Below.refl W.heap.size W
 have S1:=S.few
 have S2:=S.wts
 refine Az (n:=82) func48 O<|Ad ?_
 have e:=h.sl
 refine Cr (cs:=[v,u]) O O O ?_
 rintro T w eA_m K D -
 have G:=G.bs D
 have e:=e.bs D
 refine Ab O<|Be<|Ba underlying27 O (BX _)<|Ba underlying24 O (BU _)<|Aa (Al (CD _) O ‹_› rfl) O ?_
 refine Aa (Ap BE O ‹_›) O ?_
 refine Aa (Dm Hc GM O) O ?_
 have z0:=AA G
 obtain ⟨C,hwA⟩:∃x,x=w:=⟨_,rfl⟩
 rw [← hwA] at G K z0 e ⊢
 clear hwA
 obtain ⟨f,M⟩:∃f:Nat→List (BitVec 8),f=fun i=>BitVec.ofInt 8 (ls.length:Int)::DV (ls.take i):=⟨_,rfl⟩
 have bb0:f 0=[BitVec.ofInt 8 (ls.length:Int)]:=by rw [M];rfl
 have X:∀i,i≤ls.length→(f i).length≤1+13*ls.length:=fun i R=>by
  rw [M]
  have:=H7 (ls:=ls.take i) fun x hx=>S.node x (mem_of_mem_take hx)
  rw [length_take,Nat.min_eq_left R] at this
  simp only [length_cons]
  omega
 refine Bc (Cv (vs:=[BitVec.ofInt 8 (ls.length:Int)].map b8) AL CY O O O O O) O ?_
 rintro y L ⟨A, -,D, -⟩
 have A:L.ownsRow C.heap.size 5 1 y (f 0).length ((f 0).map b8):=by rw [bb0];exact A
 refine Ab O<|Bi<|Ab O<|Ak<|An ?_
 refine Bl (S:=(Nat×Value)) (fun z=>[(1, .pointer (some ⟨T,0,none⟩)),(3,z.2),(4, .int .i64 (z.1:Int))]) (fun z B=>z.1≤ls.length∧Below C.heap.size C B∧B.ownsRow C.heap.size 5 1 z.2 (f z.1).length ((f z.1).map b8)) (fun z=>ls.length - z.1) ((0,y)) ⟨rfl,rfl,rfl,trivial⟩ ?_ ?_
 ·exact ⟨Nat.zero_le _,D,A⟩
 clear A e D
 rintro ⟨i,y⟩ w2 ⟨R,c,o⟩
 dsimp only at R c o ⊢
 have j:=bt G c
 have e:=h.sl.bs j
 have l:=K.bs c
 have z2:=c.size
 refine Ao<|Ad<|Ac O<|Ba underlying27 O (BX _)<|Ba underlying24 O (BU _)<|Aa (Al (CD _) O ‹_› rfl) O ?_
 refine Aa (Ap BE O ‹_›) O ?_
 refine Bz O<|Ak<|Aq O ?_ ?_
 ·intro U
  have b:i<ls.length:=by have:=AC U;omega
  obtain ⟨x,hx⟩:∃x,x=ls[i]:=⟨_,rfl⟩
  have hxm:x ∈ ls:=hx ▸ getElem_mem b
  have Z:=h.each x hxm
  have hcl:=h.cells b
  rw [← hx] at hcl
  have hS:=S.node x hxm
  have hbl:=X i R
  have eBB:f (i+1)=f i++[x.k]++BI x.i++BI x.s++[BitVec.ofInt 8 x.n,BitVec.ofInt 8 x.p]:=by
   rw [M]
   simp only
   rw [take_succ_eq_append_getElem b,JX,← hx,JW]
   simp [JY]
  have lx:=FT x.i
  have ly:=FT x.s
  have lBB:=cngA length eBB
  simp only [length_append,length_cons,length_nil] at lBB
  refine Bw<|Ao<|An<|Ad<|Ba underlying27 O (BX _)<|Ba underlying24 O (BU _)<|Aa (Al (CD _) O ‹_› rfl) O ?_
  refine Ac O<|Aa (Cl BE O O e i O b) O<|Aa (C8 (cs:=x.cells) (EK _) (EH _) O e O (by decide) hcl) O<|Cz (cs:=x.cells) EJ O O O O (fun _=>rfl) ((Z.bs j).ones) ?_
  rintro A_x w3 eA_x d p zhn3
  replace c:=bt c p
  replace o:=AI o p
  clear p l e j
  refine Ak<|Ao ?_
  refine Cw.any BB (fun w4 hd _=> ?_)
  replace c:=bt c hd
  replace o:=AI o hd
  have d:=d.bs hd
  refine Dg (fun B=>AP B A_x 79 x.cells) (fun hC=> ?_) (d)
  refine Cf (Am (Bf (Am (Am (Bf (Am Br))))))<|Af 0 O (fun L F=>B4 O) O<|Af 1 O (fun L F=>B8 underlying79 O (EA _)) O<|Af 2 O (fun L F=>Al (ED _) O F O) O<|Af 5 O (fun L F=>B8 underlying79 O (AT _)) O<|Af 6 O (fun L F=>Al (AN _) O F O) O<|Af 8 O (fun L F=>B8 underlying79 O (AT _)) O<|Af 9 O (fun L F=>Al (AN _) O F O) O<|B5<|AR.only ‹_› (i:=3) (by kernel_rfl) O ?_
  refine Bc (Cv (vs:=[x.k].map b8) AL CY O O O O O) O ?_
  rintro q3 w5 ⟨H, -,D, -⟩
  replace c:=bt c D
  replace o:=AI o D
  have d:=d.bs D
  have zc:=c.size
  refine AR.back<|AR.only ‹_› (i:=4) (by kernel_rfl) O ?_
  refine Bc (Cn (base:=C.heap.size) AL CY O (by decide) O O o (AF H) (BL (fun _=>rfl) _) (by omega) (by omega) zc) O ?_
  rintro y1 w6 ⟨J,hb1,hg, -⟩
  replace d:=G5 d o hg (by decide)
  have c:=c.trans hb1
  rw [← map_append,show (f i).length+1=(f i++[x.k]).length by rw [length_append];rfl] at J
  clear hg hb1 o H
  refine AR.back<|AR.only ‹_› (i:=7) (by kernel_rfl) O ?_
  refine Ai O O (M1 y1 x.x (f i++[x.k]) x.i C w6 c J (Z.i.bs G) (by rw [length_append,length_singleton];omega)) ?_
  rintro y2 w7 ⟨hA7,N,hG⟩
  replace d:=G5 d J hG.g (by decide)
  clear hG J
  refine AR.back<|AR.only ‹_› (i:=10) (by kernel_rfl) O ?_
  refine Ai O O (M1 y2 x.y (f i++[x.k]++BI x.i) x.s C w7 hA7 N (Z.s.bs G) (by rw [length_append,length_append,length_singleton,FT];omega)) ?_
  rintro y3 w8 ⟨E,Y,hG⟩
  replace d:=G5 d N hG.g (by decide)
  clear hG N
  have z8:=E.size
  refine AR.back<|Cf (Am (Bf (Am (Am (Bf (Am Br))))))<|Af 11 O (fun L F=>Ce O) O<|B5<|Cq ‹_› (by kernel_rfl) ?_
  refine B6<|Ac O<|Ba underlying79 O (BC _)<|Aa (Al (AO _) O ‹_› rfl) O ?_
  refine Aa (Dm Hc GM O) O<|Ba underlying79 O (BC _)<|Aa (Al (AO _) O ‹_› rfl) O ?_
  refine Aa (Dm Hc GM O) O<|Bc (Cv (vs:=[BitVec.ofInt 8 x.n,BitVec.ofInt 8 x.p].map b8) AL CY O O O O O) O ?_
  rintro q9 w9 ⟨H, -,D, -⟩
  replace E:=bt E D
  replace Y:=AI Y D
  have lz:(f i++[x.k]++BI x.i++BI x.s).length≤2000:=by simp only [length_append,length_cons,length_nil];omega
  have z9:=E.size
  refine Bc (Cn (base:=C.heap.size) AL CY O (by decide) O O Y (AF H) (BL (fun _=>rfl) _) (by omega) (by omega) z9) O ?_
  rintro y4 wa ⟨ho4,hb4, -, -⟩
  rw [← map_append,show (f i++[x.k]++BI x.i++BI x.s).length+2=(f i++[x.k]++BI x.i++BI x.s++[BitVec.ofInt 8 x.n,BitVec.ofInt 8 x.p]).length by rw [length_append (bs:=[_,_])];rfl,← eBB] at ho4
  refine Ab O<|Bd<|Bg<|B6<|Ac O<|B1 O (by omega)<|Ab O<|Bd ?_
  exact Ar (Bp ((i+1,y4)) ⟨rfl,rfl,rfl,trivial⟩ (⟨b,E.trans hb4,ho4⟩) (by simp only;omega))
 intro U
 have b:i=ls.length:=by have:=AD U;omega
 subst b
 have lB:=X ls.length (AU _)
 obtain ⟨B0,Q⟩:∃B0,B0=f ls.length:=⟨_,rfl⟩
 rw [← Q] at o lB
 have eB0:B0=BitVec.ofInt 8 (ls.length:Int)::DV ls:=by rw [Q,M];simp only;rw [take_length]
 clear Q X bb0 e
 obtain ⟨s,I⟩:∃s:Nat→List (BitVec 8),s=fun i=>B0++FC (ws.take i):=⟨_,rfl⟩
 have c0:s 0=B0:=by rw [I];simp [FC]
 have ccl:∀i,(s i).length≤1000000:=fun i=>by
  rw [I]
  have:=Iz (ws:=ws.take i) fun t ht=>S.nums t (mem_of_mem_take ht)
  rw [length_take] at this
  simp only [length_append]
  omega
 have a:=BD o
 rw [← c0] at a
 refine Bk<|Aj<|Aj<|A0<|Ar<|B9<|Ao<|Ad<|Ab O<|Ak<|An ?_
 refine Bl (S:=(Nat×Value)) (fun z=>[(1, .pointer (some ⟨T,0,none⟩)),(3,z.2),(6, .int .i64 (z.1:Int))]) (fun z B=>z.1≤ws.length∧Below C.heap.size C B∧BO b8 B z.2 (s z.1)) (fun z=>ws.length - z.1) ((0,y)) ⟨rfl,rfl,rfl,trivial⟩ ?_ ?_
 ·exact ⟨Nat.zero_le _,c,a⟩
 clear o a c R j l z2
 rintro ⟨i,y⟩ w2 ⟨R,c,a⟩
 dsimp only at R c a ⊢
 have j:=bt G c
 have m:=hw.1.bs j
 have l:=K.bs c
 refine Ao<|Ad<|Ac O<|Ba underlying27 O (CF _)<|Aa (Al (DD _) O ‹_› rfl) O ?_
 refine Aa (Ap BK O ‹_›) O ?_
 refine Bz O<|Ak<|Aq O ?_ ?_
 ·intro U
  have b:i<ws.length:=by have:=AC U;omega
  obtain ⟨t,ht,htm,hc1,hc2⟩:=Jy b
  have htd:=hw.slice b
  have hta:=hw.2 t htm
  have lt:=S.nums t htm
  have hcl1:=ccl i
  have eCC:s (i+1)=s i++CG t.l:=by
   rw [I]
   simp only
   rw [take_succ_eq_append_getElem b,La,← ht,KZ,append_assoc]
  clear m l j
  refine Bw<|Ao<|An<|Ad<|Ab O<|Ak<|An ?_
  refine Bl (S:=(Nat×Value)) (fun z=>[(1, .pointer (some ⟨T,0,none⟩)),(3,z.2),(6, .int .i64 (i:Int)),(7, .int .i64 (z.1:Int))]) (fun z B=>z.1≤t.l.length∧Below C.heap.size C B∧BO b8 B z.2 (s i++CG (t.l.take z.1))) (fun z=>t.l.length - z.1) ((0,y)) ⟨rfl,rfl,rfl,rfl,trivial⟩ ?_ ?_
  ·exact ⟨Nat.zero_le _,c,by simpa [CG] using a⟩
  clear a c
  rintro ⟨k,y⟩ w3 ⟨hk,c,a⟩
  dsimp only at hk c a ⊢
  have hB3:=bt G c
  have m:=hw.1.bs hB3
  have b_m3:=K.bs c
  have h_t:=(hta.bs hB3).2
  refine Ao<|Ad<|Ac O<|Ba underlying27 O (CF _)<|Aa (Al (DD _) O ‹_› rfl) O ?_
  refine Ac O<|Aa (Cl BK O O m i O b) O<|Aa (C9 (q:=0) underlying75 O (CW _) O htd) O<|Aa (Ea (DC _) O m hc2) O<|Aa (Ap BP O ‹_›) O ?_
  refine Bz O<|Ak<|Aq O ?_ ?_
  ·intro gk
   have g:k<t.l.length:=by have:=AC gk;omega
   have e1:(s i++CG (t.l.take k))++Crc.four (t.l.getD k default)=s i++CG (t.l.take (k+1)):=by
    rw [take_succ_eq_append_getElem g,I9,append_assoc]
    simp [CG,g]
   have e3:(s i++CG (t.l.take k)).length≤16777216:=by rw [length_append,FM,length_take];omega
   refine Bw<|Ao<|An<|Bn<|Ac O<|Ba underlying27 O (CF _)<|Aa (Al (DD _) O ‹_› rfl) O ?_
   refine Ac O<|Aa (Cl BK O O m i O b) O<|Aa (C9 (q:=0) underlying75 O (CW _) O htd) O<|Aa (Ea (DC _) O m hc2) O<|Ac O<|Aa (Bh BP O O h_t k O g) O<|Aa (Bo (HK _) O h_t g) O<|Aa (E6 TU Hn O) O<|Ai O O (Pc y (s i++CG (t.l.take k)) (t.l.getD k default) w3 a e3) ?_
   rintro y' w4 ⟨V,A⟩
   have a:=BD A
   rw [e1] at a
   refine Ab O<|Bd<|Bg<|B6<|Ac O<|B1 O (by omega)<|Ab O<|Bd ?_
   exact Ar (Bp ((k+1,y')) ⟨rfl,rfl,rfl,rfl,trivial⟩ (⟨g,bt c V,a⟩) (by simp only;omega))
  intro gk
  have g:k=t.l.length:=by have:=AD gk;omega
  rw [g,take_length,← eCC] at a
  refine Bk<|Aj<|Aj<|A0<|Bg<|B6<|Ac O<|B1 O (by omega)<|Ab O<|Bd ?_
  exact Ar (Bp ((i+1,y)) ⟨rfl,rfl,rfl,trivial⟩ (⟨b,c,a⟩) (by simp only;omega))
 intro U
 have b:i=ws.length:=by have:=AD U;omega
 subst b
 have eC:s ws.length=Hb ls ws:=by rw [I];simp only;rw [take_length,eB0];rfl
 have lC:=ccl ws.length
 rw [eC] at a lC
 refine Bk<|Aj<|Aj<|A0<|Cb<|Ac O<|Ac O<|Ai O O (TV y (Hb ls ws) w2 a) ?_
 rintro _ w3 ⟨rfl,p⟩
 have a:=a.bs p
 refine Ai O O (Pc y (Hb ls ws) _ w3 a (by omega)) ?_
 rintro r w4 ⟨V,o_r⟩
 exact Ab rfl<|Ay<|As rfl rfl<|⟨bt G (bt (bt c p) V),BD o_r⟩
theorem Tl (v u:Value) (ls:List N5) (ws:List T4) (W:World) (h:GN W v ls) (l:ls.length≤1000000) (c:EM W u ws):
  AK prog 13 [.agg [v,u].toArray] W (fun r i=>Below W.heap.size W i∧∃x,r= .tuple #[x, .int .i64 (I0 ls ws)]∧BO b8 i x (Hs ls ws)):=by
 have d:=Below.refl W.heap.size W
 refine Az (n:=9) func13 O<|Ad<|Cr (cs:=[v,u]) O O O ?_
 rintro j w f b a -
 have d:=d.bs a
 have h:=h.bs a
 have c:=c.bs a
 refine Ab O<|Ab O<|Bi<|Aa (Cx (DX _) (DW _) O O ‹_›) O ?_
 refine Ai O O (PJ v u ls ws w h l c) ?_
 rintro _ w ⟨rfl,a⟩
 have d:=d.bs a
 have h:=h.bs a
 have c:=c.bs a
 have b:=b.bs a
 refine Aa (Co O) O<|Ak<|Aq O ?_ ?_
 ·intro g
  have g:GB ls ws=false:=by simpa using g
  refine Ad<|Ab O<|Ab O<|B2<|Bx O O O ?_
  exact ⟨d, .slice none 0 0,by simp [I0,g],by simp only [Hs,g];exact Ck _ _⟩
 intro g
 have g:GB ls ws=true:=by simpa using g
 refine Cs<|Aa (Cx (k:=2) (DX _) (DW _) O O b) O<|Ai O O (Ur v u ls ws w h c (Tq g)) ?_
 rintro x m ⟨a,e⟩
 refine Ab O<|Ab O<|Ay<|Bx O O O ?_
 exact ⟨bt d a,x,by simp [I0,g],by simp only [Hs,g];exact e⟩

def Pm (l:List (BitVec 8)):Nat→BitVec 32
 |0=>0#32
 |k+1=>Pm l k*256#32+(l.getD (3 - k) default).setWidth 32
theorem TA (l:List (BitVec 8)):Pm l 4=gf l:=by
 apply BitVec.eq_of_toNat_eq
 unfold gf
 rw [LJ]
 have c:=(l.getD 0 default).isLt;have a:=(l.getD 1 default).isLt;have b:=(l.getD 2 default).isLt;have d:=(l.getD 3 default).isLt
 simp only [Pm,BitVec.toNat_add,BitVec.toNat_mul,BitVec.toNat_setWidth,BitVec.toNat_ofNat,Nat.reducePow,Nat.reduceMod,Nat.reduceSub,Nat.zero_mul,Nat.zero_mod,Nat.zero_add]
 omega
theorem JQ (v:Value) (l:List (BitVec 8)) (w:World) (c:BO b8 w v l) (e:4≤l.length):AK prog 60 [v] w (fun r b=>r= .tuple #[u32 (gf l), .int .i64 0]∧Below w.heap.size w b):=by
 refine Az (n:=22) func60 O<|Ad<|Aa (Ce (show _=some (u32 (0#32)) from rfl)) O<|Ab O<|Bi<|Ac O<|Aa (Ap AL O ‹_›) O ?_
 refine Bz O<|Ak<|Aq O ?_ ?_
 ·intro g
  have:=AC g
  omega
 intro _
 refine Cs<|Aa (Ce (show _=some (u32 (0#32)) from rfl)) O<|Bi<|Ab O<|Ak<|An ?_
 refine Bl (S:=Nat) (fun i=>[(0,v),(4,u32 (Pm l i)),(5, .int .i64 (3 - (i:Int)))]) (fun i b=>i≤4∧b=w) (fun i=>4 - i) (0) ⟨rfl,rfl,rfl,trivial⟩ ?_ ?_
 ·exact ⟨by omega,rfl⟩
 rintro i d ⟨f,rfl⟩
 refine Ao<|Ad<|Ac O<|Aa (Eu O O) O<|Ak<|Aq O ?_ ?_
 ·intro h
  have a:i<4:=by have:=AC h;omega
  refine Bw<|Ao<|An<|Bn<|Ac O<|Aa (Ex.mul32 O (show _=some (u32 (256#32)) from rfl)) O<|Ac O<|Ac O<|Aa (Dn AL O O c.shp (3 - i) (by omega) (by omega)) O<|Aa (Bo (Hf _) O ‹_› (by omega)) O ?_
  refine Aa (Eb Lx Hn O) O<|Aa (Gi O O) O<|Ab O<|Bd<|Bg<|B6<|Ac O<|Aa (D2 O O (by omega)) O<|Ab O<|Bd ?_
  exact Ar (Bp (i+1) ⟨rfl,rfl,(cngA (fun z=>some (Value.int .i64 z)) (by omega)),trivial⟩ (⟨a,rfl⟩) (by omega))
 intro h
 have a:i=4:=by have:=AD h;omega
 subst a
 exact Bk<|Aj<|Aj<|A0<|Cb<|Ac rfl<|Ab rfl<|Ab rfl<|Ay<|Bx rfl rfl rfl<|⟨by rw [TA],Below.refl _ _⟩
end Go.Proofs.YtblbopcaflaldaaGreatDoor
