/- Texts of this proof, one behind the other: GraphShapes, WtsPl, NumsCode, PutCode, SumsCode, TensList, Book, Bkn, MdlCode, TxtCode, RefShape, RefCode, RefJoined, RefOrd, Ret, RefNode, TxtPl, Pan, MdlRead, MdlPl, ParPl, Rec, ParNum, BookCode, BookLaw, TwinTensor, BookTen, MdlHold, MdlChunk, MdlPut, MdlReading. -/
import Derived.Test.YtblbopcaflaldaaGreatDoorPk2
import Derived.Test.YtblbopcaflaldaaGreatDoorPk1
import Derived.OwnWalk
import Derived.Defers
import Derived.Recover
import Derived.WideLaws
import Derived.Laws.Entries

namespace Go.Proofs.YtblbopcaflaldaaGreatDoor
open Go Go.Dd Go.RowKit List Go.Proofs.Tryz
set_option maxRecDepth 100000
instance:Inhabited N5:=⟨⟨0#8, .slice none 0 0, .slice none 0 0,[],[],0,0⟩⟩
theorem Ea (a:N5):a.cells.length=5:=rfl
structure GN (w:World) (v:Value) (ls:List N5):Prop where
 sl:Sl w 5 v ls.length (GI N5.cells ls)
 each:∀a ∈ ls,N5.at w a
theorem GN.bs {w w' :World} {v:Value} {ls:List N5} (h:GN w v ls) (g:Below w.heap.size w w'):GN w' v ls:=⟨h.sl.bs g,fun a b=>(h.each a b).bs g⟩
theorem GN.cells {w:World} {v:Value} {ls:List N5} (_h:GN w v ls) {i:Nat} (c:i<ls.length):∀k,k<5→∃q,(ls[i]).cells[k]? =some q∧(GI N5.cells ls)[i*5+k]? =some q:=fun k b=>by
 rw [LJ (fun a _=>Ea a) c b]
 exact ⟨_,getElem?_eq_getElem (by rw [Ea];exact b),getElem?_eq_getElem _⟩
def P8 (m:Nat) (l:List Int):Bool:=l.any fun n=>decide (n<0)||decide ((m:Int)≤n)
def KJ (acc:List (List Int)) (x:N5):Option (List Int):=
 if DK x.k x.i x.s x.n x.p && !P8 acc.length x.i && Shapes.ok (Hu x.k x.s x.n x.p (x.i.map fun j=>acc.getD j.toNat [])) then some (Hu x.k x.s x.n x.p (x.i.map fun j=>acc.getD j.toNat [])) else none
def DX:List (List Int)→List N5→Option (List (List Int))
 |acc,[]=>some acc
 |acc,x::l=>match KJ acc x with
  |some s=>DX (acc++[s]) l
  |none=>none
def M9 (k:BitVec 8):Bool:=match CQ k with
 |some r=>decide (r.getD 1 0≠0)
 |none=>false
def FS (ls:List N5):Nat:=(ls.filter fun a=>decide (a.k=1#8)).length
def EK (ls:List N5):Option (List (List Int)):=
 if ls.length<1∨32<ls.length then none else match DX [] ls with
 |some ss=>if FS ls=1∧M9 (ls.getD (ls.length - 1) default).k=true then some ss else none
 |none=>none
theorem UB (n:Int) (A m:Nat) (w:World) (a:AP w A 3 [.int .i64 (m:Int)]):AN prog 219 [.int .i64 n, .pointer (some ⟨A,0,none⟩)] w (fun r w' =>r= .bool (decide (n<0)||decide ((m:Int)≤n))∧w' =w):=by
 refine A4 (n:=11) func219 O<|Ai<|Ab O<|A3<|Ad O<|B8 O<|Ad O ?_
 refine Cc 6 O ?_ ?_
 ·intro g
  refine Ae (dj:=6) O O O O<|Ae (dj:=6) O O O O<|Ae (dj:=6) O O O O<|Bt O<|Ab O<|As<|Al O O ?_
  rw [g]
  exact ⟨rfl,rfl⟩
 intro g
 refine Aj (dj:=6) O O<|Ad O<|Aj (dj:=6) O O<|Aa (Ao (BD _) O ‹_› rfl) O ?_
 refine Aj (dj:=6) O O<|Aa (E8 O O) O<|Co O<|Ab O<|As<|Al O O ?_
 rw [g]
 exact ⟨rfl,rfl⟩
theorem Ug (v:Value) (l:List Int) (A m:Nat) (w:World) (o:BE (Value.int .i64) w v l) (d:AP w A 3 [.int .i64 (m:Int)]):AN prog 249 [v, .func (.func 219) #[] [.pointer (some ⟨A,0,none⟩)].toArray] w (fun r w' =>(∃j,r= .int .i64 j∧decide (0≤j)=P8 m l)∧w' =w):=by
 have s:=o.le
 refine A4 (n:=19) func249 O<|Ai<|Ab O<|A8<|Ad O<|Aa (Aq AH O ‹_›) O ?_
 refine Ad O<|Ak<|Ar ?_
 refine Bu (S:=Nat) (fun i=>[(0,v),(1, .func (.func 219) #[] [.pointer (some ⟨A,0,none⟩)].toArray),(7, .int .i64 (l.length:Int)),(8, .int .i64 (i:Int))]) (fun i w' =>i≤l.length∧P8 m (l.take i)=false∧w' =w) (fun i=>l.length - i) (0) ⟨rfl,rfl,rfl,rfl,trivial⟩ ?_ ?_
 ·exact ⟨Nat.zero_le _,rfl,rfl⟩
 rintro i h ⟨t,e,rfl⟩
 refine Ai<|B8 O<|Ak<|Ap<|Am O ?_ ?_
 ·intro c
  have a:i<l.length:=by have:=AE c;omega
  have k:P8 m (l.take (i+1))=(P8 m (l.take i)||(decide (l.getD i default<0)||decide ((m:Int)≤l.getD i default))):=by
   unfold P8
   rw [take_succ_eq_append_getElem a,any_append]
   simp [a]
  refine B1<|Ap<|Ar<|Ai<|Ad O<|Ab O<|A3<|Ad O<|Ad O<|Ad O<|Aa (Bb AH O O ‹_› _ O (by omega)) O ?_
  refine Aa (Bf (BD _) O ‹_› (by omega)) O ?_
  refine Ee (p:=[]) (q:=[.pointer (some ⟨A,0,none⟩)]) O O O (UB (l.getD i default) A m h d) ?_
  rintro _ _ ⟨rfl,rfl⟩
  refine Ak<|Am O ?_ ?_
  ·intro g
   refine Ai<|Ad O<|Ab O<|As<|Bd<|A0<|A0<|Bd<|A0<|Al O O ?_
   refine ⟨⟨(i:Int),rfl, ?_⟩,rfl⟩
   have f:l.getD i default ∈ l:=I1 a
   have:P8 m l=true:=by unfold P8;exact List.any_eq_true.2 ⟨_,f,g⟩
   rw [this,decide_eq_true (by omega)]
  intro g
  refine Cj<|Ba<|Cr<|Ca O (by omega)<|Ad O<|A7 ?_
  exact Ay (Br (i+1) ⟨rfl,rfl,rfl,rfl,trivial⟩ (⟨a,by rw [k,e,g];rfl,rfl⟩) (by omega))
 intro b
 have a:i=l.length:=by have:=AD b;omega
 subst a
 rw [take_length] at e
 refine Bq<|Au<|Au<|Bc<|Cf<|Ab O<|As<|Al O O ?_
 exact ⟨⟨-1,rfl,by rw [e];rfl⟩,rfl⟩
theorem Uh (v:Value) (l:List Int) (A m:Nat) (w:World) (c:BE (Value.int .i64) w v l) (a:AP w A 3 [.int .i64 (m:Int)]):AN prog 218 [v, .func (.func 219) #[] [.pointer (some ⟨A,0,none⟩)].toArray] w (fun r w' =>r= .bool (P8 m l)∧Below w.heap.size w w'):=by
 refine A4 (n:=9) func218 O<|Ai<|Ab O<|A3<|Ad O<|Ad O<|Ah O O (Ug v l A m w c a) ?_
 rintro _ _ ⟨⟨j,rfl,b⟩,rfl⟩
 exact Aa (E8 rfl rfl) rfl<|Ab rfl<|As<|Al rfl rfl<|⟨cngA Value.bool b,Below.refl _ _⟩
theorem SF (u:Value) (ps:List (Value×List Int)) (w:World) (a:BE (fun p:Value×List Int=>p.1) w u ps):AN prog 222 [u] w (fun r w' =>r=clip u∧Below w.heap.size w w'):=by
 refine A4 (n:=9) func222 O<|Ai<|Ab O<|A3<|Ad O<|Ad O<|Aa (Aq BO O ‹_›) O ?_
 refine Ad O<|Aa (Aq BO O ‹_›) O ?_
 exact Aa (Fq BO rfl rfl rfl a.shp) rfl<|Ab rfl<|As<|Al rfl rfl<|⟨rfl,Below.refl _ _⟩
theorem J1 {k:BitVec 8} {r:List Int} (h:CQ k=some r):KD (b8 k) (kv r)∧(∀v,KD (b8 k) v→v=kv r)∧r.length=6:=by
 unfold CQ at h
 cases hf:LY.find? (fun p=>decide (p.2.1=(k.toNat:Int))) with
 |none=>rw [hf] at h;cases h
 |some p=>
  rw [hf] at h
  obtain rfl:p.2.2=r:=by simpa using h
  have a:=mem_of_find?_eq_some hf
  have b:p.2.1=(k.toNat:Int):=by have:=find?_some hf;simpa using this
  have g:∀p ∈ LY,∀q ∈ LY,p.2.1=q.2.1→p=q:=by decide
  have c:∀p ∈ LY,p.2.2.length=6:=by decide
  refine ⟨⟨p,a,by rw [b],rfl⟩,fun v ⟨q,d,f,e⟩=> ?_,c p a⟩
  have:(k.toNat:Int)=q.2.1:=by injection f
  rw [e,g p a q d (b.trans this)]
theorem NG {k:BitVec 8} (h:CQ k=none):∀v,¬KD (b8 k) v:=fun v ⟨q,b,c,_⟩=>by
 unfold CQ at h
 have a:LY.find? (fun p=>decide (p.2.1=(k.toNat:Int)))=none:=by simpa using h
 have:=List.find?_eq_none.1 a q b
 have e:(k.toNat:Int)=q.2.1:=by injection c
 simp [e] at this
theorem Ny {l:List Int} (h:l.length=6):∃a b c d e f,l=[a,b,c,d,e,f]:=by
 match l,h with
 |[a,b,c,d,e,f],_=>exact ⟨a,b,c,d,e,f,rfl⟩
theorem GB {w w' :World} {M:Nat} {d:TypeDesc} {S:Value→Value→Prop} {r:Option Nat} (h:BN w M d S) (g:w.grownBy w' r) (a:some M≠r):BN w' M d S:=by
 have b:=h.lt
 obtain ⟨f,c,h,e⟩:=h
 exact ⟨f,c,by rw [g.block M b a];exact h,e⟩
abbrev EO:TypeId:=79
abbrev QW:TypeId:=275
def JR (B:Nat) (w:World) (u:Value) (ps:List (Value×List Int)):Prop:=∀p ∈ ps,BE (Value.int .i64) w p.1 p.2∧∀b,p.1.ownBlock=some b→(B≤b∧b<w.heap.size)∧u.ownBlock≠some b
theorem JR.bs {B:Nat} {w w' :World} {u:Value} {ps:List (Value×List Int)} (h:JR B w u ps) (g:Below w.heap.size w w'):JR B w' u ps:=fun p a=>⟨(h p a).1.bs g,fun b e=>⟨⟨((h p a).2 b e).1.1,Nat.lt_of_lt_of_le ((h p a).2 b e).1.2 g.size⟩,((h p a).2 b e).2⟩⟩
theorem JR.by {B A:Nat} {w w' :World} {u:Value} {ps:List (Value×List Int)} (h:JR B w u ps) (g:w.grownBy w' (some A)) (f:A<B):JR B w' u ps:=fun p a=>
 ⟨(h p a).1.keep (fun b c e=>g.block b c (fun d=>by have:=((h p a).2 b e).1.1;cases d;omega)),fun b e=>⟨⟨((h p a).2 b e).1.1,Nat.lt_of_lt_of_le ((h p a).2 b e).1.2 g.size⟩,((h p a).2 b e).2⟩⟩
theorem JR.grow {B:Nat} {w w' :World} {u f:Value} {ps:List (Value×List Int)} (h:JR B w u ps) (g:w.grownBy w' u.ownBlock) (c:f.ownBlock=u.ownBlock∨f.ownBlock=some w.heap.size):JR B w' f ps:=fun p a=>
 ⟨(h p a).1.keep (fun b i e=>g.block b i (fun d=>((h p a).2 b e).2 d.symm)),fun b e=>⟨⟨((h p a).2 b e).1.1,Nat.lt_of_lt_of_le ((h p a).2 b e).1.2 g.size⟩,fun d=>by
  rcases c with c|c
  ·exact ((h p a).2 b e).2 (c ▸ d)
  ·rw [c] at d;have:=((h p a).2 b e).1.2;cases d;omega⟩⟩
theorem Iy:∀(ls:List N5) (a c:List (List Int)),DX a ls=some c→∀x ∈ ls,DK x.k x.i x.s x.n x.p=true
 |[],_,_,_,x,b=>by cases b
 |y::ls,a,c,h,x,b=>by
  unfold DX at h
  cases e:KJ a y with
  |none=>rw [e] at h;cases h
  |some s=>
   rw [e] at h
   rcases List.mem_cons.1 b with rfl|b
   ·unfold KJ at e
    split at e
    ·rename_i d
     simp only [Bool.and_eq_true] at d
     exact d.1.1
    ·cases e
   ·exact Iy ls _ _ h x b
theorem P3 {k:BitVec 8} {i s:List Int} {n p:Int} (h:DK k i s n p=true):∃a b c d e f,CQ k=some [a,b,c,d,e,f]:=by
 unfold DK at h
 split at h
 ·rename_i a b c d e f g;exact ⟨a,b,c,d,e,f,g⟩
 ·cases h
set_option maxHeartbeats 1000000 in
theorem PD (v:Value) (ls:List N5) (W:World) (h:GN W v ls):
  AN prog 135 [.agg [v].toArray] W (fun r w' =>Below W.heap.size W w' ∧match EK ls with
   |none=>r= .tuple #[.slice none 0 0, .int .i64 1]
   |some ss=>∃u ps,r= .tuple #[u, .int .i64 0]∧LI w' u ps∧BB ps=ss):=by
 obtain ⟨R,hR⟩:∃R,R=EK ls:=⟨_,rfl⟩
 rw [← hR]
 have o:=Below.refl W.heap.size W
 have L:=h.sl
 have hle:=h.sl.le
 refine A4 (n:=92) func135 O<|Ai<|Cl (cs:=[v]) O O O ?_
 rintro A_g w eA_g f hn -
 have o:=o.bs hn
 have L:=L.bs hn
 refine Ab O<|Ab O<|A3<|A9 underlying24 O (CB _)<|Aa (Ao (DQ _) O ‹_› rfl) O ?_
 refine Aa (Aq BM O ‹_›) O ?_
 refine Ab O<|A8<|Ad O<|B8 O<|Ad O ?_
 refine Cc 19 O ?_ ?_
 ·intro g
  have g:=AE g
  refine Ae (dj:=19) O O O O<|Ae (dj:=19) O O O O<|Bt O<|Ak<|B6 O<|Ai<|Ab O<|Ab O<|Bw<|B2 O O O ?_
  have hN:R=none:=by rw [hR,EK,if_pos (by omega)]
  rw [hN]
  exact ⟨o,rfl⟩
 intro g1
 have g1:=AD g1
 refine Aj (dj:=19) O O<|Ad O<|Aj (dj:=19) O O<|Aa (C7 O O) O<|Co O<|Ak<|Am O ?_ ?_
 ·intro g
  have g:=AE g
  refine Ai<|Ab O<|Ab O<|Bw<|B2 O O O ?_
  have hN:R=none:=by rw [hR,EK,if_pos (by omega)]
  rw [hN]
  exact ⟨o,rfl⟩
 intro g2
 have g2:=AD g2
 have hgs:EK ls=match DX [] ls with|some ss=>if FS ls=1∧M9 (ls.getD (ls.length - 1) default).k=true then some ss else none|none=>none:=by rw [EK,if_neg (by omega)]
 have hRn:DX [] ls=none→R=none:=fun e=>by rw [hR,hgs,e]
 have z1:=AA o
 have y_g:=AW f
 refine Ci<|Ah O O (S0 w) ?_
 rintro _ w1 ⟨hn1,M,rfl,hMl,C⟩
 have yM:=C.lt
 have f:=f.bs hn1
 have o:=o.trans (hn1.mono z1)
 have z2:=hn1.size
 refine Aa (Bi (vs:=[]) (cs:=[.slice none 0 0]) O (by kernel_rfl)) O<|An (Du TV) O ?_
 rintro _ w2 ⟨rfl,l,hn2,hz2⟩
 have f:=f.bs hn2
 have C:=C.bs hn2
 have o:=o.trans (hn2.mono (by omega))
 obtain ⟨A_t,hAt⟩:∃A_t,A_t=w1.heap.size:=⟨_,rfl⟩
 rw [← hAt] at l
 rw [← hAt]
 refine Ab O<|A6 (Ck (cs:=[.slice none 0 0]) (k:=1) (by kernel_rfl) O O O O l O) ?_
 rintro w3 ⟨l,hg3,hz3⟩
 have f:=f.by hg3 (by rintro ⟨⟩;omega)
 have C:=GB C hg3 (by rintro ⟨⟩;omega)
 have o:=o.grown hg3 (by omega) (by rintro _ ⟨⟩;omega)
 obtain ⟨B,hBd⟩:∃B,B=w3.heap.size:=⟨_,rfl⟩
 have yB:A_g<B∧M<B∧A_t<B∧W.heap.size≤B:=by omega
 clear L
 have L:=h.sl.bs o
 refine Ab O<|A8<|A9 underlying24 O (CB _)<|Aa (Ao (DQ _) O ‹_› rfl) O ?_
 refine Aa (Aq BM O ‹_›) O ?_
 refine Ad O<|Ak<|Ar ?_
 refine Bu (S:=(Nat×Nat×Value×List (Value×List Int))) (fun z=>[(1, .pointer (some ⟨A_g,0,none⟩)),(4, .int .i64 (ls.length:Int)),(5, .map (some M)),(6, .pointer (some ⟨A_t,0,none⟩)),(7, .int .i64 (z.2.1:Int)),(26,v),(27, .int .i64 (ls.length:Int)),(28, .int .i64 (z.1:Int))]) (fun z w' =>z.1≤ls.length∧Below W.heap.size W w' ∧B≤w'.heap.size∧BN w' M (.int .u8) KD∧AP w' A_g 24 [v]∧AP w' A_t 273 [z.2.2.1]∧w'.ownsRow B 70 1 z.2.2.1 z.1 (z.2.2.2.map (·.1))∧JR B w' z.2.2.1 z.2.2.2∧(∀p ∈ z.2.2.2,Shapes.ok p.2=true)∧DX (BB z.2.2.2) (ls.drop z.1)=DX [] ls∧z.2.1=FS (ls.take z.1)∧z.2.2.2.length=z.1∧z.2.1≤z.1) (fun z=>ls.length - z.1) ((0,0, .slice none 0 0,[])) ⟨rfl,rfl,rfl,rfl,rfl,rfl,rfl,rfl,trivial⟩ ?_ ?_
 ·exact ⟨Nat.zero_le _,o,by omega,C,f,l,⟨rfl, .inl ⟨rfl,rfl⟩⟩,(fun p hp=>by cases hp),(fun p hp=>by cases hp),rfl,rfl,rfl,AU _⟩
 clear f l C L
 rintro ⟨i,c,u,ps⟩ w4 ⟨hi,o,zB,C,f,l,m,d,hok,hrec,hc,lps,hci⟩
 dsimp only at hi o zB C f l m d hok hrec hc lps hci ⊢
 have L:=h.sl.bs o
 have z4:=AA o
 have ub:=AB m
 have lps2:(BB ps).length=ps.length:=length_map _
 refine Ai<|B8 O<|Ak<|Ap<|Am O ?_ ?_
 ·intro g
  have U:i<ls.length:=by have:=AE g;omega
  obtain ⟨x,Y⟩:∃x,x=ls[i]:=⟨_,rfl⟩
  have hx:=(h.each x (Y ▸ getElem_mem U)).bs o
  have hcl:=h.cells U
  rw [← Y] at hcl
  have ed:ls.drop i=x::ls.drop (i+1):=by rw [drop_eq_getElem_cons U,← Y]
  have hstep:DX [] ls=match KJ (BB ps) x with|some s=>DX (BB ps++[s]) (ls.drop (i+1))|none=>none:=by rw [← hrec,ed];rfl
  have hno:KJ (BB ps) x=none→R=none:=fun e=>hRn (by rw [hstep,e])
  refine B1<|Ap<|Ar<|Ai<|Ad O<|Aa (C6 BM O O L i O U) O<|Aa (Dx (cs:=x.cells) (Hc _) (GY _) O L O (by decide) hcl) O<|An (Du DH) O ?_
  rintro _ w5 ⟨rfl,E,hn5,hz5⟩
  refine An (Du EE) O ?_
  rintro _ w6 ⟨rfl,J,hn6,hz6⟩
  have E:=E.bs hn6
  obtain ⟨A_i,eAi⟩:∃A_i,A_i=w4.heap.size:=⟨_,rfl⟩
  obtain ⟨A_x,eAx⟩:∃A_x,A_x=w5.heap.size:=⟨_,rfl⟩
  rw [← eAi] at E
  rw [← eAx] at J
  rw [← eAi,← eAx]
  refine A6 (Cm (u:= .int .i64 (i:Int)) (BZ _) O O O E Nat.zero_lt_one) ?_
  rintro w7 ⟨E,hg7,hz7⟩
  have J:=J.by hg7 (by rintro ⟨⟩;omega)
  refine A6 (Ck (cs:=x.cells) (k:=5) (by kernel_rfl) O O O hx.ones J O) ?_
  rintro w8 ⟨J,hg8,hz8⟩
  have E:=E.by hg8 (by rintro ⟨⟩;omega)
  have E:AP w8 A_i 3 [.int .i64 (i:Int)]:=E
  have H:Below w4.heap.size w4 w8:=((hn5.trans (hn6.mono (by omega))).grown hg7 (by omega) (by rintro _ ⟨⟩;omega)).grown hg8 (by omega) (by rintro _ ⟨⟩;omega)
  clear L
  have o:=o.trans (H.mono z4)
  have C:=C.bs H
  have f:=f.bs H
  have l:=l.bs H
  have m:=AF m H
  have d:=d.bs H
  have hx:=hx.bs H
  have h_i:=hx.i
  have z8:=H.size
  cases Z:CQ x.k with
  |none=>
   refine A3<|Ad O<|A9 underlying79 O (FK _)<|Aa (Ao (He _) O ‹_› rfl) O ?_
   refine Aa (Ex.look2n underlying270 BW O O O C (show Tryz.prog.info? QW=some Tryz.t275 by kernel_rfl) O (NG Z)) O<|Ad O<|Aa (Az (i:=0) O O) O<|Aa (Az (i:=1) O O) O<|An (Du Ht) O ?_
   rintro _ w9 ⟨rfl,N,hn9,hz9⟩
   refine A6 (Ck (cs:=[0,0,0,0,0,0].map (Value.int .i64)) (k:=6) (by kernel_rfl) O O O O N O) ?_
   rintro w10 ⟨N,hg10,hz10⟩
   have o:=(o.trans (hn9.mono (by omega))).grown hg10 (by omega) (by rintro _ ⟨⟩;omega)
   refine Ab O<|A8<|Ad O<|Aa (Cz O) O<|Ad O<|Cx 42 (v' := .bool true) O (cngA Value.bool (rfl))<|Ae (dj:=42) O O O O<|Ae (dj:=42) O O O O<|Ae (dj:=42) O O O O<|Ae (dj:=42) O O O O<|Bt O<|Ad O<|Ae (dj:=48) O O O O<|Ae (dj:=48) O O O O<|Ae (dj:=48) O O O O<|Ae (dj:=48) O O O O<|Bt O<|Ak<|B6 O<|Ai<|Ab O<|Ab O<|Bw<|Bd<|A0<|A0<|Bd<|A0<|B2 O O O ?_
   have hN:R=none:=hno (by unfold KJ;rw [if_neg];unfold DK;rw [Z];simp)
   rw [hN]
   exact ⟨o,rfl⟩
  |some row=>
   obtain ⟨k1,k2,k6⟩:=J1 Z
   obtain ⟨ra,rb,rc,rd,re,rf,rfl⟩:=Ny k6
   refine A3<|Ad O<|A9 underlying79 O (FK _)<|Aa (Ao (He _) O ‹_› rfl) O ?_
   refine Aa (Ex.look2 underlying270 BW O O O C ⟨_,_,(show Tryz.prog.info? QW=some Tryz.t275 by kernel_rfl),rfl⟩ k1 k2) O<|Ad O<|Aa (Az (i:=0) O O) O<|Aa (Az (i:=1) O O) O<|An (Du Ht) O ?_
   rintro _ w9 ⟨rfl,N,hn9,hz9⟩
   refine A6 (Ck (cs:=[ra,rb,rc,rd,re,rf].map (Value.int .i64)) (k:=6) (by kernel_rfl) O O O O N O) ?_
   rintro w10 ⟨N,hg10,hz10⟩
   have t:Below w8.heap.size w8 w10:=hn9.grown hg10 hn9.size (by rintro _ ⟨⟩;omega)
   have o:=o.trans (t.mono (by omega))
   have C:=C.bs t
   have f:=f.bs t
   have l:=l.bs t
   have J:=J.bs t
   have E:=E.bs t
   have m:=AF m t
   have d:=d.bs t
   have hx:=hx.bs t
   have h_i:=hx.i
   have z10:=t.size
   refine Ab O<|A8<|Ad O<|Aa (Cz O) O<|Ad O<|Cx 42 (v' := .bool false) O (cngA Value.bool (rfl))<|Aj (dj:=42) O O<|Aa (Ce (k:=6) (EA _) (DU _) O O N) O<|Aj (dj:=42) O O<|Aa (Ce (k:=5) (Hc _) (GY _) O O J) O<|Aj (dj:=42) O O<|Ah O O (QX ra rb rc rd re rf x w10 hx) ?_
   rintro _ w11 ⟨rfl,A⟩
   have ekF:DK x.k x.i x.s x.n x.p=GD ra rb rc rd re rf x.i x.s x.n x.p:=by unfold DK;rw [Z]
   have o:=o.trans (A.mono (by omega))
   have C:=C.bs A
   have f:=f.bs A
   have l:=l.bs A
   have J:=J.bs A
   have E:=E.bs A
   have m:=AF m A
   have d:=d.bs A
   have hx:=hx.bs A
   have h_i:=hx.i
   have z11:=A.size
   rw [← ekF]
   refine Aj (dj:=42) O O<|Aa (Cz O) O<|Co O<|Ad O ?_
   refine Cc 48 O ?_ ?_
   ·intro gk
    have gk:DK x.k x.i x.s x.n x.p=false:=by simpa using gk
    refine Ae (dj:=48) O O O O<|Ae (dj:=48) O O O O<|Ae (dj:=48) O O O O<|Ae (dj:=48) O O O O<|Bt O<|Ak<|B6 O<|Ai<|Ab O<|Ab O<|Bw<|Bd<|A0<|A0<|Bd<|A0<|B2 O O O ?_
    have hN:R=none:=hno (by unfold KJ;rw [gk];rfl)
    rw [hN]
    exact ⟨o,rfl⟩
   intro gk
   have gk:DK x.k x.i x.s x.n x.p=true:=by simpa using gk
   refine Aj (dj:=48) O O<|A9 underlying79 O (BL _)<|Aj (dj:=48) O O<|Aa (Ao (AY _) O ‹_› rfl) O ?_
   refine Aj (dj:=48) O O<|Aa (Ew (vs:=[]) (us:=[.pointer (some ⟨A_i,0,none⟩)]) O O) O<|Aj (dj:=48) O O<|Ah O O (Uh x.x x.i A_i i w11 h_i E) ?_
   rintro _ w12 ⟨rfl,D⟩
   have o:=o.trans (D.mono (by omega))
   have C:=C.bs D
   have f:=f.bs D
   have l:=l.bs D
   have J:=J.bs D
   have m:=AF m D
   have d:=d.bs D
   have hx:=hx.bs D
   have z12:=D.size
   refine Co O<|Ak<|Am O ?_ ?_
   ·intro gb
    refine Ai<|Ab O<|Ab O<|Bw<|Bd<|A0<|A0<|Bd<|A0<|B2 O O O ?_
    have hN:R=none:=hno (by unfold KJ;rw [lps2,lps,gb,Bool.not_true,Bool.and_false];rfl)
    rw [hN]
    exact ⟨o,rfl⟩
   intro gb
   have hji:∀j ∈ x.i,0≤j∧j<(ps.length:Int):=fun j hj=>by
    unfold P8 at gb
    have:=List.any_eq_false.1 gb j hj
    simp at this
    omega
   have hps:LI w12 u ps:=⟨by have:=AL m;exact this,fun p hp=>(d p hp).1⟩
   refine B1<|Ap<|Ai<|A9 underlying79 O (FK _)<|Aa (Ao (He _) O ‹_› rfl) O ?_
   refine Aa (Db O (show _=some (b8 (1#8)) from rfl)) O<|Ak ?_
   refine D6 (St:=Nat) (fun c' =>[(1, .pointer (some ⟨A_g,0,none⟩)),(4, .int .i64 (ls.length:Int)),(5, .map (some M)),(6, .pointer (some ⟨A_t,0,none⟩)),(7, .int .i64 (c' :Int)),(9, .pointer (some ⟨A_x,0,none⟩)),(26,v),(27, .int .i64 (ls.length:Int)),(28, .int .i64 (i:Int))]) (fun c' w' =>w' =w12∧c' =c+(if x.k=1#8 then 1 else 0)) ?_ ?_
   ·refine Am O ?_ ?_
    ·intro g1
     have g1:x.k=1#8:=AE g1
     refine A5<|Ad O<|Ca O (by omega)<|Ab O<|A7 ?_
     exact B4 ((c+1)) ⟨rfl,rfl,rfl,rfl,(cngA (fun z=>some (Value.int .i64 z)) (by omega)),rfl,rfl,rfl,rfl,trivial⟩ (⟨rfl,by rw [if_pos g1]⟩)
    intro g1
    have g1:¬x.k=1#8:=AD g1
    exact Cj<|B4 (c) ⟨rfl,rfl,rfl,rfl,rfl,rfl,rfl,rfl,rfl,trivial⟩ (⟨rfl,by rw [if_neg g1,Nat.add_zero]⟩)
   rintro c' w12 ⟨rfl,hc'⟩
   refine Ai<|Aa (Ce (Hc _) (GY _) O O ‹_›) O ?_
   refine Aa (Ce (Uq _) (Tw _) O O ‹_›) O ?_
   refine Aa (Ew (vs:=[.agg [u].toArray]) (us:=[]) O O) O ?_
   have ub12:=AB m
   refine Ah O O (Rm x u ps w12 hx hps gk hji hok) ?_
   rintro y w13 ⟨T,K,y_own⟩
   obtain ⟨G,hGd⟩:∃G,G=Hu x.k x.s x.n x.p (x.i.map fun j=>(BB ps).getD j.toNat []):=⟨_,rfl⟩
   have eG:Hu x.k x.s x.n x.p (x.i.map fun j=>(ps.getD j.toNat default).2)=G:=by
    rw [hGd]
    congr 1
    refine map_congr_left fun j hj=> ?_
    have:=hji j hj
    rw [getD_eq_getElem?_getD,getD_eq_getElem?_getD,getElem?_map,getElem?_eq_getElem (by omega)];rfl
   rw [eG] at T
   have o:=o.trans (K.mono (by omega))
   have C:=C.bs K
   have f:=f.bs K
   have l:=l.bs K
   have m:=AF m K
   have d:=d.bs K
   have z13:=K.size
   refine Ab O<|A8<|Ad O<|Ah O O (EB y G w13 T) ?_
   rintro _ w14 ⟨rfl,I⟩
   have o:=o.trans (I.mono (by omega))
   have C:=C.bs I
   have f:=f.bs I
   have l:=l.bs I
   have m:=AF m I
   have d:=d.bs I
   have T:=T.bs I
   have z14:=I.size
   refine Aa (Cz O) O<|Ak<|Am O ?_ ?_
   ·intro go
    have go:Shapes.ok G=false:=by simpa using go
    refine Ai<|Ab O<|Ab O<|Bw<|Bd<|A0<|A0<|Bd<|A0<|B2 O O O ?_
    have hN:R=none:=hno (by unfold KJ;rw [← hGd,go,Bool.and_false];rfl)
    rw [hN]
    exact ⟨o,rfl⟩
   intro go
   have go:Shapes.ok G=true:=by simpa using go
   have e_st:KJ (BB ps) x=some G:=by
    unfold KJ;rw [← hGd,go,gk,lps2,lps]
    have:P8 i x.i=false:=by simpa using gb
    rw [this];rfl
   refine B1<|A5<|A9 underlying273 O (JG _)<|Aa (Ao (NZ _) O ‹_› rfl) O ?_
   refine Ad O<|An (B7 (vs:=[y]) BO OB O O O (by rw [all_cons,T.one'];rfl) O) O ?_
   rintro q w15 ⟨o_q, -,F, -⟩
   have o:=o.trans (F.mono (by omega))
   have C:=C.bs F
   have f:=f.bs F
   have l:=l.bs F
   have m:=AF m F
   have d:=d.bs F
   have T:=T.bs F
   have z15:=F.size
   have ub:=AB m
   refine An (Bv (base:=B) BO OB O (by decide) O O m (AG o_q) (by rw [all_cons,T.one'];rfl) (by omega) (by omega) (by omega)) O ?_
   rintro u' w16 ⟨Q,hn16,X,hcs⟩
   have C:=GB C X (fun e=>by have:=ub _ e.symm;omega)
   have f:=f.by X (fun e=>by have:=ub _ e.symm;omega)
   have l:=l.by X (fun e=>by have:=ub _ e.symm;omega)
   have hoff2:JR B w15 u (ps++[(y,G)]):=fun p hp=>(List.mem_append.1 hp).elim (d p) (fun e=>by
    rw [List.mem_singleton.1 e]
    refine ⟨T,fun b e=> ?_⟩
    have h1:=y_own b e
    exact ⟨⟨by omega,by omega⟩,fun e2=>by have:=ub12 b e2;omega⟩)
   have d:=hoff2.grow X hcs
   have z16:=X.size
   have ub' :=AB Q
   have e1:ps.map (·.1)++[y]=(ps++[(y,G)]).map (·.1):=by rw [map_append];rfl
   rw [e1] at Q
   refine A9 underlying273 O (JG _)<|A6 (Cm (u:=u') (JG _) O O (AG Q).one' l Nat.zero_lt_one) ?_
   rintro w17 ⟨l,V,hz17⟩
   have C:=GB C V (fun e=>by have:=Option.some.inj e;omega)
   have f:=f.by V (fun e=>by have:=Option.some.inj e;omega)
   have d:=d.by V (by omega)
   have Q:=AR Q (fun k e=>V.block k (ub' k e).2 (fun e2=>by have:=ub' k e;have:=Option.some.inj e2;omega))
   have hBF:=(o.trans (hn16.mono (by omega))).grown V (by have:=hn16.size;omega) (by rintro _ e;have:=Option.some.inj e;omega)
   have hok' :∀p ∈ ps++[(y,G)],Shapes.ok p.2=true:=fun p hp=>(List.mem_append.1 hp).elim (hok p) (fun e=>by rw [List.mem_singleton.1 e];exact go)
   have hrec' :DX (BB (ps++[(y,G)])) (ls.drop (i+1))=DX [] ls:=by
    rw [hstep,e_st]
    have:BB (ps++[(y,G)])=BB ps++[G]:=by unfold BB;rw [map_append];rfl
    rw [this]
   have hcc:c' =FS (ls.take (i+1)):=by
    rw [hc',hc,take_succ_eq_append_getElem U,← Y]
    unfold FS
    rw [filter_append,length_append]
    by_cases e:x.k=1#8
    ·rw [if_pos e,filter_cons,decide_eq_true e];rfl
    ·rw [if_neg e,filter_cons,decide_eq_false e];rfl
   have hci' :c' ≤i+1:=by rw [hc'];split<;>omega
   refine A7<|Ba<|Cr<|Ca O (by omega)<|Ad O<|A7 ?_
   exact Ay (Br ((i+1,c',u',ps++[(y,G)])) ⟨rfl,rfl,rfl,rfl,rfl,rfl,rfl,rfl,trivial⟩ (⟨U,hBF,by have:=hn16.size;omega,C,f,l,Q,d,hok',hrec',hcc,by rw [length_append,lps];rfl,hci'⟩) (by simp only;omega))
 intro g
 have U:i=ls.length:=by have:=AD g;omega
 subst U
 rw [drop_length] at hrec
 rw [take_length] at hc
 have hgr:DX [] ls=some (BB ps):=by rw [← hrec];rfl
 have hgf:R=if FS ls=1∧M9 (ls.getD (ls.length - 1) default).k=true then some (BB ps) else none:=by rw [hR,hgs,hgr]
 obtain ⟨x,Y⟩:∃x,x=ls.getD (ls.length - 1) default:=⟨_,rfl⟩
 rw [← Y] at hgf
 have hl1:ls.length - 1<ls.length:=by omega
 have hxm:x=ls[ls.length - 1]:=by rw [Y,getD_eq_getElem?_getD,getElem?_eq_getElem hl1];rfl
 have hkx:=Iy ls [] _ hgr x (hxm ▸ getElem_mem hl1)
 obtain ⟨ra,rb,rc,rd,re,rf,Z⟩:=P3 hkx
 obtain ⟨k1,k2, -⟩:=J1 Z
 have hlast:M9 x.k=decide (rb≠0):=by unfold M9;rw [Z];rfl
 have ad:∃ad c k,v= .slice (some ad) c k:=by
  obtain ⟨_,ao,cap,e,d1,d2,d3,_⟩:=h.sl
  cases ao with
  |none=>have:=d3 rfl;omega
  |some ad=>exact ⟨ad,_,_,e⟩
 have ck:(GI N5.cells ls)[(ls.length - 1)*5+0]? =some (b8 x.k):=by
  rw [LJ (fun a _=>Ea a) hl1 (by decide),← hxm];rfl
 refine Bq<|Au<|Au<|Bc<|Ay<|B9<|Ap<|Ai<|Ad O<|A9 underlying24 O (CB _)<|Aa (Ao (DQ _) O ‹_› rfl) O ?_
 refine Ad O<|Aa (Ex.as (Ek O O (by omega)) (cngA (Value.int .i64) (show (ls.length:Int) - 1=((ls.length - 1:Nat):Int) by omega))) O<|Aa (C6 BM O O L (ls.length - 1) O hl1) O<|Aa (Df (q:=0) underlying79 O (FK _) O ad) O<|Aa (F3 (He _) O L ck) O<|Aa (Fk underlying270 BW O O O C ⟨_,_,(show Tryz.prog.info? QW=some Tryz.t275 by kernel_rfl),rfl⟩ k1 k2) O<|An (Du Ht) O ?_
 rintro _ w5 ⟨rfl,N,hn5,hz5⟩
 have l:=l.bs hn5
 refine A6 (Ck (cs:=[ra,rb,rc,rd,re,rf].map (Value.int .i64)) (k:=6) (by kernel_rfl) O O O O N O) ?_
 rintro w6 ⟨N,hg6,hz6⟩
 have hn46:Below w4.heap.size w4 w6:=hn5.grown hg6 hn5.size (by rintro _ ⟨⟩;omega)
 have l:=l.by hg6 (by rintro ⟨⟩;omega)
 have o:=o.trans (hn46.mono z4)
 have m:=AF m hn46
 have d:=d.bs hn46
 refine A3<|Ad O<|Aa (C0 O O) O<|Ad O ?_
 refine Cc 84 O ?_ ?_
 ·intro gc
  have gc:¬FS ls=1:=fun e=>by rw [← hc] at e;subst e;simp at gc
  refine Ae (dj:=84) O O O O<|Ae (dj:=84) O O O O<|Ae (dj:=84) O O O O<|Bt O<|Ak<|B6 O<|Ai<|Ab O<|Ab O<|Bw<|B2 O O O ?_
  rw [hgf,if_neg (fun h=>gc h.1)]
  exact ⟨o,rfl⟩
 intro gc
 have gc:FS ls=1:=by rw [← hc];simp at gc;omega
 refine Aj (dj:=84) O O<|A9 underlying275 O (BZ _)<|Aj (dj:=84) O O<|Aa (Ao (BD _) O N O) O<|Aj (dj:=84) O O<|Aa (Cn O O) O<|Co O<|Ak<|Am O ?_ ?_
 ·intro gm
  have gm:rb=0:=AE gm
  refine Ai<|Ab O<|Ab O<|Bw<|B2 O O O ?_
  rw [hgf,if_neg (fun h=>by rw [hlast,gm] at h;simp at h)]
  exact ⟨o,rfl⟩
 intro gm
 have gm:rb≠0:=AD gm
 refine Ci<|A9 underlying273 O (JG _)<|Aa (Ao (NZ _) O ‹_› rfl) O ?_
 refine Ah O O (SF u ps w6 (AL m)) ?_
 rintro _ w7 ⟨rfl,hn7⟩
 refine Ab O<|Ab O<|As<|B2 O O O ?_
 rw [hgf,if_pos ⟨gc,by rw [hlast];exact decide_eq_true gm⟩]
 exact ⟨o.trans (hn7.mono (AA o)),_,ps,rfl,⟨(Sl.clip (AL m)).bs hn7,fun p hp=>(d p hp).1.bs hn7⟩,rfl⟩
theorem Kn (v:Value) (ls:List N5) (W:World) (h:GN W v ls):
  AN prog 33 [.agg [v].toArray] W (fun r w' =>Below W.heap.size W w' ∧r= .bool (EK ls).isSome):=by
 have a:=Below.refl W.heap.size W
 refine A4 (n:=12) func33 O<|Ai<|Cl (cs:=[v]) O O O ?_
 rintro f w d g j -
 have a:=a.bs j
 refine Ab O<|A3<|Aa (Ce (ER _) (BP _) O O ‹_›) O ?_
 refine Ah O O (PD v ls w (h.bs a)) ?_
 rintro r k ⟨c,b⟩
 have a:=a.trans (c.mono (AA a))
 cases e:EK ls with
 |none=>
  rw [e] at b
  obtain rfl:=b
  exact Ad rfl<|Aa (Az (i:=0) rfl rfl) rfl<|Aa (Az (i:=1) rfl rfl) rfl<|Ab rfl<|Ab rfl<|A3<|Ad rfl<|Aa (Cn rfl rfl) rfl<|Ab rfl<|As<|Al rfl rfl<|⟨a,rfl⟩
 |some ss=>
  rw [e] at b
  obtain ⟨u,ps,rfl, -, -⟩:=b
  exact Ad rfl<|Aa (Az (i:=0) rfl rfl) rfl<|Aa (Az (i:=1) rfl rfl) rfl<|Ab rfl<|Ab rfl<|A3<|Ad rfl<|Aa (Cn rfl rfl) rfl<|Ab rfl<|As<|Al rfl rfl<|⟨a,rfl⟩
def DM (ls:List N5):List Int:=((List.range ls.length).filter fun i=>decide ((ls.getD i default).k=2#8)).map fun i:Nat=>(i:Int)
theorem OQ (ls:List N5) (i:Nat) (b:i<ls.length):DM (ls.take (i+1))=DM (ls.take i)++(if (ls.getD i default).k=2#8 then [(i:Int)] else []):=by
 have a:∀m,m≤ls.length→DM (ls.take m)=((List.range m).filter fun i=>decide ((ls.getD i default).k=2#8)).map fun i:Nat=>(i:Int):=fun m d=>by
  unfold DM
  rw [length_take,Nat.min_eq_left d]
  congr 1
  refine filter_congr fun j c=> ?_
  have:=List.mem_range.1 c
  have:(ls.take m).getD j default=ls.getD j default:=by rw [getD_eq_getElem?_getD,getElem?_take,if_pos this,← getD_eq_getElem?_getD]
  rw [this]
 rw [a _ b,a _ (Nat.le_of_lt b),range_succ,filter_append,map_append]
 congr 1
 by_cases e:(ls.getD i default).k=2#8
 ·rw [if_pos e,filter_cons,decide_eq_true e];rfl
 ·rw [if_neg e,filter_cons,decide_eq_false e];rfl
theorem Kk (v:Value) (ls:List N5) (W:World) (h:GN W v ls) (hm:ls.length≤1000000):
  AN prog 34 [.agg [v].toArray] W (fun r w' =>Below W.heap.size W w' ∧AQ w' W.heap.size 3 1 r (DM ls).length ((DM ls).map (Value.int .i64))):=by
 have c:=Below.refl W.heap.size W
 have e:=h.sl
 refine A4 (n:=23) func34 O<|Ai<|Cl (cs:=[v]) O O O ?_
 rintro J w G E H -
 have c:=c.bs H
 have e:=e.bs H
 refine Ab O<|A8<|A9 underlying24 O (CB _)<|Aa (Ao (DQ _) O ‹_› rfl) O ?_
 refine Aa (Aq BM O ‹_›) O ?_
 refine Ad O<|Ak<|Ar ?_
 have Z:=AA c
 refine Bu (S:=(Nat×Value)) (fun z=>[(2,z.2),(6,v),(7, .int .i64 (ls.length:Int)),(8, .int .i64 (z.1:Int))]) (fun z w' =>z.1≤ls.length∧Below W.heap.size W w' ∧w'.ownsRow W.heap.size 3 1 z.2 (DM (ls.take z.1)).length ((DM (ls.take z.1)).map (Value.int .i64))) (fun z=>ls.length - z.1) ((0, .slice none 0 0)) ⟨rfl,rfl,rfl,rfl,trivial⟩ ?_ ?_
 ·exact ⟨Nat.zero_le _,c,⟨rfl, .inl ⟨rfl,rfl⟩⟩⟩
 clear E
 rintro ⟨i,u⟩ y ⟨N,c,a⟩
 dsimp only at N c a ⊢
 have e:=h.sl.bs c
 have F:=AA c
 refine Ai<|B8 O<|Ak<|Ap<|Am O ?_ ?_
 ·intro g
  have b:i<ls.length:=by have:=AE g;omega
  obtain ⟨x,o⟩:∃x,x=ls[i]:=⟨_,rfl⟩
  have B:ls.getD i default=x:=by rw [getD_eq_getElem?_getD,getElem?_eq_getElem b,o];rfl
  have Q:=(h.each x (o ▸ getElem_mem b)).bs c
  have t:=h.cells b
  rw [← o] at t
  have d:=OQ ls i b
  rw [B] at d
  have X:(DM (ls.take i)).length≤i:=by
   unfold DM
   rw [length_map]
   refine Nat.le_trans (length_filter_le _ _) ?_
   rw [length_range,length_take];omega
  refine B1<|Ap<|Ar<|Ai<|Ad O<|Aa (C6 BM O O e i O b) O<|Aa (Dx (cs:=x.cells) (Hc _) (GY _) O e O (by decide) t) O<|An (Du EE) O ?_
  rintro _ T ⟨rfl,s,f,M⟩
  refine Ab O<|A6 (Ck (cs:=x.cells) (k:=5) (by kernel_rfl) O O O Q.ones s O) ?_
  rintro I ⟨s,C,R⟩
  have j:Below y.heap.size y I:=f.grown C f.size (by rintro _ ⟨⟩;omega)
  have c:=c.trans (j.mono F)
  have a:=AF a j
  have Y:=j.size
  refine A3<|A9 underlying79 O (FK _)<|Aa (Ao (He _) O ‹_› rfl) O ?_
  refine Aa (Db O (show _=some (b8 (2#8)) from rfl)) O<|Ak<|Am O ?_ ?_
  ·intro p
   have p:x.k=2#8:=AE p
   rw [if_pos p] at d
   refine A5<|Ad O<|Ad O<|An (B7 (vs:=[(i:Int)].map (Value.int .i64)) AH DH O O O O O) O ?_
   rintro q U ⟨D, -,m, -⟩
   have a:=AF a m
   have V:=m.size
   refine An (C1 (base:=W.heap.size) AH DH O (by decide) O O a (AG D) (BI (fun _=>rfl) _) (by omega) (by omega) (by omega)) O ?_
   rintro L w5 ⟨l,A, -⟩
   have K:(DM (ls.take i)).length+1=(DM (ls.take (i+1))).length:=by rw [d,length_append];rfl
   rw [← map_append,← d,K] at l
   refine Ab O<|A7<|Ba<|Cr<|Ca O (by omega)<|Ad O<|A7 ?_
   exact Ay (Br ((i+1,L)) ⟨rfl,rfl,rfl,rfl,trivial⟩ (⟨b,(c.trans (m.mono (by omega))).trans A,l⟩) (by simp only;omega))
  intro p
  have p:¬x.k=2#8:=AD p
  rw [if_neg p,append_nil] at d
  refine Cj<|Ba<|Cr<|Ca O (by omega)<|Ad O<|A7 ?_
  exact Ay (Br ((i+1,u)) ⟨rfl,rfl,rfl,rfl,trivial⟩ (⟨b,c,by rw [d];exact a⟩) (by simp only;omega))
 intro g
 have b:i=ls.length:=by have:=AD g;omega
 subst b
 rw [take_length] at a
 refine Bq<|Au<|Au<|Bc<|Cf<|Ad O<|Ah O O (Ky u (DM ls) y (AL a)) ?_
 rintro _ T ⟨rfl,f⟩
 exact Ab rfl<|As<|Al rfl rfl<|⟨c.trans (f.mono F),(AQ.clip a).bs f⟩
theorem NN (v:Value) (ls:List N5) (W:World) (h:GN W v ls) (a:ls.length≤1000000):
  AN prog 34 [.agg [v].toArray] W (fun r w' =>Below W.heap.size W w' ∧BE (Value.int .i64) w' r (DM ls)):=(Kk v ls W h a).mono fun _ _ ⟨c,b⟩=>⟨c,b.slT⟩
end Go.Proofs.YtblbopcaflaldaaGreatDoor

namespace Go.Proofs.YtblbopcaflaldaaGreatDoor
open Go Go.Dd Go.RowKit List
set_option maxRecDepth 100000
abbrev PV:=List Int×List (BitVec 32)
def pv (t:T4):PV:=(t.s,t.l)
def Js (t:PV) (s:List Int):Bool:=K4 t.1 t.2 && decide (t.1=s)
def Lq:List PV→List N5→Bool
 |_,[]=>true
 |[],_::_=>false
 |t::ts,x::xs=>Js t x.s && Lq ts xs
abbrev F2 (ls:List N5):List N5:=ls.filter fun a=>decide (a.k=2#8)
theorem Lr (ls:List N5):(DM ls).map (fun j=>ls.getD j.toNat default)=F2 ls:=by
 unfold DM
 rw [map_map]
 have e:ls=(List.range ls.length).map fun i=>ls.getD i default:=by
  refine ext_getElem (by simp) fun i a c=> ?_
  simp [a]
 conv=>rhs;unfold F2;rw [e,filter_map]
 have b:((fun j:Int=>ls.getD j.toNat default)∘fun i:Nat=>(i:Int))=fun i=>ls.getD i default:=by funext i;simp
 rw [b];rfl
theorem PY {ls:List N5} {j:Nat} (a:j<(DM ls).length):∃i:Nat,i<ls.length∧(DM ls).getD j default=(i:Int)∧∃b:j<(F2 ls).length,(F2 ls)[j]=ls.getD i default:=by
 have d:(DM ls)[j] ∈ DM ls:=getElem_mem a
 obtain ⟨i,c,e⟩:=List.mem_map.1 (show (DM ls)[j] ∈ ((List.range ls.length).filter fun i=>decide ((ls.getD i default).k=2#8)).map fun i:Nat=>(i:Int) from d)
 have c:=List.mem_range.1 (List.mem_filter.1 c).1
 have b:j<(F2 ls).length:=by rw [← Lr,length_map];exact a
 refine ⟨i,c,by rw [getD_eq_getElem?_getD,getElem?_eq_getElem a];exact e.symm,b, ?_⟩
 have:(F2 ls)[j]? =some (ls.getD i default):=by
  rw [← Lr,getElem?_map,getElem?_eq_getElem a,← e];simp
 rw [getElem?_eq_getElem b] at this
 exact Option.some.inj this
theorem FX:∀{ws:List PV} {xs:List N5},ws.length=xs.length→(Lq ws xs=true↔∀i (h:i<xs.length),Js (ws.getD i ([],[])) xs[i].s=true)
 |[],[],_=>⟨fun _ i h=>absurd h (by simp),fun _=>rfl⟩
 |t::ws,x::xs,hl=>by
  have b:=FX (ws:=ws) (xs:=xs) (by simpa using hl)
  show (Js t x.s && Lq ws xs)=true↔_
  rw [Bool.and_eq_true,b]
  constructor
  ·rintro ⟨d,c⟩ i a
   cases i with
   |zero=>exact d
   |succ i=>exact c i (by simpa using a)
  ·intro h
   exact ⟨h 0 (by simp),fun i a=>h (i+1) (by simpa using a)⟩
theorem LF {ls:List N5} {a:List (List Int)} (h:EK ls=some a):ls.length≤32:=by
 unfold EK at h
 split at h
 ·cases h
 ·omega
end Go.Proofs.YtblbopcaflaldaaGreatDoor

namespace Go.Proofs.YtblbopcaflaldaaGreatDoor
open Go Go.Dd Go.RowKit List Go.Proofs.Tryz
set_option maxRecDepth 100000
def gf (l:List (BitVec 8)):BitVec 32:=RM (l.getD 0 default) (l.getD 1 default) (l.getD 2 default) (l.getD 3 default)
theorem OD {l:List (BitVec 8)} (h:4≤l.length):nums l=gf l::nums (l.drop 4):=by
 have:=Pl l 0 (by omega)
 simpa [gf] using this
theorem Rr (v:Value) (l:List (BitVec 8)) (w:World) (c:BE b8 w v l) (d:4≤l.length):AN prog 153 [v] w (fun r w' =>r=u32 (gf l)∧Below w.heap.size w w'):=by
 refine A4 (n:=25) func153 O<|Ai<|Aa (Bx (show _=some (u32 (0#32)) from rfl)) O<|Ak<|Ap<|Dz mixed (by kernel_rfl)<|B5 O<|Ax (fun b a=>Bb AO O O (Sl.bs ‹_› a) 0 O (by omega)) O ?_
 refine Ax (fun b a=>Bf (LW _) O (Sl.bs ‹_› a) (by omega)) O ?_
 refine Ax (fun b a=>Em OV Ia O) O<|B5 O<|Ax (fun b a=>Bb AO O O (Sl.bs ‹_› a) 1 O (by omega)) O ?_
 refine Ax (fun b a=>Bf (LW _) O (Sl.bs ‹_› a) (by omega)) O ?_
 refine Ax (fun b a=>Em OV Ia O) O<|Ax (fun b a=>F1 (j:=8) O O (by decide)) O<|Ax (fun b a=>Gm O O) O<|B5 O<|Ax (fun b a=>Bb AO O O (Sl.bs ‹_› a) 2 O (by omega)) O ?_
 refine Ax (fun b a=>Bf (LW _) O (Sl.bs ‹_› a) (by omega)) O ?_
 refine Ax (fun b a=>Em OV Ia O) O<|Ax (fun b a=>F1 (j:=16) O O (by decide)) O<|Ax (fun b a=>Gm O O) O<|B5 O<|Ax (fun b a=>Bb AO O O (Sl.bs ‹_› a) 3 O (by omega)) O ?_
 refine Ax (fun b a=>Bf (LW _) O (Sl.bs ‹_› a) (by omega)) O ?_
 refine Ax (fun b a=>Em OV Ia O) O<|Ax (fun b a=>F1 (j:=24) O O (by decide)) O<|Ax (fun b a=>Gm O O) O<|Ep O ?_
 refine Dk (fun b a=> ?_)
 exact Ay<|B9<|Dq<|Al rfl rfl<|⟨rfl,a⟩
theorem Ld (v:Value) (l:List (BitVec 8)) (w:World) (b:BE b8 w v l):AN prog 49 [v] w (fun r w' =>r= .tuple #[u32 (if l.length<4 then 0#32 else gf l), .int .i64 (if l.length<4 then 5 else 0)]∧Below w.heap.size w w'):=by
 refine A4 (n:=9) func49 O<|Ai<|Aa (Bx (show _=some (u32 (0#32)) from rfl)) O<|Ab O<|A8<|Ad O<|Aa (Aq AO O ‹_›) O ?_
 refine B8 O<|Ak<|Am O ?_ ?_
 ·intro g
  have a:l.length<4:=by have:=AE g;omega
  exact Ai<|Aa (Bx (show _=some (u32 (0#32)) from rfl)) rfl<|Ab rfl<|Bw<|B2 rfl rfl rfl<|⟨by rw [if_pos a,if_pos a],Below.refl _ _⟩
 intro g
 have a:¬l.length<4:=by have:=AD g;omega
 refine Ci<|Ad O<|Ah O O (Rr v l w b (by omega)) ?_
 rintro _ d ⟨rfl,c⟩
 exact Ab rfl<|Ab rfl<|As<|B2 rfl rfl rfl<|⟨by rw [if_neg a,if_neg a],c⟩
theorem NO (k:Nat) (w:World) (f:k≤16777216):AN prog 228 [.slice none 0 0, .int .i64 (k:Int)] w (fun r w' =>w'.ownsRow w.heap.size 82 1 r 0 []∧Below w.heap.size w w'):=by
 have a:=Cv w 1
 refine A4 (n:=27) func228 O<|Ai<|Ab O<|A8<|Ad O<|B8 O<|Ak<|Cq O false (by simp)<|B1<|Ap<|Ai<|Ad O<|Ad O<|Aa (E4 CX O) O<|Ad O<|Aa (Aq CX O ‹_›) O ?_
 refine Aa (Ek O O (by omega)) O<|Aa (Ek O O (by omega)) O<|Ab O<|A3<|Ad O<|Aa (C7 O O) O<|Ak<|Am O ?_ ?_
 ·intro g
  have d:0<k:=by have:=AE g;omega
  refine A5<|Ad O<|Ad O<|Aa (E4 CX O) O<|Aa (Ex.as (u:= .slice none 0 0) (El (j:=0) CX O O a (AU 0)) O) O<|Aa (Ex.as (u:= .int .i64 (k:Int)) (Bl O) (cngA (Value.int .i64) (by omega))) O<|An (Gq (tn:=3) (kn:= .i64) CX MC O (by decide) Hl O O d (by omega) (by omega)) O ?_
  rintro v b ⟨cap,xs,rfl,c,e⟩
  have a:=Cv b 1
  refine Ad O<|Aa (Aq CX O ‹_›) O ?_
  exact Aa (Fy (j:=0) CX rfl rfl (Nat.zero_le cap)) rfl<|Ab rfl<|A3<|Ad rfl<|Ab rfl<|As<|Al rfl rfl<|⟨H8 (k:=0) (m:=k) (xs:=[]) (by simpa using c) rfl,e⟩
 ·intro g
  exact Ci<|Ad rfl<|Ab rfl<|As<|Al rfl rfl<|⟨⟨rfl, .inl ⟨rfl,rfl⟩⟩,Below.refl _ _⟩
theorem MR (v:Value) (ps:List (Value×List (BitVec 32))) (w:World) (m:BE (fun p:Value×List (BitVec 32)=>p.1) w v ps) (y:∀p ∈ ps,BE (u32) w p.1 p.2) (s:(ps.map (·.2)).flatten.length≤16777216):
  AN prog 145 [v] w (fun r w' =>w'.ownsRow w.heap.size 82 1 r (ps.map (·.2)).flatten.length ((ps.map (·.2)).flatten.map (u32))∧Below w.heap.size w w'):=by
 have A:=m.le
 have c:∀i,i<ps.length→BE (u32) w (ps.getD i default).1 (ps.getD i default).2:=fun i l=>y _ (I1 l)
 refine A4 (n:=36) func145 O<|Ai<|Ab O<|A3<|Ab O<|A8<|Ad O<|Aa (Aq JI O ‹_›) O ?_
 refine Ad O<|Ak<|Ar ?_
 refine Bu (S:=Nat) (fun i=>[(0,v),(3, .int .i64 ((((ps.take i).map (·.2)).flatten.length:Nat):Int)),(9,v),(10, .int .i64 (ps.length:Int)),(11, .int .i64 (i:Int))]) (fun i w' =>i≤ps.length∧w' =w) (fun i=>ps.length - i) (0) ⟨rfl,rfl,rfl,rfl,rfl,trivial⟩ ?_ ?_
 ·exact ⟨by omega,rfl⟩
 rintro i e ⟨l,rfl⟩
 refine Ai<|B8 O<|Ak<|Ap<|Am O ?_ ?_
 ·intro h
  have a:i<ps.length:=by simp at h;omega
  have q:=c i a
  have t:=LR (ps:=ps) (i+1)
  have j:=I9 a
  have k:=cngA length j
  rw [length_append] at k
  refine B1<|Ap<|Ar<|Ai<|Aa (Bb JI O O ‹_› _ O (by omega)) O ?_
  refine Aa (Bf (RF _) O ‹_› (by omega)) O ?_
  refine Ab O<|A3<|Ad O<|Ad O<|Aa (Aq CX O ‹_›) O ?_
  refine Ca O (by omega)<|Ab O<|A3<|Ad O<|B8 O<|Ak<|Cq O false (by simp;omega)<|Cj<|Ba<|Cr<|Ca O (by omega)<|Ad O<|A7 ?_
  exact Ay (Br (i+1) ⟨rfl,(cngA (fun x=>some (Value.int .i64 x)) (by omega)),rfl,rfl,rfl,trivial⟩ (⟨a,rfl⟩) (by omega))
 intro h
 have a:i=ps.length:=by simp at h;omega
 subst a
 rw [take_length]
 refine Bq<|Au<|Au<|Bc<|Cf<|Ad O<|Ah O O (NO _ e s) ?_
 rintro x B ⟨d,b⟩
 have g:=m.bs b
 refine Ab O<|A8<|Ad O<|Aa (Aq JI O ‹_›) O ?_
 refine Ad O<|Ak<|Ar ?_
 refine Bu (S:=(Nat×Value)) (fun z=>[(0,v),(6,z.2),(25,v),(26, .int .i64 (ps.length:Int)),(27, .int .i64 (z.1:Int))]) (fun z w' =>z.1≤ps.length∧w'.ownsRow e.heap.size 82 1 z.2 ((ps.take z.1).map (·.2)).flatten.length (((ps.take z.1).map (·.2)).flatten.map (u32))∧Below e.heap.size e w') (fun z=>ps.length - z.1) ((0,x)) ⟨rfl,rfl,rfl,rfl,rfl,trivial⟩ ?_ ?_
 ·exact ⟨Nat.zero_le _,by simpa using d,b⟩
 clear d b g
 rintro ⟨i,x⟩ B ⟨l,d,b⟩
 dsimp only at l d ⊢
 have g:=m.bs b
 refine Ai<|B8 O<|Ak<|Ap<|Am O ?_ ?_
 ·intro h
  have a:i<ps.length:=by simp at h;omega
  have q:=(c i a).bs b
  have t:=LR (ps:=ps) (i+1)
  have j:=I9 a
  have k:=cngA length j
  rw [length_append] at k
  refine B1<|Ap<|Ar<|Ai<|Aa (Bb JI O O ‹_› _ O (by omega)) O ?_
  refine Aa (Bf (RF _) O ‹_› (by omega)) O ?_
  refine Ab O<|Ak<|A5<|Ad O<|Ad O<|An (C1 (base:=e.heap.size) CX MC O (by decide) O O d q (BI (fun _=>rfl) _) (by omega) (by omega) b.size) O ?_
  rintro u C ⟨f,o, -⟩
  rw [← map_append,← j,← k] at f
  refine Ab O<|A7<|Ba<|Cr<|Ca O (by omega)<|Ad O<|A7 ?_
  exact Ay (Br ((i+1,u)) ⟨rfl,rfl,rfl,rfl,rfl,trivial⟩ (⟨a,f,b.trans o⟩) (by simp only;omega))
 intro h
 have a:i=ps.length:=by simp at h;omega
 subst a
 rw [take_length] at d
 exact Bq<|Au<|Au<|Bc<|Cf<|Ad rfl<|Ab rfl<|As<|Al rfl rfl<|⟨d,b⟩
theorem PI (k:Nat) (w:World) (f:k≤16777216):AN prog 160 [.slice none 0 0, .int .i64 (k:Int)] w (fun r w' =>w'.ownsRow w.heap.size 5 1 r 0 []∧Below w.heap.size w w'):=by
 have a:=Cv w 1
 refine A4 (n:=27) func160 O<|Ai<|Ab O<|A8<|Ad O<|B8 O<|Ak<|Cq O false (by simp)<|B1<|Ap<|Ai<|Ad O<|Ad O<|Aa (E4 AO O) O<|Ad O<|Aa (Aq AO O ‹_›) O ?_
 refine Aa (Ek O O (by omega)) O<|Aa (Ek O O (by omega)) O<|Ab O<|A3<|Ad O<|Aa (C7 O O) O<|Ak<|Am O ?_ ?_
 ·intro g
  have d:0<k:=by have:=AE g;omega
  refine A5<|Ad O<|Ad O<|Aa (E4 AO O) O<|Aa (Ex.as (u:= .slice none 0 0) (El (j:=0) AO O O a (AU 0)) O) O<|Aa (Ex.as (u:= .int .i64 (k:Int)) (Bl O) (cngA (Value.int .i64) (by omega))) O<|An (Gq (tn:=3) (kn:= .i64) AO DD O (by decide) Hl O O d (by omega) (by omega)) O ?_
  rintro v b ⟨cap,xs,rfl,c,e⟩
  have a:=Cv b 1
  refine Ad O<|Aa (Aq AO O ‹_›) O ?_
  exact Aa (Fy (j:=0) AO rfl rfl (Nat.zero_le cap)) rfl<|Ab rfl<|A3<|Ad rfl<|Ab rfl<|As<|Al rfl rfl<|⟨H8 (k:=0) (m:=k) (xs:=[]) (by simpa using c) rfl,e⟩
 ·intro g
  exact Ci<|Ad rfl<|Ab rfl<|As<|Al rfl rfl<|⟨⟨rfl, .inl ⟨rfl,rfl⟩⟩,Below.refl _ _⟩
theorem NT (v:Value) (ps:List (Value×List (BitVec 8))) (w:World) (m:BE (fun p:Value×List (BitVec 8)=>p.1) w v ps) (y:∀p ∈ ps,BE (b8) w p.1 p.2) (s:(ps.map (·.2)).flatten.length≤16777216):
  AN prog 56 [v] w (fun r w' =>w'.ownsRow w.heap.size 5 1 r (ps.map (·.2)).flatten.length ((ps.map (·.2)).flatten.map (b8))∧Below w.heap.size w w'):=by
 have A:=m.le
 have c:∀i,i<ps.length→BE (b8) w (ps.getD i default).1 (ps.getD i default).2:=fun i l=>y _ (I1 l)
 refine A4 (n:=36) func56 O<|Ai<|Ab O<|A3<|Ab O<|A8<|Ad O<|Aa (Aq FQ O ‹_›) O ?_
 refine Ad O<|Ak<|Ar ?_
 refine Bu (S:=Nat) (fun i=>[(0,v),(3, .int .i64 ((((ps.take i).map (·.2)).flatten.length:Nat):Int)),(9,v),(10, .int .i64 (ps.length:Int)),(11, .int .i64 (i:Int))]) (fun i w' =>i≤ps.length∧w' =w) (fun i=>ps.length - i) (0) ⟨rfl,rfl,rfl,rfl,rfl,trivial⟩ ?_ ?_
 ·exact ⟨by omega,rfl⟩
 rintro i e ⟨l,rfl⟩
 refine Ai<|B8 O<|Ak<|Ap<|Am O ?_ ?_
 ·intro h
  have a:i<ps.length:=by simp at h;omega
  have q:=c i a
  have t:=LR (ps:=ps) (i+1)
  have j:=I9 a
  have k:=cngA length j
  rw [length_append] at k
  refine B1<|Ap<|Ar<|Ai<|Aa (Bb FQ O O ‹_› _ O (by omega)) O ?_
  refine Aa (Bf (HO _) O ‹_› (by omega)) O ?_
  refine Ab O<|A3<|Ad O<|Ad O<|Aa (Aq AO O ‹_›) O ?_
  refine Ca O (by omega)<|Ab O<|A3<|Ad O<|B8 O<|Ak<|Cq O false (by simp;omega)<|Cj<|Ba<|Cr<|Ca O (by omega)<|Ad O<|A7 ?_
  exact Ay (Br (i+1) ⟨rfl,(cngA (fun x=>some (Value.int .i64 x)) (by omega)),rfl,rfl,rfl,trivial⟩ (⟨a,rfl⟩) (by omega))
 intro h
 have a:i=ps.length:=by simp at h;omega
 subst a
 rw [take_length]
 refine Bq<|Au<|Au<|Bc<|Cf<|Ad O<|Ah O O (PI _ e s) ?_
 rintro x B ⟨d,b⟩
 have g:=m.bs b
 refine Ab O<|A8<|Ad O<|Aa (Aq FQ O ‹_›) O ?_
 refine Ad O<|Ak<|Ar ?_
 refine Bu (S:=(Nat×Value)) (fun z=>[(0,v),(6,z.2),(25,v),(26, .int .i64 (ps.length:Int)),(27, .int .i64 (z.1:Int))]) (fun z w' =>z.1≤ps.length∧w'.ownsRow e.heap.size 5 1 z.2 ((ps.take z.1).map (·.2)).flatten.length (((ps.take z.1).map (·.2)).flatten.map (b8))∧Below e.heap.size e w') (fun z=>ps.length - z.1) ((0,x)) ⟨rfl,rfl,rfl,rfl,rfl,trivial⟩ ?_ ?_
 ·exact ⟨Nat.zero_le _,by simpa using d,b⟩
 clear d b g
 rintro ⟨i,x⟩ B ⟨l,d,b⟩
 dsimp only at l d ⊢
 have g:=m.bs b
 refine Ai<|B8 O<|Ak<|Ap<|Am O ?_ ?_
 ·intro h
  have a:i<ps.length:=by simp at h;omega
  have q:=(c i a).bs b
  have t:=LR (ps:=ps) (i+1)
  have j:=I9 a
  have k:=cngA length j
  rw [length_append] at k
  refine B1<|Ap<|Ar<|Ai<|Aa (Bb FQ O O ‹_› _ O (by omega)) O ?_
  refine Aa (Bf (HO _) O ‹_› (by omega)) O ?_
  refine Ab O<|Ak<|A5<|Ad O<|Ad O<|An (C1 (base:=e.heap.size) AO DD O (by decide) O O d q (BI (fun _=>rfl) _) (by omega) (by omega) b.size) O ?_
  rintro u C ⟨f,o, -⟩
  rw [← map_append,← j,← k] at f
  refine Ab O<|A7<|Ba<|Cr<|Ca O (by omega)<|Ad O<|A7 ?_
  exact Ay (Br ((i+1,u)) ⟨rfl,rfl,rfl,rfl,rfl,trivial⟩ (⟨a,f,b.trans o⟩) (by simp only;omega))
 intro h
 have a:i=ps.length:=by simp at h;omega
 subst a
 rw [take_length] at d
 exact Bq<|Au<|Au<|Bc<|Cf<|Ad rfl<|Ab rfl<|As<|Al rfl rfl<|⟨d,b⟩
theorem OX (x:BitVec 32) (w:World):AN prog 147 [i32 x] w (fun r w' =>r=u32 x∧Below w.heap.size w w'):=by
 exact A4 (n:=5) func147 rfl<|Ai<|Aa (Bx (show _=some (u32 (0#32)) from rfl)) rfl<|A3<|Ad rfl<|Aa (F9 U3 Ia rfl) rfl<|Ab rfl<|As<|Al rfl rfl<|⟨rfl,Below.refl _ _⟩
theorem SL (v:Value) (l:List (BitVec 32)) (w:World) (o:BE i32 w v l) (B:l.length≤4194304):
  AN prog 146 [v, .func (.func 147) #[] #[]] w (fun r w' =>w'.ownsRow w.heap.size 82 1 r l.length (l.map u32)∧Below w.heap.size w w'):=by
 have y:=o.le
 refine A4 (n:=26) func146 O<|Ai<|Ab O<|A3<|Ad O<|Aa (Aq CE O ‹_›) O ?_
 refine An (Ej CX MC O O O (AU _) (by omega) (by omega)) O ?_
 rintro x q ⟨a, -,d, -⟩
 have g:=o.bs d
 obtain ⟨z,s⟩:∃z,z=replicate l.length 0#32:=⟨_,rfl⟩
 have k:l.length=z.length:=by rw [s,length_replicate]
 have t:(replicate l.length [Value.int .u32 0]).flatten=z.map u32:=by rw [s];exact Il (enc:=u32) (z:=0#32) l.length
 rw [t] at a
 refine Ab O<|A8<|Ad O<|Aa (Aq CE O ‹_›) O ?_
 refine Ad O<|Ak<|Ar ?_
 refine Bu (S:=Nat) (fun i=>[(1, .func (.func 147) #[] #[]),(5,x),(11,v),(12, .int .i64 (l.length:Int)),(13, .int .i64 (i:Int))]) (fun i w' =>i≤l.length∧w'.ownsRow w.heap.size 82 1 x l.length ((l.take i++z.drop i).map u32)∧Below w.heap.size w w') (fun i=>l.length - i) (0) ⟨rfl,rfl,rfl,rfl,rfl,trivial⟩ ?_ ?_
 ·exact ⟨by omega,by rw [Oo];exact a,d⟩
 clear a d g
 rintro i q ⟨C,a,d⟩
 have g:=o.bs d
 refine Ai<|B8 O<|Ak<|Ap<|Am O ?_ ?_
 ·intro h
  have c:i<l.length:=by simp at h;omega
  refine B1<|Ap<|Ar<|Ai<|Ad O<|Aa (Bb CE O O ‹_› _ O (by omega)) O ?_
  refine Aa (Bf (MZ _) O ‹_› (by omega)) O ?_
  refine Ab O<|Ab O<|Ak<|A5<|Ad O<|Ad O<|Ad O<|Ad O<|Ee (p:=[]) O O O (OX (l.getD i default) q) ?_
  rintro _ D ⟨rfl,f⟩
  have a:=AF a f
  have m:=(AG a).shp
  refine Aa (Fx CX O O m i O c) O<|A6 (Gf (KH _) O O O a (by simp;omega)) ?_
  rintro A ⟨j,u, -⟩
  rw [← map_set,Ql k (by omega)] at j
  refine A7<|Ba<|Cr<|Ca O (by omega)<|Ad O<|A7 ?_
  exact Ay (Br (i+1) ⟨rfl,rfl,rfl,rfl,rfl,trivial⟩ (⟨c,j,(bt d f).grown u (AA (bt d f)) fun b e=>(AB a b e).1⟩) (by omega))
 intro h
 have c:i=l.length:=by simp at h;omega
 subst c
 rw [k,Qm k,← k] at a
 exact Bq<|Au<|Au<|Bc<|Cf<|Ad rfl<|Ab rfl<|As<|Al rfl rfl<|⟨a,d⟩
theorem SW (v u:Value) (lb:List (BitVec 8)) (l:List (BitVec 32)) (w:World) (I:BE b8 w v lb) (p:BE u32 w u l) (L:lb.length+4*l.length≤16777216):
  AN prog 144 [v,u] w (fun r w' =>w'.ownsRow w.heap.size 5 1 r (lb++BQ l).length ((lb++BQ l).map b8)∧Below w.heap.size w w'):=by
 refine A4 (n:=42) func144 O<|Ai<|Ab O<|A3<|Ad O<|Aa (Aq AO O ‹_›) O ?_
 refine Ad O<|Aa (Aq AO O ‹_›) O ?_
 refine Ad O<|Aa (Aq CX O ‹_›) O ?_
 refine Aa (E1 O O (by omega)) O<|Aa (Ex.as (u:= .int .i64 ((lb.length+4*l.length:Nat):Int)) (En O O (by omega)) (cngA (Value.int .i64) (by omega))) O<|An (Ej AO DD O O O (by omega) (by omega) (by omega)) O ?_
 rintro x C ⟨d, -,f, -⟩
 have k:=I.bs f
 refine Ab O<|A3<|Ad O<|Ad O<|An (Xw.copy AO O O O d k (AU _) (BI (fun _=>rfl) _)) O ?_
 rintro _ A ⟨rfl,g,s, -⟩
 have B:(replicate lb.length [Value.int .u8 0]).flatten.drop lb.length=[]:=by
  rw [Il (enc:=Value.int .u8) (z:=0)];simp
 rw [B,append_nil] at g
 have a:Below w.heap.size w A:=f.grown s (AA f) fun b e=>(AB d b e).1
 clear d f k s
 have o:=p.bs a
 refine A8<|Ad O<|Aa (Aq CX O ‹_›) O ?_
 refine Ad O<|Ak<|Ar ?_
 refine Bu (S:=(Nat×Value)) (fun z=>[(1,u),(5,z.2),(20,u),(21, .int .i64 (l.length:Int)),(22, .int .i64 (z.1:Int))]) (fun z w' =>z.1≤l.length∧w'.ownsRow w.heap.size 5 1 z.2 (lb++BQ (l.take z.1)).length ((lb++BQ (l.take z.1)).map b8)∧Below w.heap.size w w') (fun z=>l.length - z.1) ((0,x)) ⟨rfl,rfl,rfl,rfl,rfl,trivial⟩ ?_ ?_
 ·exact ⟨Nat.zero_le _,by simpa [BQ] using g,a⟩
 clear g a o
 rintro ⟨i,x⟩ C ⟨H,d,f⟩
 dsimp only at H d ⊢
 have D:=p.bs f
 have J:=p.le
 refine Ai<|B8 O<|Ak<|Ap<|Am O ?_ ?_
 ·intro h
  have c:i<l.length:=by simp at h;omega
  have t:(lb++BQ (l.take i))++Crc.four (l.getD i default)=lb++BQ (l.take (i+1)):=by
   rw [take_succ_eq_append_getElem c,LH,append_assoc]
   simp [BQ,c]
  have F:(lb++BQ (l.take i)).length+4=(lb++BQ (l.take (i+1))).length:=by
   have:=cngA length t
   simp [Crc.four] at this ⊢
   omega
  have M:(lb++BQ (l.take (i+1))).length≤16777216:=by rw [length_append,CW,length_take];omega
  refine B1<|Ap<|Ar<|Ai<|Aa (Bb CX O O ‹_› _ O (by omega)) O ?_
  refine Aa (Bf (OM _) O ‹_› (by omega)) O ?_
  refine Ab O<|Ak<|A5<|Ad O<|Ad O<|Aa (C8 GW HC O) O<|Ad O<|Aa (D7 (j:=8) O O (by decide)) O<|Aa (C8 GW HC O) O<|Ad O<|Aa (D7 (j:=16) O O (by decide)) O<|Aa (C8 GW HC O) O<|Ad O<|Aa (D7 (j:=24) O O (by decide)) O<|Aa (C8 GW HC O) O<|An (B7 (vs:=(Crc.four (l.getD i default)).map b8) AO DD O O O O O) O ?_
  rintro y A ⟨G, -,a, -⟩
  have d:=AF d a
  refine An (C1 (base:=w.heap.size) AO DD O (by decide) O O d (AG G) (BI (fun _=>rfl) _) (by omega) (by omega) (bt f a).size) O ?_
  rintro E K ⟨m,q, -⟩
  rw [← map_append,t,F] at m
  refine Ab O<|A7<|Ba<|Cr<|Ca O (by omega)<|Ad O<|A7 ?_
  exact Ay (Br ((i+1,E)) ⟨rfl,rfl,rfl,rfl,rfl,trivial⟩ (⟨c,m,(bt f a).trans q⟩) (by simp only;omega))
 intro h
 have c:i=l.length:=by simp at h;omega
 subst c
 rw [take_length] at d
 exact Bq<|Au<|Au<|Bc<|Cf<|Ad rfl<|Ab rfl<|As<|Al rfl rfl<|⟨d,f⟩
theorem Pd (v u:Value) (lb:List (BitVec 8)) (l:List (BitVec 32)) (w:World) (h:BE b8 w v lb) (g:BE i32 w u l) (B:lb.length+4*(l.length+1)≤4194304):
  AN prog 43 [v,u] w (fun r w' =>w'.ownsRow w.heap.size 5 1 r (lb++BQ (BitVec.ofInt 32 (l.length:Int)::l)).length ((lb++BQ (BitVec.ofInt 32 (l.length:Int)::l)).map b8)∧Below w.heap.size w w'):=by
 have f:=Below.refl w.heap.size w
 have j:(w:World)→w.heap.size≤w.heap.size:=fun _=>AU _
 refine A4 (n:=15) func43 O<|Ai<|Ab O<|A3<|Ad O<|Ad O<|Aa (Aq CE O ‹_›) O ?_
 refine Aa (E3 Mf Ia O) O<|An (B7 (vs:=[BitVec.ofInt 32 (l.length:Int)].map u32) CX MC O O O O O) O ?_
 rintro y w ⟨o, -,b, -⟩
 have d:=AL o
 have f:=f.bs b
 have h:=h.bs b
 have g:=g.bs b
 clear b o
 refine Ad O<|Ah O O (SL u l w g (by omega)) ?_
 rintro z w ⟨k,b⟩
 have e:=AL k
 have f:=f.bs b
 have h:=h.bs b
 have g:=g.bs b
 have d:=d.bs b
 clear b k
 refine An (B7 (vs:=[y,z]) JI TW O O O (by simp [d.one',e.one']) O) O ?_
 rintro a w ⟨q, -,b, -⟩
 have f:=f.bs b
 have h:=h.bs b
 have g:=g.bs b
 have d:=d.bs b
 have e:=e.bs b
 refine Ah O O (MR a [(y,[BitVec.ofInt 32 (l.length:Int)]),(z,l)] w (AG q) (by intro p m;simp at m;rcases m with rfl|rfl;exact d;exact e) (by simp;omega)) ?_
 rintro c w ⟨s,b⟩
 have i:=AL s
 have A:(([(y,[BitVec.ofInt 32 (l.length:Int)]),(z,l)]:List (Value×List (BitVec 32))).map (·.2)).flatten=BitVec.ofInt 32 (l.length:Int)::l:=by simp
 rw [A] at i
 have f:=f.bs b
 have h:=h.bs b
 have g:=g.bs b
 have d:=d.bs b
 have e:=e.bs b
 clear b s q
 have t:=AA f
 refine Ah O O (SW v c lb _ w h i (by simp;omega)) ?_
 rintro r w ⟨x,b⟩
 have f:=f.bs b
 have h:=h.bs b
 have g:=g.bs b
 have d:=d.bs b
 have e:=e.bs b
 exact Ab rfl<|As<|Al rfl rfl<|⟨CR x t,f⟩

def BA (s:List Int):List (BitVec 8):=BitVec.ofInt 8 (s.length:Int)::s.map (BitVec.ofInt 8)
def EP (s:List Int) (i:Nat):List (BitVec 8):=BitVec.ofInt 8 (s.length:Int)::(s.take i).map (BitVec.ofInt 8)
theorem NL {s:List Int} {i:Nat} (h:i<s.length):EP s (i+1)=EP s i++[BitVec.ofInt 8 (s.getD i default)]:=by
 unfold EP
 rw [take_succ_eq_append_getElem h,map_append]
 simp [h]
theorem PA (s:List Int):EP s s.length=BA s:=by unfold EP BA;rw [take_length]
theorem IT {s:List Int} {i:Nat} (h:i≤s.length):(EP s i).length=i+1:=by simp [EP];omega
theorem R3 (u:Value) (a:List (BitVec 8)) (w:World) (b:BE b8 w u a):AN prog 44 [u] w (fun r w' =>r=clip u∧Below w.heap.size w w'):=by
 refine A4 (n:=9) func44 O<|Ai<|Ab O<|A3<|Ad O<|Ad O<|Aa (Aq AO O ‹_›) O ?_
 refine Ad O<|Aa (Aq AO O ‹_›) O ?_
 exact Aa (Fq AO rfl rfl rfl b.shp) rfl<|Ab rfl<|As<|Al rfl rfl<|⟨rfl,Below.refl _ _⟩

def Hm (k:Nat):List Value:=(List.range k).map fun n=>u32 (Crc.tab (BitVec.ofNat 8 n))
theorem Ma:∃zv,(∀w,(zeroValue 287).run prog w= .ok zv w)∧zv.cells=(replicate 256 (Value.int .u32 0)).toArray:=
 ⟨.agg (replicate 256 (Value.int .u32 0)).toArray,fun w=>by kernel_rfl,rfl⟩
theorem Qo (k:Nat) (c:k<256):(Hm k++replicate (256 - k) (Value.int .u32 0)).set k (u32 (Crc.tab (BitVec.ofNat 8 k)))=Hm (k+1)++replicate (256 - (k+1)) (Value.int .u32 0):=by
 have a:(Hm k).length=k:=by simp [Hm]
 have b:256 - k=(256 - (k+1))+1:=by omega
 rw [set_append_right _ _ (by omega),a,Nat.sub_self,b,replicate_succ,set_cons_zero]
 simp [Hm,range_succ]
theorem Sa (w:World):AN prog 229 [] w (fun r w' =>r= .agg (Hm 256).toArray∧Below w.heap.size w w'):=by
 obtain ⟨zv,t,p⟩:=Ma
 refine A4 (n:=22) func229 O<|Ai<|An (Xw.alloc (t _) p) O ?_
 rintro _ l ⟨rfl,g,f,u⟩
 refine A8<|Aa (Bl (show _=some (u32 (0#32)) from rfl)) O<|Ak<|Ar ?_
 refine Bu (S:=Nat) (fun k=>[(0, .pointer (some ⟨w.heap.size,0,none⟩)),(3,u32 (BitVec.ofNat 32 k))]) (fun k w' =>k≤256∧AP w' w.heap.size 287 (Hm k++replicate (256 - k) (.int .u32 0))∧Below w.heap.size w w') (fun k=>256 - k) (0) ⟨rfl,rfl,trivial⟩ ?_ ?_
 ·exact ⟨by omega,g,f⟩
 clear g f u l
 rintro k l ⟨y,g,f⟩
 have d:(BitVec.ofNat 32 k).toNat=k:=by simp;omega
 refine Ai<|B8 O<|Ak<|Ap<|Am O ?_ ?_
 ·intro h
  refine B1<|Ap<|Ar<|Ai<|Ad O<|Ab O<|A3<|Ad O<|Ab O<|A8<|Ad O<|Ak<|Ar ?_
  refine Bu (S:=Nat) (fun j=>[(0, .pointer (some ⟨w.heap.size,0,none⟩)),(1,u32 (BitVec.ofNat 32 k)),(2,u32 (Crc.iter j (BitVec.ofNat 32 k))),(3,u32 (BitVec.ofNat 32 k)),(7, .int .i64 (j:Int))]) (fun j w' =>j≤8∧w' =l) (fun j=>8 - j) (0) ⟨rfl,rfl,rfl,rfl,rfl,trivial⟩ ?_ ?_
  ·exact ⟨by omega,rfl⟩
  rintro j _ ⟨z,rfl⟩
  refine Ai<|B8 O<|Ak<|Ap<|Am O ?_ ?_
  ·intro c
   have b:j<8:=by simp at c;omega
   refine B1<|Ap<|Ar<|A5<|Ad O<|Aa (D7 (j:=1) O O (by decide)) O<|Ad O<|Aa (G2 O (show _=some (u32 (1#32)) from rfl)) O<|Aa (Ex.neg32 O) O<|Aa (G2 (show _=some (u32 (3988292384#32)) from rfl) O) O<|Aa (Gw O O) O<|Ab O<|A7<|Ba<|Cr<|Ca O (by omega)<|Ad O<|A7 ?_
   exact Ay (Br (j+1) ⟨rfl,rfl,(by rw [Crc.iter_succ',← Crc.bit_prog];rfl),rfl,rfl,trivial⟩ (⟨by omega,rfl⟩) (by omega))
  ·intro c
   have b:j=8:=by simp at c;omega
   have a:k<256:=by simp [d] at h;omega
   refine Bq<|Au<|Au<|Bc<|Cr<|Ad O<|Ad O<|Aa (Ex.idxB Qe KH O O k (by rw [d]) a) O<|A6 (Cm (KH _) O O O g (by simp [Hm];omega)) ?_
   rintro x ⟨e,o,q⟩
   refine A7<|Ba<|Cr<|Aa (Ex.add32 O (show _=some (u32 (1#32)) from rfl)) O<|Ad O<|A7 ?_
   have v:(BitVec.ofNat 32 k)+1#32=BitVec.ofNat 32 (k+1):=by apply BitVec.eq_of_toNat_eq;simp
   have s:u32 (Crc.iter 8 (BitVec.ofNat 32 k))=u32 (Crc.tab (BitVec.ofNat 8 k)):=by
    have:BitVec.ofNat 32 k=(BitVec.ofNat 8 k).setWidth 32:=by apply BitVec.eq_of_toNat_eq;simp;omega
    rw [this];rfl
   rw [b,s,Nat.zero_add,Nat.mul_one,Qo k a] at e
   exact Ay (Br (k+1) ⟨rfl,(by rw [v];rfl),trivial⟩ (⟨by omega,e,f.grown o (AA f) (by rintro _ ⟨⟩;exact AU _)⟩) (by omega))
 ·intro h
  have a:k=256:=by simp [d] at h;omega
  subst a
  have i:AP l w.heap.size 287 (Hm 256):=by simpa using g
  have m:(Hm 256).length=256:=by simp [Hm]
  refine Bq<|Au<|Au<|Bc<|Cf<|Aa (Ce (Up _) (Tv _) m O i) O<|A6 (Ck O m O O (by simp [Hm,Value.oneCell']) i m) ?_
  rintro x ⟨e,o,q⟩
  refine As<|D9 O O ‹_› underlying287 O O m ?_
  exact ⟨rfl,f.grown o (AA f) (by rintro _ ⟨⟩;exact AU _)⟩
theorem RZ (c:BitVec 8):(Hm 256)[0+c.toNat*1]? =some (u32 (Crc.tab c)):=by
 have h:c.toNat<256:=c.isLt
 have e:BitVec.ofNat 8 c.toNat=c:=by apply BitVec.eq_of_toNat_eq;simp
 simp [Hm,h]
theorem Qz (r:BitVec 32) (l:List (BitVec 8)) (k:Nat) (a:k<l.length):Crc.run r (l.take (k+1))=Crc.tab ((Crc.run r (l.take k)).setWidth 8 ^^^ l.getD k default) ^^^ Crc.run r (l.take k)>>>8:=by
 rw [take_succ_eq_append_getElem a,Crc.run_append]
 simp [Crc.run,Crc.feed_tab,a]
theorem Vk (s:BitVec 32) (v:Value) (l:List (BitVec 8)) (w:World) (i:BE b8 w v l):AN prog 148 [u32 s,v] w (fun r w' =>r=u32 (Crc.on s l)∧Below w.heap.size w w'):=by
 obtain ⟨zv,t,d⟩:=Ma
 have x:(Hm 256).length=256:=by simp [Hm]
 have z:=i.le
 refine A4 (n:=30) func148 O<|Ai<|Aa (Bx (show _=some (u32 (0#32)) from rfl)) O<|A3<|Ah O O (Sa w) ?_
 rintro _ m ⟨rfl,e⟩
 refine Ad O<|Aa (Gx O) O<|An (Xw.alloc (t _) d) O ?_
 rintro _ B ⟨rfl,p,c,y⟩
 refine A6 (Ck O x O O (by simp [Hm,Value.oneCell']) p length_replicate) ?_
 rintro g ⟨f,q,o⟩
 have b:Below w.heap.size w g:=(Kz e c (AU _)).grown q (by have:=e.size;omega) (by rintro _ ⟨⟩;exact e.size)
 have u:=i.bs b
 refine Ab O<|A8<|Ad O<|Aa (Aq AO O ‹_›) O ?_
 refine Ad O<|Ak<|Ar ?_
 refine Bu (S:=Nat) (fun k=>[(5, .pointer (some ⟨m.heap.size,0,none⟩)),(6,u32 (Crc.run (~~~ s) (l.take k))),(12,v),(13, .int .i64 (l.length:Int)),(14, .int .i64 (k:Int))]) (fun k w' =>k≤l.length∧w' =g) (fun k=>l.length - k) (0) ⟨rfl,rfl,rfl,rfl,rfl,trivial⟩ ?_ ?_
 ·exact ⟨by omega,rfl⟩
 rintro k _ ⟨A,rfl⟩
 refine Ai<|B8 O<|Ak<|Ap<|Am O ?_ ?_
 ·intro h
  have a:k<l.length:=by simp at h;omega
  refine B1<|Ap<|Ar<|Ai<|Aa (Bb AO O O ‹_› _ O (by omega)) O ?_
  refine Aa (Bf (LW _) O ‹_› (by omega)) O ?_
  refine Ab O<|Ak<|A5<|Ad O<|Aa (C8 GW HC O) O<|Ad O<|Aa (Ex.xor8 O O) O<|Aa (Ex.idxB Qe KH O O ((Crc.run (~~~ s) (l.take k)).setWidth 8 ^^^ l.getD k default).toNat O (BitVec.isLt _)) O<|Aa (Ao (OM _) O f (RZ _)) O<|Ad O<|Aa (D7 (j:=8) O O (by decide)) O<|Aa (Gw O O) O<|Ab O<|A7<|Ba<|Cr<|Ca O (by omega)<|Ad O<|A7 ?_
  exact Ay (Br (k+1) ⟨rfl,(by rw [Qz _ _ _ a];rfl),rfl,rfl,rfl,trivial⟩ (⟨by omega,rfl⟩) (by omega))
 ·intro h
  have a:k=l.length:=by simp at h;omega
  subst a
  refine Bq<|Au<|Au<|Bc<|Cf<|Ad O<|Aa (Gx O) O<|Ab O<|As<|Al O O ?_
  exact ⟨by rw [take_length];rfl,b⟩
theorem TI (v:Value) (l:List (BitVec 8)) (w:World) (a:BE b8 w v l):AN prog 46 [v] w (fun r w' =>r=u32 (Crc.of l)∧Below w.heap.size w w'):=by
 refine A4 (n:=5) func46 O<|Ai<|Aa (Bx (show _=some (u32 (0#32)) from rfl)) O<|A3<|Ad O<|Ah O O (Vk 0#32 v l w a) ?_
 rintro _ c ⟨rfl,b⟩
 exact Ab rfl<|As<|Al rfl rfl<|⟨rfl,b⟩
end Go.Proofs.YtblbopcaflaldaaGreatDoor

namespace Go.Proofs.YtblbopcaflaldaaGreatDoor
open Go Go.Dd Go.RowKit List
set_option maxRecDepth 100000
def DR (w:World) (v:Value) (ts:List T4):Prop:=Sl w 2 v ts.length (cellsOf ts)∧∀t ∈ ts,t.at w
theorem DR.bs {w w' :World} {v:Value} {ts:List T4} (h:DR w v ts) (g:Below w.heap.size w w'):DR w' v ts:=⟨h.1.bs g,fun t a=>(h.2 t a).bs g⟩
theorem DR.slice {w:World} {v:Value} {ts:List T4} (h:DR w v ts) {i:Nat} (d:i<ts.length):∃ad c k,v= .slice (some ad) c k:=by
 obtain ⟨_,a,cap,rfl,_,_,b,_⟩:=h.1
 cases a with
 |none=>have:=b rfl;omega
 |some ad=>exact ⟨_,_,_,rfl⟩
theorem On {ts:List T4} {i:Nat} (h:i<ts.length):∃t:T4,t=ts[i]∧t ∈ ts∧(cellsOf ts)[i*2]? =some t.x∧(cellsOf ts)[i*2+1]? =some t.y:=
 ⟨ts[i],rfl,getElem_mem h,(DP h).1,(DP h).2⟩
theorem H6 {xs:List Value} {o:Nat} {x y:Value} (b:xs[o]? =some x) (a:xs[o+1]? =some y):∀i,i<2→∃q,[x,y][i]? =some q∧xs[o+i]? =some q:=fun i c=>by
 rcases (show i=0∨i=1 by omega) with rfl|rfl
 ·exact ⟨_,rfl,b⟩
 ·exact ⟨_,rfl,a⟩
end Go.Proofs.YtblbopcaflaldaaGreatDoor

namespace Go.Dd
open Go Go.RowKit
open List hiding all
structure FW (S:Nat→Prop) (w w' :World):Prop where
 os:w'.os=w.os
 tape:w'.tape=w.tape
 output:w'.output=w.output
 size:w.heap.size≤w'.heap.size
 block:∀k,k<w.heap.size→¬S k→w'.heap[k]? =w.heap[k]?
namespace FW
variable {S T : Nat → Prop} {a b c : World}
theorem refl (S:Nat→Prop) (w:World):FW S w w:=⟨rfl,rfl,rfl,AU _,fun _ _ _=>rfl⟩
theorem trans (h:FW S a b) (k:FW S b c):FW S a c:=
 ⟨k.os.trans h.os,k.tape.trans h.tape,k.output.trans h.output,Nat.le_trans h.size k.size,fun i f d=>(k.block i (Nat.lt_of_lt_of_le f h.size) d).trans (h.block i f d)⟩
theorem mono (h:FW S a b) (d:∀k,S k→T k):FW T a b:=⟨h.os,h.tape,h.output,h.size,fun k f g=>h.block k f fun e=>g (d k e)⟩
theorem below (h:FW S a b) (k:Below b.heap.size b c):FW S a c:=
 ⟨k.os.trans h.os,k.tape.trans h.tape,k.output.trans h.output,Nat.le_trans h.size k.size,fun i d f=>(k.block i (Nat.lt_of_lt_of_le d h.size)).trans (h.block i d f)⟩
theorem grown (h:FW S a b) {r:Option Nat} (k:b.grownBy c r) (j:∀n,r=some n→S n∨a.heap.size≤n):FW S a c:=
 ⟨k.os.trans h.os,k.tape.trans h.tape,k.output.trans h.output,Nat.le_trans h.size k.size,fun i g f=>(k.block i (Nat.lt_of_lt_of_le g h.size) (fun e=>by
  rcases j i e.symm with d|d
  ·exact f d
  ·omega)).trans (h.block i g f)⟩
theorem of_below (h:Below a.heap.size a b):FW S a b:=(FW.refl S a).below h
theorem to_below {B:Nat} (h:FW S a b) (d:∀k,S k→B≤k) (g:B≤a.heap.size):Below B a b:=
 ⟨h.os,h.tape,h.output,h.size,fun k f=>h.block k (by omega) fun e=>by have:=d k e;omega⟩
end FW
theorem AP.chg {S:Nat→Prop} {w w' :World} {b:Nat} {T:TypeId} {cs:List Value} (h:AP w b T cs) (g:FW S w w') (d:¬S b):AP w' b T cs:=h.keep (g.block b (AW h) d)
theorem AQ.chg {S:Nat→Prop} {w w' :World} {base:Nat} {e:TypeId} {sz:Nat} {v:Value} {n:Nat} {xs:List Value} (h:AQ w base e sz v n xs) (g:FW S w w') (d:∀b,v.ownBlock=some b→¬S b):AQ w' base e sz v n xs:=
 h.heap fun b e=>g.block b (h.lt b e).2 (d b e)
theorem Sl.chg {S:Nat→Prop} {w w' :World} {sz:Nat} {v:Value} {n:Nat} {xs:List Value} (h:Sl w sz v n xs) (g:FW S w w') (f:∀b,v.ownBlock=some b→b<w.heap.size→¬S b):Sl w' sz v n xs:=
 h.keep fun b d e=>g.block b d (f b e d)
structure Hd where
 v:Value
 k:Nat
 xs:List Value
 n:Int
 g:Value
def Hd.cells (h:Hd):List Value:=[h.v,h.g, .int .i64 h.n]
def CY:List Hd→List Value
 |[]=>[]
 |h::hs=>h.v::h.g:: .int .i64 h.n::CY hs
def Jt (hs:List Hd):Nat→Prop:=fun b=>∃h ∈ hs,h.v.ownBlock=some b
structure KOk (hs:List Hd):Prop where
 num:∀h ∈ hs,0≤h.n∧h.n≤4000000
 few:∀h ∈ hs,h.k≤16777216
 apart:hs.Pairwise fun a b=>IF a.v b.v
 new:∀h ∈ hs,h.g= .slice none 0 0
structure K2 (w:World) (base:Nat) (E:TypeId) (sz:Nat) (hs:List Hd):Prop extends KOk hs where
 own:∀h ∈ hs,AQ w base E sz h.v h.k h.xs
theorem K2.blk {w:World} {base:Nat} {E:TypeId} {sz:Nat} {d:List Hd} (h:K2 w base E sz d) {b:Nat} (g:Jt d b):base≤b∧b<w.heap.size:=by
 obtain ⟨x,f,e⟩:=g
 exact (h.own x f).lt b e
theorem K2.chg {w w' :World} {base:Nat} {E:TypeId} {sz:Nat} {d:List Hd} {S:Nat→Prop} (h:K2 w base E sz d) (g:FW S w w') (i:∀b,Jt d b→¬S b):K2 w' base E sz d:=
 ⟨h.toKOk,fun x f=>(h.own x f).chg g fun b e=>i b ⟨x,f,e⟩⟩
theorem K2.bs {w w' :World} {base:Nat} {E:TypeId} {sz:Nat} {d:List Hd} (h:K2 w base E sz d) (g:Below w.heap.size w w'):K2 w' base E sz d:=
 ⟨h.toKOk,fun x f=>(h.own x f).bs g⟩
def QQ (mk:Int→Value) (k:Nat) (n:Int):List Value:=replicate k (mk n)
def RK (w:World) (base:Nat) (E:TypeId) (mk:Int→Value) (hs:List Hd):Prop:=∀h ∈ hs,AQ w base E 1 h.v h.k (QQ mk h.k h.n)
theorem RK.chg {w w' :World} {base:Nat} {E:TypeId} {mk:Int→Value} {d:List Hd} {S:Nat→Prop} (h:RK w base E mk d) (g:FW S w w') (i:∀b,Jt d b→¬S b):RK w' base E mk d:=
 fun x f=>(h x f).chg g fun b e=>i b ⟨x,f,e⟩
theorem RK.blk {w:World} {base:Nat} {E:TypeId} {mk:Int→Value} {d:List Hd} (h:RK w base E mk d) {b:Nat} (g:Jt d b):base≤b∧b<w.heap.size:=by
 obtain ⟨x,f,e⟩:=g
 exact (h x f).lt b e
structure PT (w:World) (mk:Int→Value) (h:Hd):Prop where
 l:Sl w 1 h.v h.k (QQ mk h.k h.n)
 g:Sl w 1 h.g (h.k+40) (QQ mk (h.k+40) h.n)
theorem PT.chg {w w' :World} {mk:Int→Value} {h:Hd} {S:Nat→Prop} (t:PT w mk h) (g:FW S w w') (d:∀b,h.v.ownBlock=some b→b<w.heap.size→¬S b) (f:∀b,h.g.ownBlock=some b→b<w.heap.size→¬S b):PT w' mk h:=⟨t.l.chg g d,t.g.chg g f⟩
structure Nb (w:World) (hs ts:List Hd):Prop where
 len:ts.length=hs.length
 all:∀j (h:j<hs.length) (h' :j<ts.length),ts[j].v=hs[j].v∧ts[j].k=hs[j].k∧ts[j].n=hs[j].n∧∀b,ts[j].g.ownBlock=some b→hs[j].v.ownBlock=some b∨w.heap.size≤b
theorem Nb.refl (w:World) {d:List Hd} (h:∀t ∈ d,t.g= .slice none 0 0):Nb w d d:=
 ⟨rfl,fun j f _=>⟨rfl,rfl,rfl,fun b e=>by rw [h _ (getElem_mem f)] at e;cases e⟩⟩
theorem Nb.set {w:World} {d ts:List Hd} {i:Nat} {g:Value} (h:Nb w d ts) (r:i<d.length) (k:i<ts.length) (q:∀b,g.ownBlock=some b→d[i].v.ownBlock=some b∨w.heap.size≤b):Nb w d (ts.set i {ts[i] with g:=g}):=by
 refine ⟨by rw [length_set];exact h.len,fun j l f=> ?_⟩
 rw [getElem_set]
 split
 ·rename_i e
  subst e
  obtain ⟨o,m,p,_⟩:=h.all i r k
  exact ⟨o,m,p,q⟩
 ·exact h.all j l (by simpa using f)
theorem PT.bs {w w' :World} {mk:Int→Value} {h:Hd} (t:PT w mk h) (g:Below w.heap.size w w'):PT w' mk h:=⟨t.l.bs g,t.g.bs g⟩
section
variable {P : Program} {n : Nat} {E : BT} {w : World} {ty t e : TypeId} {x y : Operand} {v u : Value} {sz base : Nat}
end
end Go.Dd

namespace Go.Dd
open Go Go.RowKit List
section
variable {P : Program} {n : Nat} {E : BT} {w : World} {e ty t : TypeId} {x y z : Operand} {u v : Value}
end
theorem AQ.ty {w:World} {base sz k g:Nat} {T:TypeId} {v:Value} {xs:List Value} (h:AQ w base T sz v k xs) (c:v.ownBlock=some g):∃cs,AP w g T cs:=by
 rcases h with h|⟨d,a,rfl,_,b,_⟩
 ·obtain ⟨_,a,_,b,_⟩:=GA h c
  exact ⟨a,b⟩
 ·obtain rfl:d=g:=by simpa [Value.ownBlock] using c
  exact ⟨a,b⟩
theorem QD {w:World} {base sz n m:Nat} {e:TypeId} {v:Value} {xs:List Value} (h:w.ownsRow base e sz v n xs) (i:m≤n):w.ownsRow base e sz (cut v sz 0 m) m (xs.take (m*sz)):=by
 obtain ⟨q,k⟩:=h
 have f:m*sz≤n*sz:=Nat.mul_le_mul_right _ i
 refine ⟨by rw [length_take];omega, ?_⟩
 rcases k with ⟨rfl,rfl⟩|⟨b,cap,a,rfl,o,p,d,c,g,l⟩
 ·obtain rfl:m=0:=by omega
  exact .inl ⟨rfl,rfl⟩
 ·refine .inr ⟨b,cap,a, ?_,o,p,Nat.le_trans i d,c,g, ?_⟩
  ·show Value.slice (if cap=0 then _ else Option.map _ _) (m - 0) (cap - 0)=_
   have j:(if cap=0 then some (⟨b,0,none⟩:Addr) else (some (⟨b,0,none⟩:Addr)).map (·.add (0*sz)))=some ⟨b,0,none⟩:=by
    split
    ·rfl
    ·simp [add_lit]
   rw [j];rfl
  ·rw [← l,take_take,Nat.min_eq_left f]
def RL (sz k:Nat) (cs:List (List Value)):Prop:=cs.length=k∧∀c ∈ cs,c.length=sz
theorem RL.len {sz k:Nat} {cs:List (List Value)} (h:RL sz k cs):cs.flatten.length=k*sz:=by
 obtain ⟨rfl,h⟩:=h
 induction cs with
 |nil=>simp
 |cons c cs ih=>
  rw [flatten_cons,length_append,ih fun x a=>h x (mem_cons_of_mem _ a),h c (by simp),length_cons,Nat.succ_mul];omega
theorem RL.take {sz k m:Nat} {cs:List (List Value)} (h:RL sz (k+m) cs):RL sz k (cs.take k):=⟨by rw [length_take,h.1];omega,fun c a=>h.2 c (mem_of_mem_take a)⟩
theorem RL.at {sz k:Nat}:∀{cs:List (List Value)},RL sz k cs→∀{j:Nat} (a:j<cs.length) {i:Nat},i<sz→cs.flatten[j*sz+i]? =cs[j][i]?
 |[],_,j,a,_,_=>by cases a
 |c::cs,h,0,_,i,hi=>by
  rw [flatten_cons,Nat.zero_mul,Nat.zero_add,getElem?_append_left (by rw [h.2 c (by simp)];exact hi)];rfl
 |c::cs,h,j+1,a,i,hi=>by
  have b:=h.2 c (by simp)
  have:RL sz cs.length cs:=⟨rfl,fun x d=>h.2 x (mem_cons_of_mem _ d)⟩
  rw [flatten_cons,getElem?_append_right (by rw [b,Nat.succ_mul];omega),b,show (j+1)*sz+i - sz=j*sz+i by rw [Nat.succ_mul];omega,this.at (by simpa using a) hi];rfl
theorem RL.cells {sz k:Nat} {cs:List (List Value)} (h:RL sz k cs) {j:Nat} (a:j<cs.length):∀i,i<sz→∃q,cs[j][i]? =some q∧cs.flatten[j*sz+i]? =some q:=fun i b=>by
 have c:=h.2 _ (getElem_mem a)
 exact ⟨cs[j][i]'(by omega),getElem?_eq_getElem _,by rw [h.at a b];exact getElem?_eq_getElem _⟩
structure HP (B:Nat) (I:TypeId) (Φ:Int→World→List Value→Prop):Prop where
 of:∀{n:Int} {w w' :World} {c:List Value} {S:Nat→Prop},Φ n w c→FW S w w' →(∀b,S b→b<B∨∃T cs,AP w b T cs∧T≠I)→Φ n w' c
theorem HP.chg {B:Nat} {I:TypeId} {Φ:Int→World→List Value→Prop} (h:HP B I Φ) {n:Int} {w w' :World} {c:List Value} {S:Nat→Prop} (d:Φ n w c) (g:FW S w w') (a:∀b,S b→b<B):Φ n w' c:=h.of d g fun b e=> .inl (a b e)
theorem HP.bs {B:Nat} {I:TypeId} {Φ:Int→World→List Value→Prop} (h:HP B I Φ) {n:Int} {w w' :World} {c:List Value} (a:Φ n w c) (g:Below w.heap.size w w'):Φ n w' c:=h.of a (S:=fun _=>False) (FW.of_below g) (fun _ h=>h.elim)
structure Oc (Φ:Int→World→List Value→Prop) (sz:Nat) (n:Int) (w:World) (k:Nat) (cs:List (List Value)):Prop where
 els:RL sz k cs
 each:∀c ∈ cs,Φ n w c
theorem Oc.chg {Φ:Int→World→List Value→Prop} {B sz k:Nat} {I:TypeId} {n:Int} {w w' :World} {S:Nat→Prop} {cs:List (List Value)} (h:Oc Φ sz n w k cs) (st:HP B I Φ) (g:FW S w w') (a:∀b,S b→b<B):Oc Φ sz n w' k cs:=⟨h.els,fun c d=>st.chg (h.each c d) g a⟩
theorem Oc.bs {Φ:Int→World→List Value→Prop} {B sz k:Nat} {I:TypeId} {n:Int} {w w' :World} {cs:List (List Value)} (h:Oc Φ sz n w k cs) (st:HP B I Φ) (g:Below w.heap.size w w'):Oc Φ sz n w' k cs:=⟨h.els,fun c a=>st.bs (h.each c a) g⟩
theorem Oc.by {Φ:Int→World→List Value→Prop} {B sz k:Nat} {I:TypeId} {n:Int} {w w' :World} {g:Option Nat} {cs:List (List Value)} (h:Oc Φ sz n w k cs) (st:HP B I Φ) (d:w.grownBy w' g) (a:∀b,g=some b→b<B∨∃T cs,AP w b T cs∧T≠I):Oc Φ sz n w' k cs:=
 ⟨h.els,fun c f=>st.of (h.each c f) (S:=fun b=>g=some b) ((FW.refl _ _).grown d fun b e=> .inl e) a⟩
theorem Oc.take {Φ:Int→World→List Value→Prop} {sz k m:Nat} {n:Int} {w:World} {cs:List (List Value)} (h:Oc Φ sz n w (k+m) cs):Oc Φ sz n w k (cs.take k):=⟨h.els.take,fun c a=>h.each c (mem_of_mem_take a)⟩
def Nf (w:World) (base:Nat) (E:TypeId) (sz:Nat) (Φ:Int→World→List Value→Prop) (hs:List Hd):Prop:=∀h ∈ hs,∃cs,Oc Φ sz h.n w h.k cs∧AQ w base E sz h.v h.k cs.flatten
theorem Nf.chg {w w' :World} {base sz B:Nat} {E I:TypeId} {Φ:Int→World→List Value→Prop} {a:List Hd} {S:Nat→Prop} (h:Nf w base E sz Φ a) (st:HP B I Φ) (g:FW S w w') (j:∀b,S b→b<B) (f:∀b,Jt a b→¬S b):Nf w' base E sz Φ a:=fun x c=>by
 obtain ⟨cs,i,d⟩:=h x c
 exact ⟨cs,i.chg st g j,d.chg g fun b e=>f b ⟨x,c,e⟩⟩
theorem Nf.blk {w:World} {base sz:Nat} {E:TypeId} {Φ:Int→World→List Value→Prop} {a:List Hd} (h:Nf w base E sz Φ a) {b:Nat} (d:Jt a b):base≤b∧b<w.heap.size:=by
 obtain ⟨x,f,e⟩:=d
 obtain ⟨_,_,c⟩:=h x f
 exact c.lt b e
structure Ln (w:World) (sz:Nat) (Φ:Int→World→List Value→Prop) (h:Hd):Prop where
 l:∃cs,Oc Φ sz h.n w h.k cs∧Sl w sz h.v h.k cs.flatten
 g:∃cs,Oc Φ sz h.n w (h.k+40) cs∧Sl w sz h.g (h.k+40) cs.flatten
theorem Ln.chg {w w' :World} {sz B:Nat} {I:TypeId} {Φ:Int→World→List Value→Prop} {h:Hd} {S:Nat→Prop} (t:Ln w sz Φ h) (st:HP B I Φ) (g:FW S w w') (a:∀b,S b→b<B) (i:∀b,h.v.ownBlock=some b→b<w.heap.size→¬S b) (d:∀b,h.g.ownBlock=some b→b<w.heap.size→¬S b):Ln w' sz Φ h:=by
 obtain ⟨⟨cs,f,k⟩,⟨ds,j,c⟩⟩:=t
 exact ⟨⟨cs,f.chg st g a,k.chg g i⟩,⟨ds,j.chg st g a,c.chg g d⟩⟩
theorem Ln.bs {w w' :World} {sz B:Nat} {I:TypeId} {Φ:Int→World→List Value→Prop} {h:Hd} (t:Ln w sz Φ h) (st:HP B I Φ) (g:Below w.heap.size w w'):Ln w' sz Φ h:=by
 obtain ⟨⟨cs,b,d⟩,⟨ds,c,a⟩⟩:=t
 exact ⟨⟨cs,b.bs st g,d.bs g⟩,⟨ds,c.bs st g,a.bs g⟩⟩
theorem AX {w:World} {b:Nat} {T U:TypeId} {cs ds:List Value} (h:AP w b T cs) (k:AP w b U ds):T=U:=by
 unfold AP at h k
 rw [h] at k
 cases k;rfl
end Go.Dd

namespace Go.Proofs.YtblbopcaflaldaaGreatDoor
open Go Go.Dd Go.RowKit List Go.Proofs.Tryz
set_option maxRecDepth 100000
structure Ni (w w' :World) (v y:Value):Prop where
 g:w.grownBy w' v.ownBlock
 c:y.ownBlock=v.ownBlock∨∀b,y.ownBlock=some b→w.heap.size≤b
theorem Fj (w:World) (v:Value):Ni w w v v:=⟨BC (Below.refl _ _) _, .inl rfl⟩
theorem Ni.bs {w a b:World} {v y:Value} (h:Ni w a v y) (g:Below a.heap.size a b):Ni w b v y:=⟨AS h.g (BC g _),h.c⟩
theorem Ni.app {w d j:World} {v y i:Value} (h:Ni w d v y) (g:d.grownBy j y.ownBlock) (c:i.ownBlock=y.ownBlock∨∀b,i.ownBlock=some b→d.heap.size≤b):Ni w j v i:=by
 have z:=h.g.size
 refine ⟨⟨g.os.trans h.g.os,g.tape.trans h.g.tape,g.output.trans h.g.output,Nat.le_trans z g.size,fun b k a=> ?_⟩, ?_⟩
 ·refine (g.block b (Nat.lt_of_lt_of_le k z) fun e=> ?_).trans (h.g.block b k a)
  rcases h.c with f|f
  ·exact a (by rw [e,f])
  ·have:=f b e.symm;omega
 ·rcases c with c|c
  ·rw [c];exact h.c
  ·exact .inr fun b e=>Nat.le_trans z (c b e)
theorem EV (v u:Value) (b:List (BitVec 8)) (l:List Int) (W w:World) (H:Below W.heap.size W w) (h:w.ownsRow W.heap.size 5 1 v b.length (b.map b8)) (D:BE (Value.int .i64) W u l) (V:b.length+l.length+1≤16777216):
  AN prog 42 [v,u] w (fun r w' =>Below W.heap.size W w' ∧w'.ownsRow W.heap.size 5 1 r (b++BA l).length ((b++BA l).map b8)∧Ni w w' v r):=by
 have a:=Fj w v
 have L:=D.bs H
 refine A4 (n:=26) func42 O<|Ai<|Ab O<|A3<|Ad O<|Ad O<|Aa (Aq AH O ‹_›) O ?_
 refine Aa (Eg Mf HC O) O<|An (B7 (vs:=[BitVec.ofInt 8 (l.length:Int)].map b8) AO DD O O O O O) O ?_
 rintro q T ⟨d, -,A, -⟩
 have h:=AF h A
 have s:=bt H A
 have a:=a.bs A
 refine An (Bv (base:=W.heap.size) AO DD O (by decide) O O h (AG d) (BI (fun _=>rfl) _) (by omega) (by omega) s.size) O ?_
 rintro J Y ⟨k,f,B,F⟩
 have a:=a.app B (F.imp id fun e b o=>by rw [e] at o;cases o;omega)
 have x:=s.trans f
 have C:=D.bs x
 have I:b.map b8++[BitVec.ofInt 8 (l.length:Int)].map b8=(b++EP l 0).map b8:=by rw [← map_append];rfl
 have N:b.length+1=(b++EP l 0).length:=by rw [length_append];rfl
 rw [I,N] at k
 clear h d L A
 refine Ab O<|A8<|Ad O<|Aa (Aq AH O ‹_›) O ?_
 refine Ad O<|Ak<|Ar ?_
 refine Bu (S:=(Nat×Value)) (fun z=>[(0,z.2),(13,u),(14, .int .i64 (l.length:Int)),(15, .int .i64 (z.1:Int))]) (fun z w' =>z.1≤l.length∧Below W.heap.size W w' ∧w'.ownsRow W.heap.size 5 1 z.2 (b++EP l z.1).length ((b++EP l z.1).map b8)∧Ni w w' v z.2) (fun z=>l.length - z.1) ((0,J)) ⟨rfl,rfl,rfl,rfl,trivial⟩ ?_ ?_
 ·exact ⟨Nat.zero_le _,x,k,a⟩
 clear k C a
 rintro ⟨i,y⟩ U ⟨G,j,p,a⟩
 dsimp only at G j p a ⊢
 have M:=D.bs j
 refine Ai<|B8 O<|Ak<|Ap<|Am O ?_ ?_
 ·intro g
  have c:i<l.length:=by have:=AE g;omega
  have o:(b++EP l i).length+1=(b++EP l (i+1)).length:=by rw [length_append,length_append,IT G,IT c];rfl
  have X:(b++EP l (i+1)).length=b.length+(i+2):=by rw [length_append,IT c]
  have Q:(b++EP l i)++[BitVec.ofInt 8 (l.getD i default)]=b++EP l (i+1):=by rw [NL c,append_assoc]
  refine B1<|Ap<|Ar<|Ai<|Aa (Bb AH O O ‹_› _ O (by omega)) O ?_
  refine Aa (Bf (BD _) O ‹_› (by omega)) O ?_
  refine Ab O<|Ak<|A5<|Ad O<|Ad O<|Aa (Eg Mf HC O) O<|An (B7 (vs:=[BitVec.ofInt 8 (l.getD i default)].map b8) AO DD O O O O O) O ?_
  rintro q R ⟨d, -,m, -⟩
  have p:=AF p m
  have f:=bt j m
  have a:=a.bs m
  refine An (Bv (base:=W.heap.size) AO DD O (by decide) O O p (AG d) (BI (fun _=>rfl) _) (by omega) (by omega) f.size) O ?_
  rintro K Z ⟨t,E,B,F⟩
  have a:=a.app B (F.imp id fun e b o=>by rw [e] at o;cases o;omega)
  rw [← map_append,Q,o] at t
  refine Ab O<|A7<|Ba<|Cr<|Ca O (by omega)<|Ad O<|A7 ?_
  exact Ay (Br ((i+1,K)) ⟨rfl,rfl,rfl,rfl,trivial⟩ (⟨c,f.trans E,t,a⟩) (by simp only;omega))
 intro g
 have c:i=l.length:=by have:=AD g;omega
 subst c
 rw [PA] at p
 exact Bq<|Au<|Au<|Bc<|Cf<|Ad rfl<|Ab rfl<|As<|Al rfl rfl<|⟨j,p,a⟩
def DB (ls:List N5) (ws:List T4):Bool:=(EK ls).isSome && (decide ((F2 ls).length=ws.length) && Lq (ws.map pv) (F2 ls))
theorem GN.ad {w:World} {v:Value} {ls:List N5} (h:GN w v ls) {i:Nat} (d:i<ls.length):∃ad c k,v= .slice (some ad) c k:=by
 obtain ⟨_,a,cap,rfl,_,_,b,_⟩:=h.sl
 cases a with
 |none=>have:=b rfl;omega
 |some ad=>exact ⟨_,_,_,rfl⟩
theorem GN.cell {w:World} {v:Value} {ls:List N5} (h:GN w v ls) {i:Nat} (a:i<ls.length):(GI N5.cells ls)[i*5+0]? =some (b8 ls[i].k)∧(GI N5.cells ls)[i*5+2]? =some ls[i].y:=by
 obtain ⟨q,e,c⟩:=h.cells a 0 (by decide)
 obtain ⟨r,g,d⟩:=h.cells a 2 (by decide)
 have b:b8 ls[i].k=q:=Option.some.inj e
 have f:ls[i].y=r:=Option.some.inj g
 exact ⟨by rw [b];exact c,by rw [f];exact d⟩
theorem TN (v u:Value) (A i:Nat) (ls:List N5) (t:T4) (W:World) (f:AP W A 27 [v,u]) (h:GN W v ls) (j:i<ls.length) (e:t.at W):
  AN prog 142 [.int .i64 (i:Int),t.v, .pointer (some ⟨A,0,none⟩)] W (fun r w' =>r= .bool (Js (pv t) ls[i].s)∧Below W.heap.size W w'):=by
 have k:=Below.refl W.heap.size W
 have o:=h.ad j
 have m:=(h.cell j).2
 have l:=(h.each _ (getElem_mem j)).s
 refine A4 (n:=20) func142 O<|Ai<|Cl (cs:=[t.x,t.y]) O O O ?_
 rintro y w p s d -
 have k:=k.bs d
 have h:=h.bs d
 have e:=e.bs d
 have f:=f.bs d
 have l:=l.bs d
 refine Ab O<|Ak<|Ap ?_
 rename World=>b
 refine Cw.any mixed (fun z c _=> ?_)
 refine C5 (fun w' =>Below b.heap.size b w') (fun C=> ?_) (c)
 refine Bz (Av Bh)<|Af 0 O (fun b a=>Ce (IB _) (Ig _) O O (AP.bs ‹_› a)) O<|Bj ?_
 refine AK.only ‹_› (i:=1) (by kernel_rfl) O ?_
 refine Ah O O (Qn t.x t.y t.s t.l z (e.bs c).1 (e.bs c).2) ?_
 rintro _ x ⟨rfl,d⟩
 have c:=bt c d
 refine AK.back<|Bz (Av Bh)<|Af 2 O (fun b a=>Bl O) O<|Bj ?_
 refine G3 8 O ?_ ?_
 ·intro g
  refine Cd (i:=3) (dj:=8) (Av Bh) O O O (by kernel_rfl) (by kernel_rfl) (by kernel_rfl) (fun b a=>Ch underlying75 O (BL _)) O<|Cd (i:=4) (dj:=8) (Av Bh) O O O (by kernel_rfl) (by kernel_rfl) (by kernel_rfl) (fun b a=>Ao (AY _) O (AP.bs ‹_› a) O) O<|Cd (i:=5) (dj:=8) (Av Bh) O O O (by kernel_rfl) (by kernel_rfl) (by kernel_rfl) (fun b a=>Ch underlying27 O (BP _)) O<|Cd (i:=6) (dj:=8) (Av Bh) O O O (by kernel_rfl) (by kernel_rfl) (by kernel_rfl) (fun b a=>Ch underlying24 O (CB _)) O<|Cd (i:=7) (dj:=8) (Av Bh) O O O (by kernel_rfl) (by kernel_rfl) (by kernel_rfl) (fun b a=>Ao (DQ _) O (AP.bs ‹_› a) O) O<|Cd (i:=8) (dj:=8) (Av Bh) O O O (by kernel_rfl) (by kernel_rfl) (by kernel_rfl) (fun b a=>Bl O) O<|Cd (i:=9) (dj:=8) (Av Bh) O O O (by kernel_rfl) (by kernel_rfl) (by kernel_rfl) (fun b a=>C6 BM O O (h.sl.bs a) i O j) O<|Cd (i:=10) (dj:=8) (Av Bh) O O O (by kernel_rfl) (by kernel_rfl) (by kernel_rfl) (fun b a=>Df (q:=0) underlying79 O (BL _) O o) O<|Cd (i:=11) (dj:=8) (Av Bh) O O O (by kernel_rfl) (by kernel_rfl) (by kernel_rfl) (fun b a=>F3 (AY _) O (h.sl.bs a) m) O<|AK.only ‹_› (i:=12) (by kernel_rfl) O ?_
  refine Aj (dj:=8) O O<|Ah O O (Hw t.x ls[i].y t.s ls[i].s x (e.bs c).1 (l.bs c)) ?_
  rintro _ B ⟨rfl,d⟩
  have c:=bt c d
  refine AK.back<|Bz (Av Bh)<|Af 13 O (fun b a=>Dc O O) O<|Af 14 O (fun b a=>Bx O) O<|Bj<|AK.done ‹_› (by kernel_rfl) ?_
  refine Ay<|B9<|Dq<|Al O O ?_
  exact ⟨cngA Value.bool (show decide (t.s=ls[i].s)=(K4 t.s t.l && decide (t.s=ls[i].s)) by rw [g];rfl),bt k c⟩
 intro g
 refine Cu (i:=3) (dj:=8) (Av Bh) O O O O (by kernel_rfl) (by kernel_rfl) (by kernel_rfl) O<|Cu (i:=4) (dj:=8) (Av Bh) O O O O (by kernel_rfl) (by kernel_rfl) (by kernel_rfl) O<|Cu (i:=5) (dj:=8) (Av Bh) O O O O (by kernel_rfl) (by kernel_rfl) (by kernel_rfl) O<|Cu (i:=6) (dj:=8) (Av Bh) O O O O (by kernel_rfl) (by kernel_rfl) (by kernel_rfl) O<|Cu (i:=7) (dj:=8) (Av Bh) O O O O (by kernel_rfl) (by kernel_rfl) (by kernel_rfl) O<|Cu (i:=8) (dj:=8) (Av Bh) O O O O (by kernel_rfl) (by kernel_rfl) (by kernel_rfl) O<|Cu (i:=9) (dj:=8) (Av Bh) O O O O (by kernel_rfl) (by kernel_rfl) (by kernel_rfl) O<|Cu (i:=10) (dj:=8) (Av Bh) O O O O (by kernel_rfl) (by kernel_rfl) (by kernel_rfl) O<|Cu (i:=11) (dj:=8) (Av Bh) O O O O (by kernel_rfl) (by kernel_rfl) (by kernel_rfl) O<|Cu (i:=12) (dj:=8) (Av Bh) O O O O (by kernel_rfl) (by kernel_rfl) (by kernel_rfl) O<|Bz (Av Bh)<|Af 13 O (fun b a=>Dw O O) O<|Af 14 O (fun b a=>Bx O) O<|Bj<|AK.done ‹_› (by kernel_rfl) ?_
 refine Ay<|B9<|Dq<|Al O O ?_
 exact ⟨cngA Value.bool (show false=(K4 t.s t.l && decide (t.s=ls[i].s)) by rw [g];rfl),bt k c⟩
theorem UW (q u:Value) (b:List Int) (ws:List T4) (f:FuncId) (cap:List Value) (P:Nat→Bool) (w:World) (D:BE (Value.int .i64) w q b) (z:DR w u ws)
  (L:∀i w',i<b.length→∀(h:i<ws.length),Below w.heap.size w w' →AN prog f ([]++[.int .i64 (b.getD i default),ws[i].v]++cap) w' (fun r A=>r= .bool (P i)∧Below w'.heap.size w' A)):
  AN prog 141 [q,u, .func (.func f) #[] cap.toArray] w (fun r w' =>r= .bool (decide (b.length=ws.length) && (List.range b.length).all P)∧Below w.heap.size w w'):=by
 have G:=D.le
 have H:=z.1
 refine A4 (n:=32) func141 O<|Ai<|Ab O<|A8<|Ad O<|Aa (Aq AH O ‹_›) O ?_
 refine Ad O<|Aa (Aq BY O ‹_›) O ?_
 refine Aa (C0 O O) O<|Ak<|Am O ?_ ?_
 ·intro g
  have g:¬b.length=ws.length:=fun e=>by rw [e] at g;simp at g
  refine Ai<|Ab O<|Bw<|Al O O ?_
  exact ⟨by rw [decide_eq_false g];rfl,Below.refl _ _⟩
 intro g
 have g:b.length=ws.length:=by simp at g;omega
 rw [decide_eq_true g,Bool.true_and]
 refine B1<|Ap<|Ai<|Ad O<|Aa (Aq AH O ‹_›) O ?_
 refine Ad O<|Ak<|Ar ?_
 refine Bu (S:=Nat) (fun i=>[(1,u),(2, .func (.func f) #[] cap.toArray),(15,q),(16, .int .i64 (b.length:Int)),(17, .int .i64 (i:Int))]) (fun i w' =>i≤b.length∧(∀j,j<i→P j=true)∧Below w.heap.size w w') (fun i=>b.length - i) (0) ⟨rfl,rfl,rfl,rfl,rfl,trivial⟩ ?_ ?_
 ·exact ⟨Nat.zero_le _,fun _ h=>by omega,Below.refl _ _⟩
 rintro i U ⟨W,hall,o⟩
 have F:=D.bs o
 have k:=(z.bs o).1
 refine Ai<|B8 O<|Ak<|Ap<|Am O ?_ ?_
 ·intro C
  have c:i<b.length:=by have:=AE C;omega
  have y:i<ws.length:=by omega
  obtain ⟨a,R,t,J,K⟩:=On y
  have v:=(z.bs o).2 a t
  refine B1<|Ap<|Ar<|Ai<|Ad O<|Aa (Bb AH O O ‹_› _ O (by omega)) O ?_
  refine Aa (Bf (BD _) O ‹_› (by omega)) O ?_
  refine Ab O<|Ab O<|A3<|Ad O<|Ad O<|Aa (C6 BY O O k i O y) O<|Aa (Dx (cs:=[a.x,a.y]) (IB _) (Ig _) O k O (by decide) (H6 J K)) O<|C2 (cs:=[a.x,a.y]) GF O O O O (fun _=>rfl) (v.one) ?_
  rintro M T E N Q I
  have l:=bt o Q
  have m:=L i T c y l
  rw [← R] at m
  refine A3<|Ad O<|Ad O<|Aa (Ce (IB _) (Ig _) O O ‹_›) O ?_
  refine Ee (p:=[]) (q:=cap) O O O (m) ?_
  rintro _ V ⟨rfl,x⟩
  have s:=bt l x
  refine Aa (Cz O) O<|Ak<|Am O ?_ ?_
  ·intro d
   have d:P i=false:=by simpa using d
   refine Ai<|Ab O<|As<|Bd<|A0<|A0<|Bd<|A0<|Al O O ?_
   refine ⟨?_,s⟩
   congr 1
   exact (List.all_eq_false.2 ⟨i,List.mem_range.2 c,by rw [d];decide⟩).symm
  intro d
  have d:P i=true:=by simpa using d
  refine Cj<|Ba<|Cr<|Ca O (by omega)<|Ad O<|A7 ?_
  exact Ay (Br (i+1) ⟨rfl,rfl,rfl,rfl,rfl,trivial⟩ (⟨c,fun j B=>(Nat.lt_succ_iff_lt_or_eq.1 B).elim (hall j) (fun e=>by rw [e];exact d),s⟩) (by omega))
 intro C
 have c:i=b.length:=by have:=AD C;omega
 refine Bq<|Au<|Au<|Bc<|Cf<|Ab O<|As<|Al O O ?_
 refine ⟨?_,o⟩
 congr 1
 exact (List.all_eq_true.2 fun j B=>hall j (by rw [c];exact List.mem_range.1 B)).symm
theorem SX (v u:Value) (ls:List N5) (ws:List T4) (W:World) (h:GN W v ls) (d:DR W u ws):
  AN prog 41 [.agg [v,u].toArray] W (fun r w' =>r= .bool (DB ls ws)∧Below W.heap.size W w'):=by
 have f:=Below.refl W.heap.size W
 refine A4 (n:=16) func41 O<|Ai<|Cl (cs:=[v,u]) O O O ?_
 rintro m w y b a -
 have f:=f.bs a
 have h:=h.bs a
 have d:=d.bs a
 refine Ab O<|A8<|A9 underlying27 O (BP _)<|Aa (Dy (ds:=[v]) (ER _) (BP _) O O ‹_› rfl) O ?_
 refine Ah O O (Kn v ls w h) ?_
 rintro _ w ⟨a,rfl⟩
 have f:=f.bs a
 have h:=h.bs a
 have d:=d.bs a
 have b:=b.bs a
 refine Aa (Cz O) O<|Ak<|Am O ?_ ?_
 ·intro g
  have g:(EK ls).isSome=false:=by simpa using g
  refine Ai<|Ab O<|Bw<|Al O O ?_
  exact ⟨by unfold DB;rw [g];rfl,f⟩
 intro g
 obtain ⟨p,o⟩:∃p,EK ls=some p:=by
  cases e:EK ls with
  |none=>rw [e] at g;cases g
  |some p=>exact ⟨p,rfl⟩
 have x:=LF o
 refine Ci<|A9 underlying27 O (BP _)<|Aa (Dy (ds:=[v]) (ER _) (BP _) O O ‹_› rfl) O ?_
 refine Ah O O (NN v ls w h (by omega)) ?_
 rintro q w ⟨a,t⟩
 have f:=f.bs a
 have h:=h.bs a
 have d:=d.bs a
 have b:=b.bs a
 have D:∀j w',j<(DM ls).length→∀(k:j<ws.length),Below w.heap.size w w' →AN prog 142 ([]++[.int .i64 ((DM ls).getD j default),ws[j].v]++[.pointer (some ⟨m,0,none⟩)]) w' (fun r w'' =>r= .bool (Js ((ws.map pv).getD j ([],[])) ((F2 ls).getD j default).s)∧Below w'.heap.size w' w''):=by
  intro j w' G k a
  obtain ⟨i,c,B,z,E⟩:=PY G
  have:=TN v u m i ls ws[j] w' (b.bs a) (h.bs a) c ((d.bs a).2 _ (getElem_mem k))
  have F:(ws.map pv).getD j ([],[])=pv ws[j]:=by rw [getD_eq_getElem?_getD,getElem?_map,getElem?_eq_getElem k];rfl
  have C:((F2 ls).getD j default).s=ls[i].s:=by
   rw [getD_eq_getElem?_getD,getElem?_eq_getElem z,Option.getD_some,E,getD_eq_getElem?_getD,getElem?_eq_getElem c];rfl
  rw [B,F,C]
  exact this
 refine Ab O<|A3<|Ad O<|A9 underlying27 O (CZ _)<|Aa (Ao (FH _) O ‹_› rfl) O ?_
 refine Aa (Ew (vs:=[]) O O) O<|Ah O O (UW q u (DM ls) ws 142 [.pointer (some ⟨m,0,none⟩)] (fun j=>Js ((ws.map pv).getD j ([],[])) ((F2 ls).getD j default).s) w t d D) ?_
 rintro _ w ⟨rfl,a⟩
 refine Ab O<|As<|Al O O ?_
 refine ⟨?_,bt f a⟩
 have A:(DM ls).length=(F2 ls).length:=by rw [← Lr,length_map]
 unfold DB
 rw [o,A]
 congr 1
 show _=(true && _)
 rw [Bool.true_and]
 by_cases hl:(F2 ls).length=ws.length
 ·rw [decide_eq_true hl,Bool.true_and,Bool.true_and,Bool.eq_iff_iff,FX (by rw [length_map,hl]),all_eq_true]
  constructor
  ·intro s i c
   have:=s i (List.mem_range.2 c)
   rwa [getD_eq_getElem?_getD (l:=F2 ls),getElem?_eq_getElem c] at this
  ·intro s i c
   have c:=List.mem_range.1 c
   have:=s i c
   rw [getD_eq_getElem?_getD (l:=F2 ls),getElem?_eq_getElem c]
   exact this
 ·rw [decide_eq_false hl];rfl

-- dd: text
theorem H2 (v u:Value) (c:List (List UInt8)) (ns:List Int) (W w:World) (X:Jv W) (K:Below W.heap.size W w) (h:w.ownsRow W.heap.size 9 1 v c.length (c.map st)) (N:∀w',Below W.heap.size W w' →w.grownBy w' v.ownBlock→BE (Value.int .i64) w' u ns) (Y:∀n ∈ ns, -9223372036854775808≤n∧n≤9223372036854775807) (hl:c.length+ns.length≤1000000):
  AN prog 119 [v,u] w (fun r w' =>Below W.heap.size W w' ∧w'.ownsRow W.heap.size 9 1 r (c++ns.map Lib.itoa).length ((c++ns.map Lib.itoa).map st)∧Ni w w' v r):=by
 have V:=N w K (Fj w v).g
 refine A4 (n:=20) func119 O<|Ai<|Ab O<|A8<|Ad O<|Aa (Aq AH O ‹_›) O ?_
 refine Ad O<|Ak<|Ar ?_
 refine Bu (S:=(Nat×Value)) (fun z=>[(0,z.2),(7,u),(8, .int .i64 (ns.length:Int)),(9, .int .i64 (z.1:Int))]) (fun z w' =>z.1≤ns.length∧Below W.heap.size W w' ∧w'.ownsRow W.heap.size 9 1 z.2 (c++(ns.take z.1).map Lib.itoa).length ((c++(ns.take z.1).map Lib.itoa).map st)∧Ni w w' v z.2) (fun z=>ns.length - z.1) ((0,v)) ⟨rfl,rfl,rfl,rfl,trivial⟩ ?_ ?_
 ·exact ⟨Nat.zero_le _,K,by simpa using h,Fj w v⟩
 rintro ⟨i,y⟩ p ⟨U,k,l,m⟩
 dsimp only at U l m ⊢
 have R:=N p k m.g
 have J:Jv p:=X.bs k
 have zB:=k.size
 refine Ai<|B8 O<|Ak<|Ap<|Am O ?_ ?_
 ·intro g
  have a:i<ns.length:=by have:=AE g;omega
  have G:=Y (ns.getD i default) (by rw [getD_eq_getElem?_getD,getElem?_eq_getElem a];exact getElem_mem a)
  obtain ⟨x,s⟩:∃x,x=ns.getD i default:=⟨_,rfl⟩
  rw [← s] at G
  have M:(ns.take (i+1)).map Lib.itoa=(ns.take i).map Lib.itoa++[Lib.itoa x]:=by
   rw [take_succ_eq_append_getElem a,map_append,s,getD_eq_getElem?_getD,getElem?_eq_getElem a];rfl
  refine B1<|Ap<|Ar<|Ai<|Aa (Bb AH O O ‹_› _ O (by omega)) O ?_
  refine Aa (Bf (BD _) O ‹_› (by omega)) O ?_
  refine Ab O<|Ak<|A5<|Ad O<|Ad O ?_
  rw [← s]
  refine Ah O O (TT x p J G.1 G.2) ?_
  rintro _ w2 ⟨rfl,f⟩
  have z2:=f.size
  have H:=AF l f
  have I:=m.bs f
  refine An (B7 (vs:=[Lib.itoa x].map st) CA KC O O O O O) O ?_
  rintro q w3 ⟨E, -,d, -⟩
  have z3:=d.size
  have t:=AF H d
  have B:=I.bs d
  refine An (Bv (base:=W.heap.size) CA KC O (by decide) O O t (AG E) (JH _) (by simp;omega) (by simp;omega) (by omega)) O ?_
  rintro L w4 ⟨j,o,A,F⟩
  have D:=B.app A (F.imp id fun e b (T:L.ownBlock=some b)=>Nat.le_of_eq (Option.some.inj (e.symm.trans T)))
  have C:=((k.trans (f.mono (by omega))).trans (d.mono (by omega))).trans o
  have Q:(c++(ns.take i).map Lib.itoa).map st++[Lib.itoa x].map st=(c++(ns.take (i+1)).map Lib.itoa).map st:=by rw [M,← map_append,append_assoc]
  have Z:(c++(ns.take i).map Lib.itoa).length+1=(c++(ns.take (i+1)).map Lib.itoa).length:=by rw [M,← append_assoc,length_append (bs:=[_])];rfl
  rw [Q,Z] at j
  refine Ab O<|A7<|Ba<|Cr<|Ca O (by omega)<|Ad O<|A7 ?_
  exact Ay (Br ((i+1,L)) ⟨rfl,rfl,rfl,rfl,trivial⟩ (⟨a,C,j,D⟩) (by simp only;omega))
 intro g
 have a:i=ns.length:=by have:=AD g;omega
 subst a
 rw [take_length] at l
 exact Bq<|Au<|Au<|Bc<|Cf<|Ad rfl<|Ab rfl<|As<|Al rfl rfl<|⟨k,l,m⟩
def Rw.shaped (r:Rw):Bool:=decide (r.least=0)||decide (r.nxt=[116,111])
theorem Mm (r:Rw) (w:World):AN prog 120 [.agg r.cells.toArray] w (fun v w' =>v= .bool r.shaped∧Below w.heap.size w w'):=by
 have a:=Below.refl w.heap.size w
 refine A4 (n:=11) func120 O<|Ai<|Cl (cs:=r.cells) O O O ?_
 rintro d w b c f -
 have a:=a.bs f
 refine Ab O<|A3<|A9 underlying125 O (BZ _)<|Aa (Ao (BD _) O ‹_› rfl) O ?_
 refine Aa (Cn O O) O<|Ad O ?_
 refine Cc 6 O ?_ ?_
 ·intro g
  have g:r.least=0:=by have:=AE g;omega
  refine Ae (dj:=6) O O O O<|Ae (dj:=6) O O O O<|Ae (dj:=6) O O O O<|Bt O<|Ab O<|As<|Al O O ?_
  exact ⟨by unfold Rw.shaped;rw [decide_eq_true g];rfl,a⟩
 intro g
 have g:¬r.least=0:=fun e=>by have:=AD g;omega
 refine Aj (dj:=6) O O<|A9 underlying125 O (Ie _)<|Aj (dj:=6) O O<|Aa (Ao (GV _) O ‹_› rfl) O ?_
 refine Aj (dj:=6) O O<|Aa (E2 O O) O<|Co O<|Ab O<|As<|Al O O ?_
 exact ⟨by unfold Rw.shaped;rw [decide_eq_false g];rfl,a⟩
end Go.Proofs.YtblbopcaflaldaaGreatDoor

namespace Go.Proofs.YtblbopcaflaldaaGreatDoor
open Go Go.Dd Go.RowKit List
set_option maxRecDepth 100000



def cn (i:Int):List Int→Nat
 |[]=>0
 |x::l=>(if x=i then 1 else 0)+cn i l
def fl (m:Int):List Int→Nat
 |[]=>0
 |x::l=>(if 0≤x∧x<m then 1 else 0)+fl m l
theorem Lj (i:Int):∀a b:List Int,cn i (a++b)=cn i a+cn i b
 |[],b=>by simp [cn]
 |x::a,b=>by simp only [cons_append,cn];rw [Lj i a b];omega
theorem NU {i:Int}:∀{l:List Int},i ∈ l→1≤cn i l
 |x::l,h=>by
  simp only [cn]
  rcases List.mem_cons.1 h with rfl|h
  ·rw [if_pos rfl];omega
  ·have:=NU h;omega
theorem J2 (m:Nat):∀l:List Int,fl ((m+1:Nat):Int) l=fl (m:Int) l+cn (m:Int) l
 |[]=>rfl
 |x::l=>by
  simp only [fl,cn]
  rw [J2 m l]
  split<;>split<;>split<;>omega
theorem OF:∀l:List Int,fl 0 l=0
 |[]=>rfl
 |x::l=>by
  simp only [fl]
  rw [OF l,if_neg (by omega)]
theorem Ru (m:Int):∀l:List Int,fl m l≤l.length
 |[]=>AU _
 |x::l=>by
  have:=Ru m l
  simp only [fl,length_cons]
  split<;>omega
theorem Rv {m:Int}:∀{l:List Int},fl m l=l.length→∀x ∈ l,0≤x∧x<m
 |[],_,x,a=>by simp at a
 |y::l,h,x,a=>by
  have:=Ru m l
  simp only [fl,length_cons] at h
  by_cases g:0≤y∧y<m
  ·rw [if_pos g] at h
   rcases List.mem_cons.1 a with rfl|a
   ·exact g
   ·exact Rv (by omega) x a
  ·rw [if_neg g] at h;omega
theorem Um {l:List Int} (h:∀i:Nat,i<l.length→cn (i:Int) l=1):HK l=true:=by
 have e:∀m:Nat,m≤l.length→fl (m:Int) l=m:=fun m=>by
  induction m with
  |zero=>intro _;exact OF l
  |succ m ih=>intro d;rw [J2,ih (by omega),h m (by omega)]
 have a:=Rv (e l.length (AU _))
 refine IN.2 fun j b=> ?_
 have d:l.getD j default ∈ l:=by simp [b]
 have c:=a _ d
 unfold QF
 rw [decide_eq_true c.1,decide_eq_true c.2]
 cases hc:(l.take j).contains (l.getD j default) with
 |false=>rfl
 |true=>
  have f:l.getD j default ∈ l.take j:=by simpa using hc
  have o:=NU f
  have k:cn (l.getD j default) (l.drop j)=1+cn (l.getD j default) (l.drop (j+1)):=by
   rw [drop_eq_getElem_cons b]
   simp [cn,b]
  have n:cn (l.getD j default) l=cn (l.getD j default) (l.take j)+cn (l.getD j default) (l.drop j):=by rw [← Lj,take_append_drop]
  have g:=h (l.getD j default).toNat (by omega)
  rw [Int.toNat_of_nonneg c.1] at g
  omega
theorem Lb (i:Nat):∀n,Rf (fun x=>if x=i then 1 else 0) n=if i<n then 1 else 0
 |0=>rfl
 |n+1=>by
  simp only [Rf]
  rw [Lb i n]
  split<;>split<;>split<;>omega
theorem OI (i:Nat):∀{l:List Int},(∀x ∈ l,0≤x)→(cn (i:Int) l:Int)=Iv (fun x=>if x=i then 1 else 0) (TG l)
 |[],_=>rfl
 |x::l,h=>by
  have c:=h x (by simp)
  have a:=OI i (l:=l) fun y b=>h y (by simp [b])
  simp only [TG] at a ⊢
  simp only [map_cons,Iv,cn]
  rw [← a]
  by_cases g:x=(i:Int)
  ·rw [if_pos g,if_pos (by omega)];omega
  ·rw [if_neg g,if_neg (by omega)];omega
theorem TF {l:List Int} (h:HK l=true) (b:l.length≤4) {i:Nat} (d:i<l.length):cn (i:Int) l=1:=by
 have c:∀x ∈ l,0≤x:=fun x f=>by
  obtain ⟨j,a,e⟩:=getElem_of_mem f
  have:=(IM h a).1
  rwa [show l.getD j default=x by simp [a,e]] at this
 have e:=OI i c
 rw [Pt (QE h b),JZ,Lb,if_pos d] at e
 omega
end Go.Proofs.YtblbopcaflaldaaGreatDoor

namespace Go.Dd
open Go Go.RowKit
open List hiding get
section
variable {P : Program} {Q : BF} {n : Nat} {E : BT} {w : World} {ty t s e : TypeId} {x y : Operand} {a b : ByteArray} {u v z : Value}
theorem Pw.ret3 {d:Func} {R:Value→World→Prop} {p q r:Nat} (i:d.results= #[.tmp p, .tmp q, .tmp r]) (f:get E p=some u) (g:get E q=some v) (j:get E r=some z) (h:R (.tuple #[u,v,z]) w):Pw n E (PW P d R .ret) w:=fun a c=>
 bodyPost_ret (v:= .tuple #[u,v,z]) (by rw [results_tmp3 i];simp [Array.getD_eq_getD_getElem?,c.has _ _ f,c.has _ _ g,c.has _ _ j]) c.dfr ⟨_,rfl,h⟩
theorem JN {j:Func} {p q r:Tmp} {c:TypeId} (h:j.results= #[.cell p c, .tmp q, .tmp r]) (tmps:Array Value) (w:World) (g:Nat) (i:TypeId) (cs:Array Value) (k:Nat×Nat) (d:TypeDesc)
  (m:tmps.getD p undef= .pointer (some ⟨g,0,none⟩)) (A:w.heap[g]? =some (.cells cs i k))
  (o:P.underlying c=some d) (l:(match d with| .struct _| .array _ _=>true|_=>false)=true) (B:(P.info? c).map (·.size)=some cs.size):
  (results j tmps).run P w= .ok (.tuple #[.agg cs,tmps.getD q undef,tmps.getD r undef]) w:=by
 have f:tmps[p]?.getD undef= .pointer (some ⟨g,0,none⟩):=by simpa using m
 simp [results,h,f,asAddr,run_loadVar_row w g i c cs k d A o l B]
theorem Eu {f:Func} {R:Value→World→Prop} {p q r b k:Nat} {T:TypeId} {cs:List Value} {d:TypeDesc} (m:f.results= #[.cell p e, .tmp q, .tmp r]) (i:get E p=some (.pointer (some ⟨b,0,none⟩))) (l:get E q=some u) (C:get E r=some v) (A:AP w b T cs)
  (o:P.underlying e=some d) (g:(match d with| .struct _| .array _ _=>true|_=>false)=true) (B:(P.info? e).map (·.size)=some k) (j:cs.length=k) (h:R (.tuple #[.agg cs.toArray,u,v]) w):Pw n E (PW P f R .ret) w:=fun a c=>by
 subst j
 have:=JN m a.tmps w b T cs.toArray (0,0) d (by simp [Array.getD_eq_getD_getElem?,c.has _ _ i]) A o g (by simpa using B)
 rw [show a.tmps.getD q undef=u by simp [Array.getD_eq_getD_getElem?,c.has _ _ l],show a.tmps.getD r undef=v by simp [Array.getD_eq_getD_getElem?,c.has _ _ C]] at this
 exact bodyPost_ret this c.dfr ⟨_,rfl,h⟩
end
end Go.Dd

namespace Go.Proofs.YtblbopcaflaldaaGreatDoor
open Go Go.Dd Go.RowKit List
set_option maxRecDepth 100000
theorem Tb {l:List Int}:∀m:Nat,(∀i:Nat,i<m→1≤cn (i:Int) l)→m≤fl (m:Int) l
 |0,_=>Nat.zero_le _
 |m+1,h=>by
  have:=Tb m fun i a=>h i (by omega)
  have:=h m (by omega)
  rw [J2];omega
theorem Ta {l:List Int} {j:Nat} (a:2≤cn (j:Int) l):∀m:Nat,j<m→(∀i:Nat,i<m→1≤cn (i:Int) l)→m+1≤fl (m:Int) l
 |0,h,_=>by omega
 |m+1,h,hh=>by
  rw [J2]
  by_cases e:j=m
  ·have:=Tb m fun i b=>hh i (by omega)
   rw [← e] at this ⊢;omega
  ·have:=Ta a m (by omega) fun i b=>hh i (by omega)
   have:=hh m (by omega)
   omega
theorem OH {i:Int}:∀{l:List Int},i ∉ l→cn i l=0
 |[],_=>rfl
 |x::l,h=>by
  simp only [cn]
  rw [OH fun a=>h (mem_cons_of_mem _ a),if_neg fun e=>h (by rw [e];simp)]
theorem Km (s:List Int):Jr s=(decide (s.length≤4) && HK s):=by
 unfold Jr
 by_cases h4:s.length≤4
 ·rw [decide_eq_true h4,Bool.and_true,Bool.true_and,Bool.eq_iff_iff]
  constructor
  ·intro c
   have d:∀i:Nat,i<s.length→1≤cn (i:Int) s:=fun i a=>NU (by simpa using I7.1 c i a)
   refine Um fun i a=> ?_
   have h:=d i a
   by_cases e:2≤cn (i:Int) s
   ·have:=Ta e s.length a d
    have:=Ru (s.length:Int) s
    omega
   ·omega
  ·intro f
   refine I7.2 fun j g=> ?_
   have:=TF f h4 g
   cases c:s.contains (j:Int) with
   |true=>rfl
   |false=>
    exfalso
    have b:(j:Int) ∉ s:=by simpa using c
    have k:cn (j:Int) s=0:=OH b
    omega
 ·rw [decide_eq_false h4];simp

def AZ (k:BitVec 8):Rw:=(HX.find? fun r=>decide (r.k=k.toNat)).getD ⟨0,[],0,0,[],[]⟩
def CM (r:Rw) (x:N5):List (List UInt8):=
 [r.word]++x.i.map Lib.itoa++(if r.nxt=[] then [] else [r.nxt])++(if r.shaped then x.s.map Lib.itoa else if r.nxt=[] then [] else [Lib.itoa x.n])++(if r.last=[] then [] else [r.last,Lib.itoa x.p])
def Jj (x:N5):List UInt8:=Lib.join (CM (AZ x.k) x) [32]++[10]
def BX (ls:List N5):List UInt8:=(ls.map Jj).flatten
def JE (ls:List N5):Int:=if (EK ls).isSome then 0 else 1
def GX (ls:List N5):List UInt8:=if (EK ls).isSome then BX ls else []
theorem Si:∀k:BitVec 8,(CQ k).isSome=true→AZ k ∈ HX∧((AZ k).k:Int)=(k.toNat:Int):=by decide+kernel
theorem Mq:∀r ∈ HX,∀q ∈ HX,r.k=q.k→r=q:=by decide+kernel
theorem Q2 {k:BitVec 8} (h:(CQ k).isSome=true):RD (b8 k) (.agg (AZ k).cells.toArray)∧∀v,RD (b8 k) v→v= .agg (AZ k).cells.toArray:=by
 obtain ⟨a,d⟩:=Si k h
 refine ⟨⟨AZ k,a,by rw [d],rfl⟩,fun v ⟨q,b,c,e⟩=> ?_⟩
 have:(k.toNat:Int)=(q.k:Int):=by injection c
 rw [e,Mq (AZ k) a q b (by omega)]
structure EL (x:N5):Prop where
 kd:(CQ x.k).isSome=true
 ii:∀j ∈ x.i,0≤j∧j≤65536
 ss:∀d ∈ x.s,0≤d∧d≤65536
 nn:0≤x.n∧x.n≤64
 pp:0≤x.p∧x.p≤64
 il:((AZ x.k).least:Int)≤x.i.length∧x.i.length≤4
 sl:x.s.length≤4
 s0:(AZ x.k).shaped=false→x.s=[]
 n0:((AZ x.k).nxt=[]∨(AZ x.k).shaped=true)→x.n=0
 p0:(AZ x.k).last=[]→x.p=0
 im:(x.i.length:Int)≤(AZ x.k).most
theorem So {s:List Int} (h:HK s=true) (c:s.length≤4):∀d ∈ s,0≤d∧d≤65536:=fun d b=>by
 obtain ⟨j,a,rfl⟩:=List.mem_iff_getElem.1 b
 have:=IM h a
 rw [getD_eq_getElem?_getD,getElem?_eq_getElem a] at this
 simp only [Option.getD_some] at this
 omega
theorem T8:∀k:BitVec 8,(match CQ k with
  |some [a,b,c,d,e,f]=>decide (((AZ k).least:Int)=a) && decide (b≤(AZ k).most) && decide (b≤4) && decide (0≤c) && decide (d≤64) && decide (e≤64) && (decide (f=0)||(AZ k).shaped) && (!(decide ((AZ k).nxt=[])||(AZ k).shaped)||(decide (c=0) && decide (d=0))) && (!decide ((AZ k).last=[])||decide (e=0))
  |_=>true)=true:=by decide+kernel
theorem Sw {x:N5} (h:DK x.k x.i x.s x.n x.p=true) (s:∀j ∈ x.i,0≤j∧j≤65536):EL x:=by
 unfold DK at h
 have l:=T8 x.k
 cases i:CQ x.k with
 |none=>rw [i] at h;cases h
 |some r=>
  obtain ⟨_,_,t⟩:=J1 i
  obtain ⟨a,b,c,d,e,f,rfl⟩:=Ny t
  rw [i] at h l
  simp only [Bool.and_eq_true,Bool.or_eq_true,Bool.not_eq_true',decide_eq_true_eq] at l
  obtain ⟨⟨⟨⟨⟨⟨⟨⟨u,E⟩,w⟩,F⟩,z⟩,D⟩,o⟩,n⟩,p⟩:=l
  obtain ⟨⟨y,G,A,C,B,v⟩,g⟩:=GC.1 h
  refine ⟨by rw [i];rfl,s, ?_,by omega,by omega,by omega, ?_,fun m=> ?_,fun k=> ?_,fun q=> ?_,by omega⟩
  ·split at g
   ·intro d i
    rw [eq_nil_of_length_eq_zero (AE g)] at i
    cases i
   ·split at g
    ·intro d i
     have:=((Shapes.ok_iff _).1 g).2.1 d i
     omega
    ·rw [Km,Bool.and_eq_true,decide_eq_true_eq] at g
     exact So g.2 g.1
  ·split at g
   ·have:=AE g
    omega
   ·split at g
    ·exact ((Shapes.ok_iff _).1 g).1.2
    ·rw [Km,Bool.and_eq_true,decide_eq_true_eq] at g
     exact g.1
  ·rcases o with e|e
   ·rw [if_pos e] at g
    exact eq_nil_of_length_eq_zero (AE g)
   ·rw [e] at m;cases m
  ·rcases n with e|e
   ·simp only [Bool.or_eq_false_iff,decide_eq_false_iff_not] at e
    rcases k with k|k
    ·exact absurd k e.1
    ·rw [e.2] at k;cases k
   ·omega
  ·rcases p with e|e
   ·exact absurd q (by simpa using e)
   ·omega
end Go.Proofs.YtblbopcaflaldaaGreatDoor

namespace Go.Dd
open Go Go.RowKit
open List hiding get
def IE (P:Program) (f:FuncId) (args:List Value) (w:World) (pv:Value) (R:Value→World→Prop) (K:World→Prop):Prop:=
 (∃ fn, P.funcs[f]? = some fn ∧ (fn.name == "runtime.NumGoroutine") = false ∧ fn.body.isSome = true) ∧ Calls P f args.toArray w (fun e w' => (∃ v, e = .returned v ∧ R v w') ∨ (e = .panicked [{ v := pv, recovered := false }] ∧ K w'))
def Ob (P:Program) (fn:Func) (pv:Value) (R:Value→World→Prop) (K:World→Prop):BF:=bodyPost P fn (fun e w' =>(∃v,e= .returned v∧R v w')∨(e= .panicked [{v:=pv,recovered:=false}]∧K w'))
section
variable {P : Program} {Q : BF} {n : Nat} {E : BT} {w : World} {l0 rest : List Oper} {ty : TypeId} {pos : String} {af : Array Edge} {x : Operand} {pv : Value}
theorem IE.mono {f:FuncId} {args:List Value} {R c:Value→World→Prop} {K d:World→Prop} (h:IE P f args w pv R K) (g:∀v w',R v w' →c v w') (e:∀w',K w' →d w'):IE P f args w pv c d:=
 ⟨h.1,h.2.mono fun _ _ q=>q.imp (fun ⟨v,b,a⟩=>⟨v,b,g _ _ a⟩) (fun ⟨b,a⟩=>⟨b,e _ a⟩)⟩
theorem Dr {f : FuncId} {b : Func} {c : Code} {args : List Value} {R : Value → World → Prop} {K : World → Prop} (g : P.funcs[f]? = some b) (a : (b.name == "runtime.NumGoroutine") = false) (j : b.body = some c)
  (m:b.ntmps=n) (l:Nat.ble args.length n=true) (h:Cw P (Ob P b pv R K) n c (params 0 args) w):IE P f args w pv R K:=by
 refine ⟨⟨b,g,a,by simp [j]⟩,calls_of_wp g j (h _ ⟨rfl, ?_,fun i v k=> ?_⟩)⟩
 ·have:args.length≤n:=Nat.le_of_ble_eq_true l
  simp [m];omega
 ·have e:=(DF args 0 i v k).2
  simp only [Nat.sub_zero] at e
  have d:i<args.length:=by
   rcases Nat.lt_or_ge i args.length with h|h
   ·exact h
   ·simp [getElem?_eq_none h] at e
  rw [Array.getElem?_append]
  simp only [size_toArray,d,if_true,getElem?_toArray]
  exact e
theorem Fg {c:Func} {R:Value→World→Prop} {K:World→Prop} {t:Nat} {v:Value} (e:c.results= #[.tmp t]) (d:get E t=some v) (h:R v w):Pw n E (Ob P c pv R K .ret) w:=fun a b=>
 bodyPost_ret (v:=v) (by rw [results_tmp e];simp [Array.getD_eq_getD_getElem?,b.has _ _ d]) b.dfr (.inl ⟨v,rfl,h⟩)
theorem Pw.ret0q {a:Func} {R:Value→World→Prop} {K:World→Prop} (c:a.results= #[]) (h:R (.tuple #[]) w):Pw n E (Ob P a pv R K .ret) w:=fun _ b=>
 bodyPost_ret (v:= .tuple #[]) (by rw [results_none c]) b.dfr (.inl ⟨_,rfl,h⟩)
theorem Fz {a:Func} {R:Value→World→Prop} {K:World→Prop} (c:a.results= #[]) (h:R (.tuple #[]) w):Pw n E (Ob P a pv R K .normal) w:=fun _ b=>
 bodyPost_end (v:= .tuple #[]) (by rw [results_none c]) b.dfr (.inl ⟨_,rfl,h⟩)
theorem Ct {b:Func} {R:Value→World→Prop} {K:World→Prop} (h:K w):Pw n E (Ob P b pv R K (.panic [{v:=pv,recovered:=false}])) w:=fun _ a=>⟨a.dfr, .inr ⟨rfl,h⟩⟩
theorem Dm {b:Func} {R:Value→World→Prop} {K:World→Prop}:AJ (Ob P b pv R K):=fun _ a _ o v h=>by
 cases o with
 |none=>exact h
 |some d=>exact h
theorem Bg {K:Act→World→Prop} {c:List PanicEntry} (h:Pw n E (Q (.panic c)) w):Pw n E (BS K Q (.panic c)) w:=h
theorem C9 {a:Nat} {c:List PanicEntry} (h:Pw n E (Q (.panic c)) w):Pw n E (H1 a Q (.panic c)) w:=h
theorem Lw.callQ {d:Nat} {i:Op} {f:FuncId} {vs:List Value} {R:Value→World→Prop} {K:World→Prop} (h:Xc P n E i ty w f vs) (j:Nat.blt d n=true) (l:IE P f vs w pv R K)
  (m:∀w',K w' →Pw n E (Q (.panic [{v:=pv,recovered:=false}])) w') (k:∀v w',R v w' →Lw P l0 Q n rest ((d,v)::E) w'):Lw P l0 Q n (⟨some d,i,ty,pos,af,none⟩::rest) E w:=
 fun a c=>wpList_plain rfl fun o g=>by
  unfold Oper.wp
  rw [h a c]
  refine l.2.mono fun e w' q=> ?_
  rcases q with ⟨v,rfl,b⟩|⟨rfl,b⟩
  ·exact g _ _ (k v w' b _ (c.put v j))
  ·exact m w' b a c
theorem Cs {d:Nat} {f:FuncId} {xs:List Operand} {vs:List Value} {ts:Array TypeId} {R:Value→World→Prop} {K:World→Prop} (c:evs E xs=some vs) (b:Nat.blt d n=true) (a:IE P f vs w pv R K)
  (e:∀w',K w' →Pw n E (Q (.panic [{v:=pv,recovered:=false}])) w') (k:∀v w',R v w' →Lw P l0 Q n rest ((d,v)::E) w'):Lw P l0 Q n (⟨some d, .call {callee:= .value (.func f),args:=xs.toArray,argTypes:=ts},ty,pos,af,none⟩::rest) E w:=
 Lw.callQ (Xc.mk a.1 c) b a e k
theorem D3 {T:TypeId} {d:Array Field} {v:Value} (c:P.underlying T=some (.struct d)) (e:ev E x=some v):Ex P n E (.makeInterface T x) ty w (.iface T v):=fun a b _ _ _ _=>by
 simp [execOp,b.ev e,Instr.makeInterface,run_underlying c]
theorem Ed {d:Option Nat} {T:TypeId} {v:Value} (c:ev E x=some (.iface T v)) (h:Pw n E (Q (.panic [{v:= .iface T v,recovered:=false}])) w):Lw P l0 Q n (⟨d, .panic x,ty,pos,af,none⟩::rest) E w:=
 fun a b=>wpList_plain rfl fun f _=>by
  unfold Oper.wp
  have e:(execOp a.eval ⟨d, .panic x,ty,pos,af,none⟩).run P w= .halt (.panic (.iface T v)) w:=by simp [execOp,b.ev c,Instr.panic]
  rw [e]
  exact h a b
end
end Go.Dd

namespace Go.Proofs.YtblbopcaflaldaaGreatDoor
open Go Go.Dd Go.RowKit List Go.Proofs.Tryz
set_option maxRecDepth 100000
def NW:Value:= .iface 106 (.agg #[])
structure Lo (W w:World) (A:Nat) (v:Value) (l:List (BitVec 8)):Prop where
 sl:BE b8 W v l
 bel:Below W.heap.size W w
 lo:W.heap.size≤A
 cell:AP w A 99 [v]
theorem L3 (W w:World) (A n:Nat) (v:Value) (l:List (BitVec 8)) (i:Lo W w A v l):
  IE prog 57 [.pointer (some ⟨A,0,none⟩), .int .i64 (n:Int)] w NW
   (fun r w' =>n≤l.length∧w.grownBy w' (some A)∧w'.heap.size=w.heap.size∧BE b8 W r (l.take n)∧∃v',Lo W w' A v' (l.drop n)) (fun w' =>l.length<n∧w' =w):=by
 obtain ⟨a,e,d,b⟩:=i
 have h:=a.bs e
 refine Dr (n:=31) func57 (by kernel_rfl) O O O<|Ai<|Ab O<|A8<|Ad O<|Ad O<|Aa (Cp O) O<|A9 underlying99 O (KI _)<|Aa (Ao (HO _) O ‹_› rfl) O ?_
 refine Aa (Aq AO O ‹_›) O ?_
 refine Aa (C7 O O) O<|Ak<|Am O ?_ ?_
 ·intro g
  have g:=AE g
  refine A5<|Aa (Bi (vs:=[]) (cs:=[]) O (by kernel_rfl)) O<|Aa (D3 underlying106 O) O ?_
  refine Ed O (Bg (Ct (⟨by omega,rfl⟩)))
 intro g
 have g:=AD g
 have c:n≤l.length:=by omega
 refine Ci<|Ad O<|Aa (Cp O) O<|A9 underlying99 O (KI _)<|Aa (Ao (HO _) O ‹_› rfl) O ?_
 refine Ad O<|Aa (El AO O O ‹_› (by omega)) O ?_
 refine Ab O<|A3<|Ad O<|Ad O<|Aa (Cp O) O<|A9 underlying99 O (KI _)<|Aa (Ao (HO _) O ‹_› rfl) O ?_
 refine Ad O<|Aa (Fo AO O O ‹_› (by omega)) O ?_
 refine Aa (Cp O) O<|A9 underlying99 O (KI _)<|A6 (Cm (KI _) O O (a.drop c).one' b (show 0<1 by omega)) ?_
 rintro w ⟨b,f,j⟩
 refine A3<|Ad O<|Ab O<|As<|Fg O O ?_
 exact ⟨c,f,j,a.take c,_,⟨a.drop c,e.grown f (AA e) (by rintro _ ⟨⟩;omega),d,b⟩⟩
theorem Lo.le {W w:World} {A:Nat} {v:Value} {l:List (BitVec 8)} (h:Lo W w A v l):l.length≤9223372036854775807:=h.sl.le
theorem Q3 (W w:World) (A:Nat) (v:Value) (l:List (BitVec 8)) (g:Lo W w A v l):
  IE prog 52 [.pointer (some ⟨A,0,none⟩)] w NW
   (fun r w' =>1≤l.length∧w.grownBy w' (some A)∧w'.heap.size=w.heap.size∧r= .int .i64 ((l.getD 0 default).toNat:Int)∧∃v',Lo W w' A v' (l.drop 1)) (fun w' =>l.length<1∧w' =w):=by
 refine Dr (n:=8) func52 (by kernel_rfl) O O O<|Ai<|Ab O<|A3<|Ad O<|Cs O O (L3 W w A 1 v l g) (fun w' h=>Bg (Ct (h))) ?_
 rintro r k ⟨f,i,j,d,v',c⟩
 have e:=d.bs c.bel
 have a:0<(l.take 1).length:=by rw [length_take];omega
 have a:0<(l.take 1).length:=by rw [length_take];omega
 refine Aa (Fx AO O O e.shp 0 O a) O<|Aa (Bf (LW _) O ‹_› (by omega)) O ?_
 refine Aa (F4 OV Hl O) O<|Ab O<|As<|Fg O O ?_
 refine ⟨f,i,j, ?_,v',c⟩
 cases l with
 |nil=>simp at f
 |cons b t=>rfl
def EF (t:List (BitVec 8)):List Int:=t.map fun b=>(b.toNat:Int)
theorem IS (t:List (BitVec 8)):(EF t).length=t.length:=length_map ..
theorem NJ {t:List (BitVec 8)} {i:Nat} (a:i<t.length):EF (t.take (i+1))=EF (t.take i)++[((t.getD i default).toNat:Int)]:=by
 unfold EF
 rw [take_succ_eq_append_getElem a,map_append,getD_eq_getElem?_getD,getElem?_eq_getElem a]
 rfl
set_option maxHeartbeats 1000000 in
theorem Sh (W w:World) (A:Nat) (v:Value) (l:List (BitVec 8)) (Y:Lo W w A v l):
  IE prog 53 [.pointer (some ⟨A,0,none⟩)] w NW
   (fun r w' =>1≤l.length∧(l.getD 0 default).toNat≤(l.drop 1).length∧w.grownBy w' (some A)∧
    AQ w' w.heap.size 3 1 r (EF ((l.drop 1).take (l.getD 0 default).toNat)).length ((EF ((l.drop 1).take (l.getD 0 default).toNat)).map (Value.int .i64))∧
    ∃v',Lo W w' A v' ((l.drop 1).drop (l.getD 0 default).toNat))
   (fun w' =>(l.length<1∨(l.drop 1).length<(l.getD 0 default).toNat)∧w.grownBy w' (some A)):=by
 obtain ⟨n,B⟩:∃n,n=(l.getD 0 default).toNat:=⟨_,rfl⟩
 have J:n<256:=by rw [B];exact (l.getD 0 default).isLt
 rw [← B]
 refine Dr (n:=22) func53 (by kernel_rfl) O O O<|Ai<|Ab O<|A8<|Ad O<|Ad O<|Cs O O (Q3 W w A v l Y) (fun w' k=>Bg (Bg (Ct (⟨.inl k.1,k.2 ▸ BC (Below.refl _ _) _⟩)))) ?_
 rintro _ G ⟨L,m,M,rfl,N,D⟩
 rw [← B]
 refine Cs O O (L3 W G A n N _ D) (fun w' k=>Bg (Bg (Ct (⟨.inr k.1,k.2 ▸ m⟩)))) ?_
 rintro r s ⟨H,u,U,p,V,a⟩
 obtain ⟨t,E⟩:∃t,t=(l.drop 1).take n:=⟨_,rfl⟩
 rw [← E] at p ⊢
 have K:=AS m u
 have T:s.heap.size=w.heap.size:=by omega
 have f:=p.bs a.bel
 have lt:t.length≤255:=by rw [E,length_take];omega
 refine Aa (Aq AO O ‹_›) O ?_
 refine Ad O<|Ak<|Ar ?_
 refine Bu (S:=(Nat×Value)) (fun z=>[(0, .pointer (some ⟨A,0,none⟩)),(2,z.2),(8,r),(9, .int .i64 (t.length:Int)),(10, .int .i64 (z.1:Int))]) (fun z w' =>z.1≤t.length∧Below s.heap.size s w' ∧w'.ownsRow s.heap.size 3 1 z.2 (EF (t.take z.1)).length ((EF (t.take z.1)).map (Value.int .i64))) (fun z=>t.length - z.1) ((0, .slice none 0 0)) ⟨rfl,rfl,rfl,rfl,rfl,trivial⟩ ?_ ?_
 ·exact ⟨Nat.zero_le _,Below.refl _ _,World.ownsRow_nil _ _ _ _⟩
 rintro ⟨i,y⟩ I ⟨X,b,e⟩
 dsimp only at X b e ⊢
 have f:=f.bs b
 refine Ai<|B8 O<|Ak<|Ap<|Am O ?_ ?_
 ·intro g
  have c:i<t.length:=by have:=AE g;omega
  have R:(EF (t.take i)).length+1=(EF (t.take (i+1))).length:=by rw [IS,IS,length_take,length_take];omega
  have Z:(EF (t.take i)).length=i:=by rw [IS,length_take];omega
  refine B1<|Ap<|Ar<|Ai<|Aa (Fx AO O O f.shp i O c) O<|Aa (Bf (LW _) O ‹_› (by omega)) O ?_
  refine Ab O<|Ak<|A5<|Ad O<|Ad O<|Aa (F4 OV Hl O) O<|An (B7 (vs:=[((t.getD i default).toNat:Int)].map (Value.int .i64)) AH DH O O O O O) O ?_
  rintro q F ⟨x, -,h, -⟩
  have e:=AF e h
  have o:=bt b h
  refine An (C1 (base:=s.heap.size) AH DH O (by decide) O O e (AG x) (BI (fun _=>rfl) _) (by omega) (by omega) o.size) O ?_
  rintro Q w5 ⟨j,C, -⟩
  rw [← map_append,← NJ c,R] at j
  refine Ab O<|A7<|Ba<|Cr<|Ca O (by omega)<|Ad O<|A7 ?_
  exact Ay (Br ((i+1,Q)) ⟨rfl,rfl,rfl,rfl,rfl,trivial⟩ (⟨c,o.trans C,j⟩) (by simp only;omega))
 intro g
 have c:i=t.length:=by have:=AD g;omega
 subst c
 rw [take_length] at e
 refine Bq<|Au<|Au<|Bc<|Cf<|Ad O<|Ah O O (Ky y (EF t) I (AL e)) ?_
 rintro _ F ⟨rfl,d⟩
 refine Ab O<|As<|Fg O O ?_
 refine ⟨L,H,AS K (BC (bt b d) _), ?_,V, ?_⟩
 ·rw [← T];exact (AQ.clip e).bs d
 ·exact ⟨a.sl,a.bel.trans ((bt b d).mono (AA a.bel)),a.lo,a.cell.bs (bt b d)⟩
end Go.Proofs.YtblbopcaflaldaaGreatDoor

namespace Go.Proofs.YtblbopcaflaldaaGreatDoor
open Go Go.Dd Go.RowKit List
set_option maxRecDepth 100000
abbrev Bs:=List (BitVec 8)
abbrev PN:=BitVec 8×List Int×List Int×Int×Int
def pn (a:N5):PN:=(a.k,a.i,a.s,a.n,a.p)
def un (p:PN):N5:=⟨p.1, .slice none 0 0, .slice none 0 0,p.2.1,p.2.2.1,p.2.2.2.1,p.2.2.2.2⟩
def HT:Bs→Option (BitVec 8×Bs)
 |[]=>none
 |b::t=>some (b,t)
def HI (l:Bs):Option (List Int×Bs):=match HT l with
 |none=>none
 |some (b,t)=>if b.toNat≤t.length then some (EF (t.take b.toNat),t.drop b.toNat) else none
def FD (l:Bs):Option (PN×Bs):=match HT l with
 |none=>none
 |some (k,l)=>match HI l with
  |none=>none
  |some (i,l)=>match HI l with
   |none=>none
   |some (s,l)=>match HT l with
    |none=>none
    |some (n,l)=>match HT l with
     |none=>none
     |some (p,l)=>some ((k,i,s,(n.toNat:Int),(p.toNat:Int)),l)
def CP:Nat→Bs→Option (List PN×Bs)
 |0,l=>some ([],l)
 |n+1,l=>match FD l with
  |none=>none
  |some (x,l)=>(CP n l).map fun q=>(x::q.1,q.2)
def Og (s:List Int) (l:Bs):Option (PV×Bs):=
 if Shapes.ok s=true∧4*(Shapes.size s).toNat≤l.length then some ((s,nums (l.take (4*(Shapes.size s).toNat))),l.drop (4*(Shapes.size s).toNat)) else none
def ET:List (List Int)→Bs→Option (List PV×Bs)
 |[],l=>some ([],l)
 |s::ss,l=>match Og s l with
  |none=>none
  |some (x,l)=>(ET ss l).map fun q=>(x::q.1,q.2)
def Ls (ns:List PN):List (List Int):=(ns.filter fun a=>decide (a.1=2#8)).map fun a=>a.2.2.1
def DO (l:Bs):Option (List PN×List PV×Bs):=match HT l with
 |none=>none
 |some (b,l)=>match CP b.toNat l with
  |none=>none
  |some (ns,l)=>(ET (Ls ns) l).map fun q=>(ns,q.1,q.2)
def MI (ns:List PN):Option (List (List Int)):=EK (ns.map un)
def GZ (l:Bs):Option (List PN×List PV):=match DO l with
 |none=>none
 |some (ns,ws,r)=>if r=[]∧(MI ns).isSome=true then some (ns,ws) else none
def KE (b:Bs):Int:=if b.length<4 then 5 else if gf (b.drop (b.length - 4))≠Crc.of (b.take (b.length - 4)) then 11 else if (GZ (b.take (b.length - 4))).isSome then 0 else 4
def NP (b:Bs):Option (List PN×List PV):=if b.length<4 then none else if gf (b.drop (b.length - 4))≠Crc.of (b.take (b.length - 4)) then none else GZ (b.take (b.length - 4))
theorem OC:∀(ls:List N5) (a:List (List Int)),DX a (ls.map fun x=>un (pn x))=DX a ls
 |[],_=>rfl
 |x::ls,a=>by
  show (match KJ a x with|some s=>DX (a++[s]) (ls.map fun x=>un (pn x))|none=>none)=match KJ a x with|some s=>DX (a++[s]) ls|none=>none
  cases KJ a x with
  |none=>rfl
  |some s=>exact OC ls _
theorem R2 (k:BitVec 8):∀ls:List N5,((ls.map fun x=>un (pn x)).filter fun a=>decide (a.k=k)).length=(ls.filter fun a=>decide (a.k=k)).length
 |[]=>rfl
 |x::ls=>by
  have b:=R2 k ls
  rw [map_cons,filter_cons,filter_cons,show (un (pn x)).k=x.k from rfl]
  split
  ·rw [length_cons,length_cons,b]
  ·exact b
theorem FN (ls:List N5):MI (ls.map pn)=EK ls:=by
 unfold MI
 rw [map_map]
 show EK (ls.map fun x=>un (pn x))=EK ls
 unfold EK
 have b:FS (ls.map fun x=>un (pn x))=FS ls:=R2 _ ls
 have a:((ls.map fun x=>un (pn x)).getD (ls.length - 1) default).k=(ls.getD (ls.length - 1) default).k:=by
  rw [getD_eq_getElem?_getD,getD_eq_getElem?_getD,getElem?_map]
  cases ls[ls.length - 1]? <;>rfl
 rw [length_map,OC,b,a]
theorem HY (ls:List N5):Ls (ls.map pn)=(F2 ls).map (·.s):=by
 unfold Ls F2
 rw [filter_map,map_map]
 rfl
theorem Pi {l:Bs}:HT l=none↔l.length<1:=by cases l<;>simp [HT]
theorem KR {l:Bs} (h:1≤l.length):HT l=some (l.getD 0 default,l.drop 1):=by
 cases l with
 |nil=>simp at h
 |cons b t=>rfl
theorem Nw {l:Bs}:HI l=none↔(l.length<1∨(l.drop 1).length<(l.getD 0 default).toNat):=by
 cases l with
 |nil=>simp [HI,HT]
 |cons b t=>
  simp only [HI,HT]
  split
  ·rename_i h;simp;omega
  ·rename_i h;simp;omega
theorem Nv {l:Bs} (a:1≤l.length) (b:(l.getD 0 default).toNat≤(l.drop 1).length):HI l=some (EF ((l.drop 1).take (l.getD 0 default).toNat),(l.drop 1).drop (l.getD 0 default).toNat):=by
 unfold HI
 rw [KR a]
 exact if_pos b
theorem Mb:∀{a:List (List Int)} {l r:Bs} {ws:List PV},ET a l=some (ws,r)→ws.map Prod.fst=a∧∀p ∈ ws,K4 p.1 p.2=true
 |[],l,r,ws,h=>by cases h;exact ⟨rfl,fun _ h=>by cases h⟩
 |s::a,l,r,ws,h=>by
  unfold ET at h
  cases h1:Og s l with
  |none=>rw [h1] at h;cases h
  |some q=>
   obtain ⟨x,f⟩:=q
   rw [h1] at h
   simp only at h
   cases h2:ET a f with
   |none=>rw [h2] at h;cases h
   |some q2=>
    obtain ⟨g,j⟩:=q2
    rw [h2] at h
    cases h
    obtain ⟨d,i⟩:=Mb h2
    unfold Og at h1
    split at h1
    ·rename_i c
     cases h1
     refine ⟨by rw [map_cons,d],fun p b=> ?_⟩
     rcases List.mem_cons.1 b with rfl|b
     ·have:=Shapes.size_le s
      have e:=Mw (Shapes.size s).toNat (l.take (4*(Shapes.size s).toNat)) (by rw [length_take];omega)
      unfold K4
      rw [c.1,e,Bool.true_and,decide_eq_true_eq]
      show ((Shapes.size s).toNat:Int)=Shapes.size s
      omega
     ·exact i p b
    ·cases h1
theorem QP {ls:List N5} {ts:List T4} {l r:Bs} (h:ET (Ls (ls.map pn)) l=some (ts.map pv,r)):DB ls ts=(EK ls).isSome:=by
 obtain ⟨b,g⟩:=Mb h
 rw [HY,map_map] at b
 have d:(F2 ls).length=ts.length:=by have:=cngA length b;simpa using this.symm
 have j:Lq (ts.map pv) (F2 ls)=true:=by
  refine (FX (by rw [length_map,d])).2 fun i f=> ?_
  have a:i<ts.length:=by omega
  rw [getD_eq_getElem?_getD,getElem?_map,getElem?_eq_getElem a]
  show Js (pv ts[i]) _=true
  have e:=g (pv ts[i]) (mem_map_of_mem (getElem_mem a))
  have c:(ts.map (Prod.fst∘pv))[i]? =((F2 ls).map (·.s))[i]? :=by rw [b]
  rw [getElem?_map,getElem?_map,getElem?_eq_getElem a,getElem?_eq_getElem f] at c
  unfold Js
  rw [e,Bool.true_and,decide_eq_true_eq]
  exact Option.some.inj c
 unfold DB
 rw [d,j,decide_eq_true rfl,Bool.true_and,Bool.and_true]
theorem M3 {n:Nat} {b l c:Bs} {a:List PN} {x:PN} {m:Nat} (h:CP m b=(CP (n+1) l).map fun q=>(a++q.1,q.2)) (d:FD l=some (x,c)):CP m b=(CP n c).map fun q=>(a++[x]++q.1,q.2):=by
 rw [h]
 show ((match FD l with|none=>none|some (x,l)=>(CP n l).map fun q=>(x::q.1,q.2)):Option _).map _=_
 rw [d]
 simp only [Option.map_map]
 congr 1
 funext q
 simp
theorem Pq {n:Nat} {b l:Bs} {a:List PN} {m:Nat} (h:CP m b=(CP (n+1) l).map fun q=>(a++q.1,q.2)) (c:FD l=none):CP m b=none:=by
 rw [h]
 show ((match FD l with|none=>none|some (x,l)=>(CP n l).map fun q=>(x::q.1,q.2)):Option _).map _=_
 rw [c];rfl
theorem OP {c b:List (List Int)} {s:List Int} {d l e:Bs} {a:List PV} {x:PV} (h:ET b d=(ET (s::c) l).map fun q=>(a++q.1,q.2)) (f:Og s l=some (x,e)):ET b d=(ET c e).map fun q=>(a++[x]++q.1,q.2):=by
 rw [h]
 show ((match Og s l with|none=>none|some (x,l)=>(ET c l).map fun q=>(x::q.1,q.2)):Option _).map _=_
 rw [f]
 simp only [Option.map_map]
 congr 1
 funext q
 simp
theorem RQ {d a:List (List Int)} {s:List Int} {c l:Bs} {b:List PV} (h:ET a c=(ET (s::d) l).map fun q=>(b++q.1,q.2)) (e:Og s l=none):ET a c=none:=by
 rw [h]
 show ((match Og s l with|none=>none|some (x,l)=>(ET d l).map fun q=>(x::q.1,q.2)):Option _).map _=_
 rw [e];rfl
theorem Mc {s:List Int} {l:Bs} (h:Shapes.ok s=false∨l.length<4*(Shapes.size s).toNat):Og s l=none:=by
 unfold Og
 refine if_neg fun a=> ?_
 rcases h with h|h
 ·rw [h] at a;cases a.1
 ·omega
theorem PZ {s:List Int} {l:Bs} (h:Shapes.ok s=true) (a:4*(Shapes.size s).toNat≤l.length):Og s l=some ((s,nums (l.take (4*(Shapes.size s).toNat))),l.drop (4*(Shapes.size s).toNat)):=if_pos ⟨h,a⟩

def Ij (a:Nat) (s:List UInt8):Nat:=s.foldl (fun a c=>10*a+(c.toNat - 48)) a
def MQ (s:List UInt8):Bool:=s.all fun c=>decide (48≤c.toNat) && decide (c.toNat≤57)
def FC (s:List UInt8):Option Int:=if (decide (1≤s.length) && decide (s.length≤9) && (decide (s.length=1)|| !decide (s.headD 0=48)) && MQ s)=true then some (Ij 0 s:Int) else none
theorem J3 {d:Nat} (h:d<10):(UInt8.ofNat (48+d)).toNat=48+d:=by
 rw [UInt8.toNat_ofNat'];omega
theorem Rz {c:UInt8} (h:48≤c.toNat∧c.toNat≤57):UInt8.ofNat (48+(c.toNat - 48))=c:=by
 apply UInt8.toNat_inj.1
 rw [J3 (by omega)]
 omega
theorem KL (s:List UInt8) (c:UInt8):Ij 0 (s++[c])=10*Ij 0 s+(c.toNat - 48):=by simp [Ij]
theorem Kw (u:Nat):MQ (Lib.decDigits u)=true∧Ij 0 (Lib.decDigits u)=u∧(0<u→(Lib.decDigits u).headD 0≠48)∧Lib.decDigits u≠[]:=by
 induction u using Nat.strongRecOn with
 |_ u ih=>
  rw [Lib.decDigits]
  split
  ·rename_i h
   have e:=J3 h
   refine ⟨by simp only [MQ,all_cons,all_nil,e];simp;omega,by simp only [Ij,foldl_cons,List.foldl_nil,e];omega,fun i b=> ?_,by simp⟩
   have b:UInt8.ofNat (48+u)=48:=b
   rw [b] at e
   have e:48=48+u:=e
   omega
  ·rename_i h
   obtain ⟨c,f,d,g⟩:=ih (u / 10) (by omega)
   have e:=J3 (show u % 10<10 by omega)
   refine ⟨?_, ?_,fun _=> ?_,by simp⟩
   ·unfold MQ at c ⊢
    rw [List.all_append,c,Bool.true_and,all_cons,all_nil,e];simp;omega
   ·rw [KL,f,e];omega
   ·cases hd:Lib.decDigits (u / 10) with
    |nil=>exact absurd hd g
    |cons a l=>rw [hd] at d;exact d (by omega)
theorem Ry:∀(n:Nat) (s:List UInt8),s.length=n→s≠[]→MQ s=true→s.headD 0≠48→Lib.decDigits (Ij 0 s)=s∧0<Ij 0 s:=by
 intro n
 induction n with
 |zero=>intro s h d;exact absurd (eq_nil_of_length_eq_zero h) d
 |succ n ih=>
  intro s p d b i
  obtain ⟨l,c,rfl⟩:∃l c,s=l++[c]:=⟨s.dropLast,s.getLast d,(List.dropLast_concat_getLast d).symm⟩
  have g:MQ l=true∧48≤c.toNat∧c.toNat≤57:=by
   unfold MQ at b ⊢
   rw [List.all_append,Bool.and_eq_true] at b
   refine ⟨b.1, ?_⟩
   have:=b.2
   simp only [all_cons,all_nil,Bool.and_true,Bool.and_eq_true,decide_eq_true_eq] at this
   exact this
  obtain ⟨o,k⟩:=g
  rw [KL]
  cases hl:l with
  |nil=>
   subst hl
   have q:c≠48:=i
   have:c.toNat≠48:=fun e=>q (UInt8.toNat_inj.1 e)
   rw [show Ij 0 []=0 from rfl,Nat.mul_zero,Nat.zero_add,Lib.decDigits_one (by omega),Rz k]
   exact ⟨rfl,by omega⟩
  |cons a t=>
   have f:l≠[]:=by rw [hl];simp
   have j:l.headD 0≠48:=by rw [hl] at i ⊢;exact i
   obtain ⟨m,r⟩:=ih l (by simp at p;omega) f o j
   rw [← hl,Lib.decDigits,dif_neg (by omega),show (10*Ij 0 l+(c.toNat - 48)) / 10=Ij 0 l by omega,show (10*Ij 0 l+(c.toNat - 48)) % 10=c.toNat - 48 by omega,m,Rz k]
   exact ⟨rfl,by omega⟩
theorem Lf {u:Nat} (h:(Lib.decDigits u).length≤9):u<1000000000:=by
 have a:=Lib.lt_pow_nDigits u
 rw [Lib.decDigits_length] at h
 have b:10 ^ Lib.nDigits u≤10 ^ 9:=Nat.pow_le_pow_right (by decide) h
 have:(10:Nat) ^ 9=1000000000:=by decide
 omega
theorem Iq {s:List UInt8} {n:Int}:FC s=some n↔∃u:Nat,n=(u:Int)∧Lib.decDigits u=s∧s.length≤9:=by
 unfold FC
 constructor
 ·intro h
  split at h
  ·rename_i g
   simp only [Bool.and_eq_true,Bool.or_eq_true,decide_eq_true_eq,Bool.not_eq_true',decide_eq_false_iff_not] at g
   obtain ⟨⟨⟨f,j⟩,b⟩,i⟩:=g
   refine ⟨Ij 0 s,(Option.some.inj h).symm, ?_,j⟩
   have d:s≠[]:=fun e=>by rw [e] at f;exact absurd f (by decide)
   by_cases a:s.headD 0=48
   ·rcases b with b|b
    ·obtain ⟨c,rfl⟩:=List.length_eq_one_iff.1 b
     have a:c=48:=a
     subst a
     rw [show Ij 0 [48]=0 from rfl,Lib.decDigits_one (by omega)]
     rfl
    ·exact absurd a b
   ·exact (Ry _ s rfl d i a).1
  ·cases h
 ·rintro ⟨u,rfl,rfl,k⟩
  obtain ⟨o,l,p,m⟩:=Kw u
  rw [if_pos,l]
  simp only [Bool.and_eq_true,Bool.or_eq_true,decide_eq_true_eq,Bool.not_eq_true',decide_eq_false_iff_not]
  refine ⟨⟨⟨?_,k⟩, ?_⟩,o⟩
  ·exact List.length_pos_iff.2 m
  by_cases hu:u<10
  ·left;rw [Lib.decDigits_one hu];rfl
  ·exact .inr (p (by omega))
theorem Pp {n:Int} (h:0≤n∧n≤999999999):FC (Lib.itoa n)=some n:=by
 obtain ⟨u,rfl⟩:∃u:Nat,n=(u:Int):=⟨n.toNat,by omega⟩
 rw [Lib.itoa_nonneg]
 refine Iq.2 ⟨u,rfl,rfl, ?_⟩
 rw [Lib.decDigits_length]
 rcases Nat.lt_or_ge 9 (Lib.nDigits u) with a|a
 ·exfalso
  have c:10 ^ 9≤u:=by
   have:∀k u,k<Lib.nDigits u→1≤k→10 ^ k≤u:=by
    intro k
    induction k with
    |zero=>intro u _ h;omega
    |succ k ih=>
     intro u b _
     by_cases hu:u<10
     ·rw [Lib.nDigits_small hu] at b;omega
     ·rw [Lib.nDigits_big hu] at b
      by_cases hk0:k=0
      ·subst hk0;omega
      ·have:=ih (u / 10) (by omega) (by omega)
       rw [Nat.pow_succ];omega
   exact this 9 u a (by decide)
  have:(10:Nat) ^ 9=1000000000:=by decide
  omega
 ·exact a
theorem P6 {s:List UInt8} {n:Int} (h:FC s=some n):Lib.itoa n=s∧0≤n∧n≤999999999:=by
 obtain ⟨u,rfl,rfl,a⟩:=Iq.1 h
 have:=Lf a
 exact ⟨Lib.itoa_nonneg u,by omega,by omega⟩
theorem Q6 (M:Nat):∀(l r:List UInt8) (a:Nat),Lib.parseUintM M a (l++r)=match Lib.parseUintM M a l with
  | .ok v=>Lib.parseUintM M v r
  |x=>x
 |[],r,a=>by simp only [Lib.parseUintM,nil_append]
 |c::l,r,a=>by
  simp only [cons_append,Lib.parseUintM]
  split
  ·split
   ·rfl
   ·split
    ·rfl
    ·exact Q6 M l r _
  ·rfl
theorem T9 (u:Nat):u≤4294967295→Lib.parseUintM 4294967295 0 (Lib.decDigits u)= .ok u:=by
 have b:∀a d,d<10→a<1844674407370955162→a*10+d≤4294967295→Lib.parseUintM 4294967295 a [UInt8.ofNat (48+d)]= .ok (a*10+d):=by
  intro a d e g f
  unfold Lib.parseUintM
  rw [J3 e,if_pos (by omega),if_neg (by omega),if_neg (by omega)]
  unfold Lib.parseUintM
  rw [show 48+d - 48=d by omega]
 induction u using Nat.strongRecOn with
 |_ u ih=>
  intro h
  rw [Lib.decDigits]
  split
  ·rename_i c
   have:=b 0 u c (by omega) (by omega)
   rwa [show 0*10+u=u by omega] at this
  ·rename_i c
   rw [Q6,ih (u / 10) (by omega) (by omega)]
   simp only
   rw [b (u / 10) (u % 10) (by omega) (by omega) (by omega)]
   congr 1
   omega
theorem Po (s:List UInt8):FC s=match Lib.parseUintB 32 s with
  | .ok u=>if s.length≤9∧Lib.decDigits u=s then some (u:Int) else none
  |_=>none:=by
 cases hn:FC s with
 |some n=>
  obtain ⟨u,rfl,rfl,a⟩:=Iq.1 hn
  have b:Lib.parseUintB 32 (Lib.decDigits u)= .ok u:=by
   unfold Lib.parseUintB
   rw [if_neg (Kw u).2.2.2]
   exact T9 u (by have:=Lf a;omega)
  rw [b]
  simp only
  simp [a]
 |none=>
  cases b:Lib.parseUintB 32 s with
  |ok u=>
   simp only
   rw [if_neg]
   rintro ⟨c,d⟩
   rw [Iq.2 ⟨u,rfl,d,c⟩] at hn
   cases hn
  |_=>rfl
def DA:Nat→List (List UInt8)→List Int×List (List UInt8)
 |0,l=>([],l)
 |_+1,[]=>([],[])
 |m+1,w::l=>match FC w with
  |some n=>(n::(DA m l).1,(DA m l).2)
  |none=>([],w::l)
theorem KS:∀(m:Nat) (l:List (List UInt8)),(DA m l).1.map Lib.itoa++(DA m l).2=l∧(DA m l).1.length≤m∧∀n ∈ (DA m l).1,0≤n∧n≤999999999
 |0,l=>⟨rfl,AU _,fun n a=>by cases a⟩
 |_+1,[]=>⟨rfl,Nat.zero_le _,fun n a=>by cases a⟩
 |m+1,w::l=>by
  cases h:FC w with
  |none=>simp only [DA,h];exact ⟨rfl,Nat.zero_le _,fun n a=>by cases a⟩
  |some n=>
   obtain ⟨e,g,f⟩:=KS m l
   obtain ⟨c,d⟩:=P6 h
   simp only [DA,h]
   refine ⟨by rw [map_cons,cons_append,e,c],by rw [length_cons];omega,fun x b=> ?_⟩
   rcases List.mem_cons.1 b with rfl|b
   ·exact d
   ·exact f x b
theorem Mx:∀(m:Nat) (ns:List Int) (r:List (List UInt8)),(∀n ∈ ns,0≤n∧n≤999999999)→ns.length≤m→(ns.length=m∨r=[]∨FC (r.headD [])=none)→DA m (ns.map Lib.itoa++r)=(ns,r)
 |0,ns,r,_,h2,_=>by
  obtain rfl:=eq_nil_of_length_eq_zero (Nat.le_zero.1 h2)
  rfl
 |m+1,[],r,_,_,a=>by
  cases r with
  |nil=>rfl
  |cons w r=>
   rcases a with a|a|a
   ·cases a
   ·cases a
   ·have a:FC w=none:=a
    simp only [map_nil,nil_append,DA,a]
 |m+1,n::ns,r,h1,h2,a=>by
  have k:=Mx m ns r (fun x b=>h1 x (by simp [b])) (by simpa using h2) (by simpa using a)
  have e:=Pp (h1 n (by simp))
  simp only [map_cons,cons_append,DA,e,k]
def EM (s:List UInt8) (l:List (List UInt8)):Option (List (List UInt8)):=if s=[] then some l else match l with
 |[]=>none
 |x::r=>if x=s then some r else none
def NY (least most:Nat) (l:List (List UInt8)):Option (List Int×List (List UInt8)):=if (DA most l).1.length<least then none else some (DA most l)
def DS (s:List UInt8):BitVec 8:=((HX.find? fun r=>decide (r.word=s)).map fun r=>BitVec.ofNat 8 r.k).getD 0#8
def Jq (r:Rw) (l:List (List UInt8)):Option (List Int×Int×List (List UInt8)):=if r.shaped=true then (NY 1 65536 l).map fun q=>(q.1,0,q.2) else if r.nxt=[] then some ([],0,l) else (NY 1 1 l).map fun q=>([],q.1.headD 0,q.2)
def LK (r:Rw) (l:List (List UInt8)):Option (Int×List (List UInt8)):=if r.last=[] then some (0,l) else (EM r.last l).bind fun l5=>(NY 1 1 l5).map fun q=>(q.1.headD 0,q.2)
def DJ (l:List (List UInt8)):Option PN:=
 if (AZ (DS (l.headD []))).word=[] then none else
 (EM (AZ (DS (l.headD []))).word l).bind fun l1=>(NY (AZ (DS (l.headD []))).least (AZ (DS (l.headD []))).most l1).bind fun q=>
 (EM (AZ (DS (l.headD []))).nxt q.2).bind fun l3=>(Jq (AZ (DS (l.headD []))) l3).bind fun t=>(LK (AZ (DS (l.headD []))) t.2.2).bind fun e=>
 if e.2=[] then some (DS (l.headD []),q.1,t.1,t.2.1,e.1) else none
theorem IG {s:List UInt8} {l r:List (List UInt8)} (h:EM s l=some r):l=(if s=[] then [] else [s])++r:=by
 unfold EM at h
 split at h
 ·rename_i e;rw [if_pos e];exact Option.some.inj h
 ·rename_i e
  rw [if_neg e]
  split at h
  ·cases h
  ·split at h
   ·rename_i a;rw [a,Option.some.inj h];rfl
   ·cases h
theorem IA {a b:Nat} {l:List (List UInt8)} {q:List Int×List (List UInt8)} (h:NY a b l=some q):l=q.1.map Lib.itoa++q.2∧a≤q.1.length∧q.1.length≤b∧∀n ∈ q.1,0≤n∧n≤999999999:=by
 unfold NY at h
 split at h
 ·cases h
 ·rename_i e
  cases h
  obtain ⟨d,c,f⟩:=KS b l
  exact ⟨d.symm,by omega,c,f⟩
theorem QH {l:List (List UInt8)} {q:List Int×List (List UInt8)} (h:NY 1 1 l=some q):l=[Lib.itoa (q.1.headD 0)]++q.2:=by
 obtain ⟨a,b,c, -⟩:=IA h
 obtain ⟨n,e⟩:=List.length_eq_one_iff.1 (show q.1.length=1 by omega)
 rw [a,e];rfl
theorem QL {r:Rw} {l:List (List UInt8)} {t:List Int×Int×List (List UInt8)} (h:Jq r l=some t):l=(if r.shaped then t.1.map Lib.itoa else if r.nxt=[] then [] else [Lib.itoa t.2.1])++t.2.2:=by
 unfold Jq at h
 split at h
 ·rename_i e
  rw [if_pos e]
  obtain ⟨q,a,rfl⟩:=Option.map_eq_some_iff.1 h
  exact (IA a).1
 ·rename_i e
  rw [if_neg e]
  split at h
  ·rename_i b;rw [if_pos b];cases h;rfl
  ·rename_i b
   rw [if_neg b]
   obtain ⟨q,a,rfl⟩:=Option.map_eq_some_iff.1 h
   exact QH a
end Go.Proofs.YtblbopcaflaldaaGreatDoor

namespace Go.Dd
open Go Go.RowKit List
def dfr (f:FuncId) (caps:List Value):Deferred:={target:= .fn (.func f) caps.toArray,args:= #[]}
def Uv (P:Program) (fn:Func) (R:Value→World→Prop):BF:=bodyPostD P fn (fun e w' =>∃v,e= .returned v∧R v w')
section
variable {P : Program} {Q : BF} {n : Nat} {E : BT} {w w2 : World} {D : List Deferred} {l0 rest : List Oper} {ty : TypeId} {pos : String} {af : Array Edge} {f : FuncId} {caps : List Value} {fn : Func} {R : Value → World → Prop} {pv : Value}
theorem G9 {f : FuncId} {c : Code} {args : List Value} (e : P.funcs[f]? = some fn) (a : (fn.name == "runtime.NumGoroutine") = false) (g : fn.body = some c)
  (l:fn.ntmps=n) (k:Nat.ble args.length n=true) (h:Cg none [] P (Uv P fn R) n c (params 0 args) w):AN P f args w R:=by
 refine ⟨⟨fn,e,a,by simp [g]⟩,calls_of_wp_defers e g ((wpIn_wide (n:=9)).1 (h _ ⟨rfl, ?_,fun i v j=> ?_⟩))⟩
 ·have:args.length≤n:=Nat.le_of_ble_eq_true k
  simp [l];omega
 ·have d:=(DF args 0 i v j).2
  simp only [Nat.sub_zero] at d
  have b:i<args.length:=by
   rcases Nat.lt_or_ge i args.length with h|h
   ·exact h
   ·simp [getElem?_eq_none h] at d
  rw [Array.getElem?_append]
  simp only [size_toArray,b,if_true,getElem?_toArray]
  exact d
theorem Lg.defer {y:Operand} {ts:Array TypeId} (c:ev E y=some (.func (.func f) #[] caps.toArray)) (k:Lg none (dfr f caps::D) P l0 Q n rest E w):
  Lg none D P l0 Q n (⟨none, .defer {callee:= .value y,args:= #[],argTypes:=ts},ty,pos,af,none⟩::rest) E w:=fun a b=>wpListIn_plain rfl fun K e=>by
 refine ⟨fun _ _=>trivial, ?_⟩
 have d:(execOp a.eval ⟨none, .defer {callee:= .value y,args:= #[],argTypes:=ts},ty,pos,af,none⟩).run P w= .ok (.defer (dfr f caps)) w:=by
  simp [execOp,resolve,b.ev c,Deferred.ofValue,dfr]
 rw [show (rnd none).round=none from rfl,Oper.semAt_none,d]
 exact e _ _ (k _ ⟨by show dfr f caps::a.defers=_;rw [b.dfr],b.size,b.has⟩)
theorem Pg.retD (j:(invoke (.fn (.func f) caps.toArray) #[]).run P w= .ok (.enter f caps.toArray) w) (g:CallsD P f caps.toArray .returning w fun e d w' =>e= .returned (.tuple #[])∧d= .returning∧w' =w)
  (b:∀a,BV [dfr f caps] n E a→∃v,(results fn a.tmps).run P w= .ok v w∧R v w):Pg [dfr f caps] n E (Uv P fn R .ret) w:=fun a c=>by
 show Leaves P fn a.tmps _ a.defers .returning w
 rw [c.dfr]
 refine leaves_cons (by simp) j (g.mono ?_)
 rintro e d w' ⟨rfl,rfl,rfl⟩
 obtain ⟨v,i,h⟩:=b a c
 exact ⟨v,i,v,rfl,h⟩
theorem Pg.panD {g:World→Prop} (l:(invoke (.fn (.func f) caps.toArray) #[]).run P w= .ok (.enter f caps.toArray) w) (i:CallsD P f caps.toArray (.panicking [{v:=pv,recovered:=false}]) w fun e d w' =>e= .returned (.tuple #[])∧d= .panicking [{v:=pv,recovered:=true}]∧g w')
  (b:∀w2,g w2→∀a,BV [dfr f caps] n E a→∃v,(results fn a.tmps).run P w2= .ok v w2∧R v w2):Pg [dfr f caps] n E (Uv P fn R (.panic [{v:=pv,recovered:=false}])) w:=fun a c=>by
 show Leaves P fn a.tmps _ a.defers (.panicking _) w
 rw [c.dfr]
 refine leaves_cons (by simp) l (i.mono ?_)
 rintro e d w' ⟨rfl,rfl,h⟩
 obtain ⟨v,k,j⟩:=b w' h a c
 exact ⟨v,k,v,rfl,j⟩
theorem Pg.thenP {K:Act→World→Prop} {c:List PanicEntry} (h:Pg D n E (Q (.panic c)) w):Pg D n E (BS K Q (.panic c)) w:=h
theorem Pg.lowP {c:List PanicEntry} (h:Pg D n E (Q (.panic c)) w):Pw n E (HH D Q (.panic c)) w:=fun a b=>h _ (b.g D)
theorem Lw.callVQ {d:Nat} {y:Operand} {ts:Array TypeId} {K:World→Prop} (j:ev E y=some (.func (.func f) #[] caps.toArray)) (i:Nat.blt d n=true) (h:IE P f caps w pv R K)
  (m:∀w',K w' →Pw n E (Q (.panic [{v:=pv,recovered:=false}])) w') (k:∀v w',R v w' →Lw P l0 Q n rest ((d,v)::E) w'):Lw P l0 Q n (⟨some d, .call {callee:= .value y,args:= #[],argTypes:=ts},ty,pos,af,none⟩::rest) E w:=
 fun a c=>wpList_plain rfl fun o g=>by
  unfold Oper.wp
  have l:(execOp a.eval ⟨some d, .call {callee:= .value y,args:= #[],argTypes:=ts},ty,pos,af,none⟩).run P w= .ok (.enter f caps.toArray) w:=by
   simp [execOp,resolve,c.ev j,Deferred.ofValue,invoke,DN (P:=P) (w:=w) h.1]
  rw [l]
  refine h.2.mono fun e w' q=> ?_
  rcases q with ⟨v,rfl,b⟩|⟨rfl,b⟩
  ·exact g _ _ (k v w' b _ (c.put v i))
  ·exact m w' b a c
def Ut (P:Program) (fn:Func) (c₀:Frame) (cs:List Frame) (u:FrameMode) (R:Ending→FrameMode→World→Prop):BF:=fun e a w=>bodyPostS P fn c₀ cs R e a ({c₀ with mode:=u}::cs) w
theorem Gs {a:Frame} {cs:List Frame} {u:FrameMode} {R:Ending→FrameMode→World→Prop} (c:fn.results= #[]) (h:R (.returned (.tuple #[])) u w):Pw n E (Ut P fn a cs u R .normal) w:=fun _ b=>
 ⟨b.dfr,u,rfl, .tuple #[],by rw [results_none c],h⟩
theorem MT {f:FuncId} {args:List Value} {R:Ending→FrameMode→World→Prop} {l d:Nat} {c:Call} {rest:Code} {v:Value} {a:List PanicEntry} (m:P.funcs[f]? =some fn)
  (t:fn.body=some (.seq (.region l #[⟨some d, .call c,ty,pos, #[],none⟩] false) rest)) (u:∀(ρ:Operand→Value),(execOp ρ ⟨some d, .call c,ty,pos, #[],none⟩).run P w= .ok .recover w) (x:fn.ntmps=n) (p:Nat.ble args.length n=true) (k:Nat.blt d n=true)
  (h:∀e cs,Cw P (Ut P fn e cs (.panicking ({v,recovered:=true}::a)) R) n rest ((d,v)::params 0 args) w):CallsD P f args.toArray (.panicking ({v,recovered:=false}::a)) w R:=by
 refine callsD_of_wpS m t fun e cs s=>wpS_seq (wpS_region ?_)
 have b:BK n (params 0 args) {tmps:=args.toArray++Array.replicate (fn.ntmps - args.toArray.size) undef,defers:=[]}:=by
  refine ⟨rfl, ?_,fun i v o=> ?_⟩
  ·have:args.length≤n:=Nat.le_of_ble_eq_true p
   simp [x];omega
  ·have j:=(DF args 0 i v o).2
   simp only [Nat.sub_zero] at j
   have g:i<args.length:=by
    rcases Nat.lt_or_ge i args.length with h|h
    ·exact h
    ·simp [getElem?_eq_none h] at j
   rw [Array.getElem?_append]
   simp only [size_toArray,g,if_true,getElem?_toArray]
   exact j
 have r:=h e cs _ (b.put v k)
 have q:=wpS_of_wp (cs:={e with mode:= .panicking ({v,recovered:=true}::a)}::cs) (Q:=bodyPostS P fn e cs R) r
 simp only [size_toArray,length_cons,length_nil]
 show wpOpsS P _ _ [0] _ _ _
 simp only [wpOpsS,getElem?_toArray,getElem?_cons_zero,Region.wanted,u,recoverD,s]
 exact q
theorem MS {f:FuncId} {args:List Value} {R:Ending→FrameMode→World→Prop} {o d:Nat} {c:Call} {rest:Code} (p:P.funcs[f]? =some fn)
  (t:fn.body=some (.seq (.region o #[⟨some d, .call c,ty,pos, #[],none⟩] false) rest)) (u:∀(ρ:Operand→Value),(execOp ρ ⟨some d, .call c,ty,pos, #[],none⟩).run P w= .ok .recover w) (x:fn.ntmps=n) (r:Nat.ble args.length n=true) (m:Nat.blt d n=true)
  (h:∀a cs,Cw P (Ut P fn a cs .returning R) n rest ((d, .nilIface)::params 0 args) w):CallsD P f args.toArray .returning w R:=by
 refine callsD_of_wpS p t fun a cs k=>wpS_seq (wpS_region ?_)
 have b:BK n (params 0 args) {tmps:=args.toArray++Array.replicate (fn.ntmps - args.toArray.size) undef,defers:=[]}:=by
  refine ⟨rfl, ?_,fun i v q=> ?_⟩
  ·have:args.length≤n:=Nat.le_of_ble_eq_true r
   simp [x];omega
  ·have j:=(DF args 0 i v q).2
   simp only [Nat.sub_zero] at j
   have g:i<args.length:=by
    rcases Nat.lt_or_ge i args.length with h|h
    ·exact h
    ·simp [getElem?_eq_none h] at j
   rw [Array.getElem?_append]
   simp only [size_toArray,g,if_true,getElem?_toArray]
   exact j
 have e:({a with mode:= .returning}:Frame)=a:=by cases a;simp only at k;rw [k]
 have s:=h a cs _ (b.put .nilIface m)
 have l:=wpS_of_wp (cs:={a with mode:= .returning}::cs) (Q:=bodyPostS P fn a cs R) s
 rw [e] at l
 show wpOpsS P _ _ [0] _ _ _
 simp only [wpOpsS,getElem?_toArray,getElem?_cons_zero,Region.wanted,u,recoverD,k]
 exact l
theorem HJ {p b:Nat} {T:TypeId} {v:Value} {d:TypeDesc} (h:fn.results= #[.cell p ty]) (j:AP w b T [v]) (i:P.underlying ty=some d) (c:(match d with| .struct _| .array _ _=>true|_=>false)=false) {a:Act} (e:a.tmps[p]? =some (.pointer (some ⟨b,0,none⟩))):
  (results fn a.tmps).run P w= .ok v w:=by
 have k:w.cell? ⟨b,0,none⟩=some v:=by simp [World.cell?,show w.heap[b]? =_ from j]
 have g:(isAgg ty).run P w= .ok false w:=by
  simp [isAgg,run_underlying i]
  revert c
  cases d<;>simp
 simp [results,h,e,asAddr,loadVar,g,go_sem,k]
theorem Gd {x:Operand} {t s:TypeId} (c:P.underlying t=some (.interface (P.methodsAt t))) (d:ev E x=some .nilIface):Ex P n E (.binOp .eql t x (.const .nilIface) s) ty w (.bool true):=fun a b _ _ _ _=>by
 simp only [execOp,b.ev d,show a.eval (.const .nilIface)= .nilIface from rfl,eqGuard_nil_constR]
 simp [run_eql_nil_nil w t c]
theorem Ge {x:Operand} {t s T:TypeId} {u:Value} (c:P.underlying t=some (.interface (P.methodsAt t))) (d:ev E x=some (.iface T u)):Ex P n E (.binOp .eql t x (.const .nilIface) s) ty w (.bool false):=fun a b _ _ _ _=>by
 simp only [execOp,b.ev d,show a.eval (.const .nilIface)= .nilIface from rfl,show ∀(p q:Operand),eqGuard .eql t p q (.iface T u) .nilIface=pure () from fun _ _=>rfl]
 simp [run_eql_held_nil w t T u c]
theorem G1 {x:Operand} {t T:TypeId} {u:Value} (c:∀w,(Instr.typeAssert (.iface T u) t T true).run P w= .ok (.tuple #[u, .bool true]) w) (d:ev E x=some (.iface T u)):Ex P n E (.typeAssert x t T true) ty w (.tuple #[u, .bool true]):=fun a b _ _ _ _=>by
 simp [execOp,b.ev d,c w]
end
end Go.Dd

namespace Go.Proofs.YtblbopcaflaldaaGreatDoor
open Go Go.Dd Go.RowKit Go.Proofs.Tryz
open List hiding range
set_option maxRecDepth 100000
-- dd: text
theorem Se (i:Nat) (h:i<100) (w:World):AN prog 278 [.int .i64 (i:Int)] w (fun r w' =>r=st (Lib.decDigits i)∧w' =w):=
 GT func278 (by kernel_rfl) (by kernel_rfl) ((D8 i h w).mono fun e w' ⟨b,a⟩=>⟨_,b,rfl,a⟩)
theorem M0 (u:Nat) (b:1≤u) (a:u<18446744073709551616) (w:World) (h:Jv w):AN prog 279 [.int .u64 (u:Int)] w (fun r w' =>r= .int .i64 (Lib.nDigits u:Int)∧w' =w):=
 GT func279 (by kernel_rfl) (by kernel_rfl) ((D2 u b a w h.tab).mono fun e w' ⟨b,a⟩=>⟨_,b,rfl,a⟩)
def MP (b:UInt8):Value:= .int .u8 (b.toNat:Int)
theorem LG {w:World} {g n:Nat} (d:Array UInt8):w.grownBy ((Sort.putRow MP w g 0 d).drewN n) (some g):=by
 refine ⟨rfl,rfl,rfl,by show w.heap.size≤(Sort.putRow MP w g 0 d).heap.size;simp,fun k b a=> ?_⟩
 have:g≠k:=fun e=>a (by rw [e])
 show (Sort.putRow MP w g 0 d).heap[k]? =_
 simp [Sort.putRow,Sort.mapBlock,Array.getElem?_modify,this]
theorem NQ (b u:Nat) (T:TypeId) (cs:List Value) (w:World) (m:AP w b T cs) (v:∀j,j<Lib.nDigits u→cs[j]? =some (.int .u8 0)) (B:u<1000000000000) (y:Lib.nDigits u≤24):
  AN prog 280 [.slice (some ⟨b,0,none⟩) (Lib.nDigits u) 24, .int .u64 (u:Int)] w (fun r w' =>w.grownBy w' (some b)∧∃l,BE b8 w' (.slice (some ⟨b,0,none⟩) (Lib.nDigits u) 24) l∧l.map UInt8.ofBitVec=Lib.decDigits u):=by
 have o:Sort.Holds MP w b 0 (Array.replicate (Lib.nDigits u) (0:UInt8)):=fun j d=>by
  have i:j<Lib.nDigits u:=by simpa using d
  refine ⟨?_, ?_⟩
  ·rw [Nat.zero_add,m.cell,v j i,getElem!_pos _ j d]
   simp [MP]
  ·have k:w.heap[b]? =some (.cells cs.toArray T (0,0)):=m
   simp [World.frozen?,k]
 have g:(Array.replicate (Lib.nDigits u) (0:UInt8)).size=Lib.nDigits u:=by simp
 have q:=Dp b 0 24 u (Array.replicate (Lib.nDigits u) (0:UInt8)) w o (by rw [g];exact Lib.lt_pow_nDigits u) (by omega) (by rw [g];omega)
 rw [g] at q
 refine GT func280 (by kernel_rfl) (by kernel_rfl) (q.mono ?_)
 rintro e w' ⟨z,n,v',c,rfl,f⟩
 have s:c.toList=Lib.decDigits u:=by
  refine ext_getElem (by rw [Array.length_toList,f.size,Lib.decDigits_length]) fun j A t=> ?_
  rw [Lib.row_is_numeral f j t,Array.getElem_toList,getElem!_pos]
 refine ⟨_,z,LG c,c.toList.map UInt8.toBitVec,⟨by rw [length_map,Nat.mul_one],some ⟨b,0,none⟩,24, ?_,by rw [length_map,Array.length_toList,f.size];exact y,by decide,(fun h=>by cases h), ?_⟩, ?_⟩
 ·rw [length_map,Array.length_toList,f.size]
 ·rintro a ⟨⟩ j x p
  have d:j<c.size:=by
   have:=(List.getElem?_eq_some_iff.1 p).1
   simpa using this
  have:=Sort.cell?_putRow MP w b 0 _ c o (by rw [f.size,g]) j d
  rw [add_lit]
  show (Sort.putRow MP w b 0 c).cell? _=_
  rw [this,← p,getElem!_pos c j d]
  simp [MP,d]
 ·rw [map_map,← s]
  refine (map_congr_left fun a _=> ?_).trans (List.map_id _)
  rfl
theorem TU:Hg prog 324 [.int .u8 0, .int .u8 0, .int .u8 0, .int .u8 0, .int .u8 0, .int .u8 0, .int .u8 0, .int .u8 0, .int .u8 0, .int .u8 0, .int .u8 0, .int .u8 0, .int .u8 0, .int .u8 0, .int .u8 0, .int .u8 0, .int .u8 0, .int .u8 0, .int .u8 0, .int .u8 0, .int .u8 0, .int .u8 0, .int .u8 0, .int .u8 0] 24:=⟨⟨_,(show Tryz.prog.info? 324=some Tryz.t324 by kernel_rfl),rfl,rfl,_,rfl,rfl⟩⟩
theorem N9 {u:Nat} (h:u<1000000000000):Lib.nDigits u≤24:=by
 have:=Lib.itoa_length_le (u:Int) (by omega) (by omega)
 rw [Lib.itoa_nonneg,Lib.decDigits_length] at this
 omega
theorem P9 (u:Nat) (w:World) (h:Jv w) (k:u<1000000000000):AN prog 289 [.int .u64 (u:Int), .int .i64 10] w (fun r w' =>r=st (Lib.decDigits u)∧Below w.heap.size w w'):=by
 have b:=Below.refl w.heap.size w
 refine A4 (n:=32) func289 O<|Ai<|Ab O<|A8<|Ad O<|Aa (Cn O O) O<|Ak<|Cq O true (rfl)<|Ap<|Ai<|Ad O<|B8 O<|Ak<|Am O ?_ ?_
 ·intro g
  have g:u<100:=by have:=AE g;omega
  refine Ai<|Ad O<|Aa (D4 Nm Hl O (by omega)) O<|Ah O O (Se u g w) ?_
  rintro _ i ⟨rfl,rfl⟩
  exact Ab rfl<|Bw<|A0<|Al rfl rfl<|⟨rfl,b⟩
 intro g
 have g:100≤u:=by have:=AD g;omega
 refine Ci<|Da TU O ?_
 rintro c i m d e p
 have y:=e.size
 replace b:=bt b e
 have f:=h.bs e
 refine A3<|Ad O<|Ah O O (M0 u (by omega) (by omega) i f) ?_
 rintro _ t ⟨rfl,rfl⟩
 have a:=N9 k
 refine Ab O<|A3<|Ad O<|Aa (Ex.arrH underlying324 U8 O O a) O<|Ad O ?_
 refine Ah O O (NQ c u _ _ t d (fun j x=>by show (replicate 24 (Value.int .u8 0))[j]? =_;rw [List.getElem?_replicate,if_pos (by omega)]) k a) ?_
 rintro _ v ⟨o,l,s,q⟩
 refine A3<|Ad O<|Aa (Ex.arrH underlying324 U8 O O a) O<|Aa (Ex.as (Ex.strOf AO HC Mh O s) (by unfold T2;rw [q])) O<|Ab O<|Bw<|Al O O ?_
 exact ⟨rfl,b.grown o (AA b) (by rintro _ ⟨⟩;omega)⟩
theorem Rs (u:Nat) (w:World) (h:Jv w) (a:u<1000000000000):AN prog 274 [.int .u64 (u:Int), .int .i64 10] w (fun r w' =>r=st (Lib.decDigits u)∧Below w.heap.size w w'):=by
 refine A4 (n:=8) func274 O<|Ai<|Ab O<|A3<|Ad O<|Ad O<|Ah O O (P9 u w h a) ?_
 rintro _ c ⟨rfl,b⟩
 exact Ab rfl<|As<|Al rfl rfl<|⟨rfl,b⟩
theorem NV (w:World) (T:TypeId) (s:ByteArray):Below w.heap.size w (Lib.bytesWorld w T s):=by
 exact ⟨rfl,rfl,rfl,by rw [Lib.bytesWorld_size];omega,fun k a=>Lib.bytesWorld_at_old w T s k a⟩
theorem Mt (s:List UInt8) (w:World) (h:Jv w) (l:s.length≤281474976710656):AN prog 273 [st s, .int .i64 10, .int .i64 32] w (fun r w' =>Below w.heap.size w w' ∧((∃u:Nat,Lib.parseUintB 32 s= .ok u∧u≤4294967295∧r= .tuple #[.int .u64 (u:Int), .nilIface])∨((∀u,Lib.parseUintB 32 s≠ .ok u)∧∃v T x,0≤v∧v≤4294967295∧r= .tuple #[.int .u64 v, .iface T x]))):=by
 refine GT func273 (by kernel_rfl) (by kernel_rfl) ?_
 have e:(ba s).data.toList=s:=EW s
 have z:(ba s).size=s.length:=J7 s
 obtain ⟨k,j,f⟩:=h.es
 obtain ⟨m,i,g⟩:=h.er
 cases hp:Lib.parseUintB 32 s with
 |ok u=>
  refine (Ds (ba s) (by rw [z];omega) u (by rw [e];exact hp) w).mono ?_
  rintro e w' ⟨a,d⟩
  refine ⟨_,a, ?_, .inl ⟨u,rfl,Lib.parseUintB_le hp,rfl⟩⟩
  rcases d with rfl|rfl
  ·exact Below.refl _ _
  ·exact NV _ _ _
 |range=>
  refine (Dj (ba s) (by rw [z];omega) (by rw [e];exact hp) _ w g (.inr ⟨_,_,rfl⟩)).mono ?_
  rintro e w' ⟨N,a, -, -,c⟩
  exact ⟨_,a,c, .inr ⟨(fun u b=>by cases b),_,_,_,(by decide),(by decide),rfl⟩⟩
 |_=>
  refine (Dh (ba s) (by rw [z];omega) (by rw [e];exact hp) _ w f (.inr ⟨_,_,rfl⟩)).mono ?_
  rintro e w' ⟨N,a, -, -,c⟩
  exact ⟨_,a,c, .inr ⟨(fun u b=>by cases b),_,_,_,(by decide),(by decide),rfl⟩⟩
theorem QJ (s:List UInt8) (w:World) (h:Jv w) (m:s.length≤281474976710656):AN prog 246 [st s] w (fun r w' =>Below w.heap.size w w' ∧∃v,r= .tuple #[v, .bool (FC s).isSome]∧∀n,FC s=some n→v= .int .i64 n):=by
 have b:=Po s
 refine A4 (n:=26) func246 O<|Ai<|Ab O<|Ab O<|A3<|Ad O<|Ah O O (Mt s w h m) ?_
 rintro _ f ⟨c,⟨u,e,o,rfl⟩|⟨d,v,T,x,j,l,rfl⟩⟩
 ·rw [e] at b
  simp only at b
  refine Ad O<|Aa (Az (i:=0) O O) O<|Aa (Az (i:=1) O O) O<|Ab O<|Ab O<|A3<|Ad O<|Aa (D4 Nm Hl O (by omega)) O<|Ad O<|Aa (Gd (by kernel_rfl) O) O<|Ad O<|Cx 15 (v' := .bool true) O (cngA Value.bool (rfl))<|Aj (dj:=15) O O<|Ad O<|Aj (dj:=15) O O<|Aa (Gc Mh O) O<|Aj (dj:=15) O O<|Aa (Ef O O) O<|Bt O<|Ad O ?_
  refine Cc 20 O ?_ ?_
  ·intro g
   have g:s.length≤9:=by have:=AE g;omega
   refine Aj (dj:=20) O O<|Ad O<|Aj (dj:=20) O O<|Ah O O (Rs u f (h.bs c) (by omega)) ?_
   rintro _ p ⟨rfl,a⟩
   refine Aj (dj:=20) O O<|Ad O<|Aj (dj:=20) O O<|Aa (E2 O O) O<|Bt O<|Ab O<|Ab O<|As<|B2 O O O ?_
   refine ⟨bt c a, .int .i64 (u:Int), ?_,fun n a=> ?_⟩
   ·rw [b]
    by_cases e2:Lib.decDigits u=s
    ·rw [decide_eq_true e2,if_pos ⟨g,e2⟩];rfl
    ·rw [decide_eq_false e2,if_neg fun k=>e2 k.2];rfl
   ·rw [b] at a
    split at a
    ·cases a;rfl
    ·cases a
  intro g
  have g:¬s.length≤9:=by have:=AD g;omega
  rw [if_neg fun k=>g k.1] at b
  refine Ae (dj:=20) O O O O<|Ae (dj:=20) O O O O<|Ae (dj:=20) O O O O<|Ae (dj:=20) O O O O<|Co O<|Ab O<|Ab O<|As<|B2 O O O ?_
  exact ⟨c,_,(by rw [b];rfl),fun n a=>by rw [b] at a;cases a⟩
 have b:FC s=none:=by
  rw [b]
  cases hq:Lib.parseUintB 32 s with
  |ok u=>exact absurd hq (d u)
  |_=>rfl
 refine Ad O<|Aa (Az (i:=0) O O) O<|Aa (Az (i:=1) O O) O<|Ab O<|Ab O<|A3<|Ad O<|Aa (D4 Nm Hl O (by omega)) O<|Ad O<|Aa (Ge (by kernel_rfl) O) O<|Ad O<|Cx 15 (v' := .bool false) O (cngA Value.bool (rfl))<|Ae (dj:=15) O O O O<|Ae (dj:=15) O O O O<|Ae (dj:=15) O O O O<|Co O<|Ad O<|Ae (dj:=20) O O O O<|Ae (dj:=20) O O O O<|Ae (dj:=20) O O O O<|Ae (dj:=20) O O O O<|Co O<|Ab O<|Ab O<|As<|B2 O O O ?_
 exact ⟨c,_,(by rw [b];rfl),fun n a=>by rw [b] at a;cases a⟩
end Go.Proofs.YtblbopcaflaldaaGreatDoor

namespace Go.Proofs.YtblbopcaflaldaaGreatDoor
open Go Go.Dd Go.RowKit List
set_option maxRecDepth 100000
abbrev Te:TypeId:=55

structure Bk (w:World) (lo A:Nat) (n:Int) (hb hi hn:List Hd) (ub ui un:Value):Prop where
 box:AP w A Te [.int .i64 n,ub,ui,un, .slice none 0 0, .slice none 0 0, .slice none 0 0, .slice none 0 0, .slice none 0 0, .slice none 0 0, .slice none 0 0, .slice none 0 0, .slice none 0 0, .slice none 0 0, .slice none 0 0, .slice none 0 0]
 ob:w.ownsRow lo 179 3 ub hb.length (CY hb)
 oi:w.ownsRow lo 182 3 ui hi.length (CY hi)
 on:w.ownsRow lo 185 3 un hn.length (CY hn)
 loA:lo≤A
 ab:ub.ownBlock≠some A
 ai:ui.ownBlock≠some A
 an:un.ownBlock≠some A
 bi:IF ub ui
 bn:IF ub un
 nn:IF ui un
 many:hb.length+hi.length+hn.length≤900
 num:0≤n∧n≤900
theorem Bk.size {w:World} {a A:Nat} {n:Int} {d e f:List Hd} {b c un:Value} (h:Bk w a A n d e f b c un):a<w.heap.size:=Nat.lt_of_le_of_lt h.loA (AW h.box)
theorem Bk.bs {w w' :World} {d A:Nat} {n:Int} {c e f:List Hd} {a b un:Value} (h:Bk w d A n c e f a b un) (g:Below w.heap.size w w'):Bk w' d A n c e f a b un:=
 ⟨h.box.bs g,AF h.ob g,AF h.oi g,AF h.on g,h.loA,h.ab,h.ai,h.an,h.bi,h.bn,h.nn,h.many,h.num⟩
theorem Bk.low {w w' :World} {a A:Nat} {n:Int} {i k l:List Hd} {c g un u:Value} (h:Bk w a A n i k l c g un) (f:∀b,u.ownBlock=some b→a≤b) (j:FW (fun b=>b=A∨u.ownBlock=some b) w w'):Below a w w' :=j.to_below (fun b d=>by
 rcases d with rfl|e
 ·exact h.loA
 ·exact f b e) (Nat.le_of_lt h.size)

theorem _root_.Go.Dd.Twn.own {α:Type} {w:World} {base:Nat} {T:TypeId} {enc:α→Value} {a v:Value} {l:List α} (h:Twn w base T enc a v l):w.ownsRow base T 1 v l.length (l.map enc):=by
 obtain ⟨b,cap,rfl,c⟩:=h
 exact H8 c (by simp)
end Go.Proofs.YtblbopcaflaldaaGreatDoor

namespace Go.Proofs.YtblbopcaflaldaaGreatDoor
open Go Go.Dd Go.RowKit List Go.Proofs.Tryz
set_option maxRecDepth 100000
structure EY (w:World) (lo hi:Nat) (c:T4):Prop where
 rx:AQ w lo 3 1 c.x c.s.length (c.s.map (Value.int .i64))
 ry:AQ w lo 21 1 c.y c.l.length (c.l.map i32)
 bx:∀b,c.x.ownBlock=some b→lo≤b∧b<hi
 by' :∀b,c.y.ownBlock=some b→lo≤b∧b<hi
 apart:IF c.y c.x
theorem EY.bs {w w' :World} {a b:Nat} {c:T4} (h:EY w a b c) (g:Below w.heap.size w w'):EY w' a b c:=⟨h.rx.bs g,h.ry.bs g,h.bx,h.by',h.apart⟩
theorem EY.below {w w' :World} {d a B:Nat} {c:T4} (h:EY w d a c) (g:Below B w w') (f:a≤B):EY w' d a c:=
 ⟨h.rx.heap fun b e=>g.block b (by have:=h.bx b e;omega),h.ry.heap fun b e=>g.block b (by have:=h.by' b e;omega),h.bx,h.by',h.apart⟩
theorem EY.at {w:World} {a b:Nat} {c:T4} (h:EY w a b c):c.at w:=⟨h.rx.slT,h.ry.slT⟩
theorem EY.wide {w:World} {g i a d:Nat} {c:T4} (h:EY w g i c) (f:a≤g) (j:i≤d):EY w a d c:=
 ⟨h.rx.mono f,h.ry.mono f,fun b e=>by have:=h.bx b e;omega,fun b e=>by have:=h.by' b e;omega,h.apart⟩
def AM (w:World):Nat→Nat→List T4→Prop
 |base,top,[]=>base≤top
 |base,top,c::cs=>∃lo hi,base≤lo∧lo≤hi∧EY w lo hi c∧AM w hi top cs
theorem AM.le:∀{w:World} {cs:List T4} {base a:Nat},AM w base a cs→base≤a
 |_,[],_,_,h=>h
 |_,_::_,_,_,⟨_,_,h1,h2,_,h3⟩=>by have:=h3.le;omega
theorem AM.bs {w w' :World} (g:Below w.heap.size w w'):∀{cs:List T4} {base a:Nat},AM w base a cs→AM w' base a cs
 |[],_,_,h=>h
 |_::_,_,_,⟨lo,hi,h1,h2,h3,h4⟩=>⟨lo,hi,h1,h2,h3.bs g,AM.bs g h4⟩
theorem AM.each:∀{w:World} {cs:List T4} {base b:Nat},AM w base b cs→∀c ∈ cs,EY w base b c
 |_,[],_,_,_=>fun c a=>by cases a
 |_,d::ds,_,_,⟨lo,hi,h1,h2,h3,h4⟩=>fun c a=>by
  have:=h4.le
  rcases List.mem_cons.1 a with rfl|a
  ·exact h3.wide h1 (by omega)
  ·exact (h4.each c a).wide (by omega) (AU _)
structure Lp (w:World) (base top:Nat) (hi hn:List Hd):Prop where
 ki:K2 w base 3 1 hi
 kn:K2 w base 21 1 hn
 li:∀b,Jt hi b→b<top
 ln:∀b,Jt hn b→b<top
 xin:∀b,Jt hi b→¬Jt hn b
theorem Lp.bs {w w' :World} {base a:Nat} {b c:List Hd} (h:Lp w base a b c) (g:Below w.heap.size w w'):Lp w' base a b c:=⟨h.ki.bs g,h.kn.bs g,h.li,h.ln,h.xin⟩
theorem Lp.below {w w' :World} {base a:Nat} {d f:List Hd} (h:Lp w base a d f) (g:Below a w w'):Lp w' base a d f:=
 ⟨⟨h.ki.toKOk,fun x c=>(h.ki.own x c).heap fun b e=>g.block b (h.li b ⟨x,c,e⟩)⟩,⟨h.kn.toKOk,fun x c=>(h.kn.own x c).heap fun b e=>g.block b (h.ln b ⟨x,c,e⟩)⟩,h.li,h.ln,h.xin⟩
structure DL (w:World) (lo hi:Nat) (x y:Value) (a:T4):Prop where
 held:EY w lo hi ⟨x,y,a.s,a.l⟩
 tx:Twn w lo 3 (Value.int .i64) (Value.int .i64 (77)) x a.s
 ty:Twn w lo 21 i32 (i32 (77#32)) y a.l
theorem DL.bs {w w' :World} {b c:Nat} {x y:Value} {a:T4} (h:DL w b c x y a) (g:Below w.heap.size w w'):DL w' b c x y a:=⟨h.held.bs g,h.tx.bs g,h.ty.bs g⟩
theorem Twn.mono {α:Type} {w:World} {B c:Nat} {T:TypeId} {enc:α→Value} {a v:Value} {l:List α} (h:Twn w B T enc a v l) (e:c≤B):Twn w c T enc a v l:=by
 obtain ⟨b,cap,rfl,d⟩:=h
 exact ⟨b,cap,rfl,CR d e⟩
theorem Twn.by {α:Type} {w w' :World} {B r:Nat} {T:TypeId} {enc:α→Value} {a v:Value} {l:List α} (h:Twn w B T enc a v l) (d:w.grownBy w' (some r)) (f:r<B):Twn w' B T enc a v l:=by
 obtain ⟨b,cap,rfl,c⟩:=h
 exact ⟨b,cap,rfl,c.kept d (.inr fun e=>by have:=(AB c r e).1;omega)⟩
theorem RT (a:T4) (w:World) (g:a.at w) (D:a.s.length≤4194304) (C:a.l.length≤4194304):
  AN prog 140 [a.v] w (fun r w' =>Below w.heap.size w w' ∧∃x y,r= .agg #[x,y]∧DL w' w.heap.size w'.heap.size x y a):=by
 have f:=Below.refl w.heap.size w
 refine A4 (n:=10) func140 O<|Ai<|An (Xw.box (cs:=[a.x,a.y]) O O) O ?_
 rintro _ L ⟨rfl,b,d, -⟩
 have f:=f.bs d
 have g:=g.bs d
 have B:=AA f
 refine An (Du GF) O ?_
 rintro _ Q ⟨rfl,c,d,M⟩
 have f:=f.bs d
 have g:=g.bs d
 have b:=b.bs d
 refine Ak<|Ap ?_
 refine Cw.any mixed (fun A u _=> ?_)
 have f:=f.bs u
 have g:=g.bs u
 have b:=b.bs u
 have c:=c.bs u
 clear u
 refine Aw.take (i:=0) (Av Bh) O (by kernel_rfl) (by kernel_rfl) (by kernel_rfl) (fun _=>Ch underlying75 O (BL _)) O<|Aw.take (i:=3) (Av Bh) O (by kernel_rfl) (by kernel_rfl) (by kernel_rfl) (fun _=>Ch underlying75 O (FY _)) O ?_
 have E:=AA f
 have N:L.heap.size<A.heap.size:=AW c
 refine Gp (i:=1) (j:=4) (by kernel_rfl) O O ?_ ?_
 ·refine Aa (Ao (AY _) O ‹_› rfl) O ?_
  refine Aw.back ?_
  refine Gp (i:=2) (j:=4) (by kernel_rfl) O O ?_ ?_
  ·refine Ah O O (FA a.x a.s A g.1 D) ?_
   rintro x t ⟨h,d⟩
   have m:=AB h.own
   have H:=d.size
   have f:=f.bs d
   have g:=g.bs d
   have b:=b.bs d
   have c:=c.bs d
   refine Aw.back<|Aw.only (i:=4) (by kernel_rfl) O<|Aa (Ao (GG _) O ‹_› rfl) O ?_
   refine Aw.back<|Aw.only (i:=5) (by kernel_rfl) O<|Ah O O (FP a.y a.l t g.2 C) ?_
   rintro y K ⟨q,d⟩
   have k:=AB q.own
   have F:=d.size
   have f:=f.bs d
   have g:=g.bs d
   have b:=b.bs d
   have c:=c.bs d
   have h:=h.bs d
   refine Aw.back<|Aw.only (i:=6) (by kernel_rfl) O<|Aa (Bi (vs:=[(0,x),(1,y)]) (cs:=[x,y]) O (LS _ _ h.sl.one q.sl.one)) O<|Aw.back<|Aw.only (i:=7) (by kernel_rfl) O<|A6 (Ck (cs:=[x,y]) O O O O (by simp [h.sl.one',q.sl.one']) c O) ?_
   rintro G ⟨J,p, -⟩
   have s:=f.grown p (AA f) (by rintro _ ⟨⟩;exact B)
   have I:=p.size
   have l:=Twn.mono (Twn.by h p (by omega)) E
   have o:=Twn.mono (Twn.by q p (by omega)) (show w.heap.size≤t.heap.size by omega)
   refine Aw.back<|Aw.done (by kernel_rfl)<|Ay<|B9<|Dq<|D9 O O ‹_› underlying75 O O O ?_
   exact ⟨s,x,y,rfl,⟨.inl l.own, .inl o.own,fun b e=>by have:=m b e;omega,fun b e=>by have:=k b e;omega,fun b z v=>by have:=m b v;have:=k b z;omega⟩,l,o⟩
  ·refine Aa (Ao (GG _) O ‹_› rfl) O ?_
   refine Aw.back<|Aw.only (i:=2) (by kernel_rfl) O<|Ah O O (FA a.x a.s A g.1 D) ?_
   rintro x t ⟨h,d⟩
   have m:=AB h.own
   have H:=d.size
   have f:=f.bs d
   have g:=g.bs d
   have b:=b.bs d
   have c:=c.bs d
   refine Aw.back<|Aw.only (i:=5) (by kernel_rfl) O<|Ah O O (FP a.y a.l t g.2 C) ?_
   rintro y K ⟨q,d⟩
   have k:=AB q.own
   have F:=d.size
   have f:=f.bs d
   have g:=g.bs d
   have b:=b.bs d
   have c:=c.bs d
   have h:=h.bs d
   refine Aw.back<|Aw.only (i:=6) (by kernel_rfl) O<|Aa (Bi (vs:=[(0,x),(1,y)]) (cs:=[x,y]) O (LS _ _ h.sl.one q.sl.one)) O<|Aw.back<|Aw.only (i:=7) (by kernel_rfl) O<|A6 (Ck (cs:=[x,y]) O O O O (by simp [h.sl.one',q.sl.one']) c O) ?_
   rintro G ⟨J,p, -⟩
   have s:=f.grown p (AA f) (by rintro _ ⟨⟩;exact B)
   have I:=p.size
   have l:=Twn.mono (Twn.by h p (by omega)) E
   have o:=Twn.mono (Twn.by q p (by omega)) (show w.heap.size≤t.heap.size by omega)
   refine Aw.back<|Aw.done (by kernel_rfl)<|Ay<|B9<|Dq<|D9 O O ‹_› underlying75 O O O ?_
   exact ⟨s,x,y,rfl,⟨.inl l.own, .inl o.own,fun b e=>by have:=m b e;omega,fun b e=>by have:=k b e;omega,fun b z v=>by have:=m b v;have:=k b z;omega⟩,l,o⟩
 ·refine Aa (Ao (GG _) O ‹_› rfl) O ?_
  refine Aw.back<|Aw.only (i:=1) (by kernel_rfl) O<|Aa (Ao (AY _) O ‹_› rfl) O ?_
  refine Aw.back<|Aw.only (i:=2) (by kernel_rfl) O<|Ah O O (FA a.x a.s A g.1 D) ?_
  rintro x t ⟨h,d⟩
  have m:=AB h.own
  have H:=d.size
  have f:=f.bs d
  have g:=g.bs d
  have b:=b.bs d
  have c:=c.bs d
  refine Aw.back<|Aw.only (i:=5) (by kernel_rfl) O<|Ah O O (FP a.y a.l t g.2 C) ?_
  rintro y K ⟨q,d⟩
  have k:=AB q.own
  have F:=d.size
  have f:=f.bs d
  have g:=g.bs d
  have b:=b.bs d
  have c:=c.bs d
  have h:=h.bs d
  refine Aw.back<|Aw.only (i:=6) (by kernel_rfl) O<|Aa (Bi (vs:=[(0,x),(1,y)]) (cs:=[x,y]) O (LS _ _ h.sl.one q.sl.one)) O<|Aw.back<|Aw.only (i:=7) (by kernel_rfl) O<|A6 (Ck (cs:=[x,y]) O O O O (by simp [h.sl.one',q.sl.one']) c O) ?_
  rintro G ⟨J,p, -⟩
  have s:=f.grown p (AA f) (by rintro _ ⟨⟩;exact B)
  have I:=p.size
  have l:=Twn.mono (Twn.by h p (by omega)) E
  have o:=Twn.mono (Twn.by q p (by omega)) (show w.heap.size≤t.heap.size by omega)
  refine Aw.back<|Aw.done (by kernel_rfl)<|Ay<|B9<|Dq<|D9 O O ‹_› underlying75 O O O ?_
  exact ⟨s,x,y,rfl,⟨.inl l.own, .inl o.own,fun b e=>by have:=m b e;omega,fun b e=>by have:=k b e;omega,fun b z v=>by have:=m b v;have:=k b z;omega⟩,l,o⟩
end Go.Proofs.YtblbopcaflaldaaGreatDoor

namespace Go.Proofs.YtblbopcaflaldaaGreatDoor
open Go Go.Dd Go.RowKit List
set_option maxRecDepth 100000
structure NK (w:World) (lo hi:Nat) (c:N5):Prop where
 rx:AQ w lo 3 1 c.x c.i.length (c.i.map (Value.int .i64))
 ry:AQ w lo 3 1 c.y c.s.length (c.s.map (Value.int .i64))
 bx:∀b,c.x.ownBlock=some b→lo≤b∧b<hi
 by' :∀b,c.y.ownBlock=some b→lo≤b∧b<hi
 apart:IF c.x c.y
theorem NK.bs {w w' :World} {a b:Nat} {c:N5} (h:NK w a b c) (g:Below w.heap.size w w'):NK w' a b c:=⟨h.rx.bs g,h.ry.bs g,h.bx,h.by',h.apart⟩
theorem NK.below {w w' :World} {d a B:Nat} {c:N5} (h:NK w d a c) (g:Below B w w') (f:a≤B):NK w' d a c:=
 ⟨h.rx.heap fun b e=>g.block b (by have:=h.bx b e;omega),h.ry.heap fun b e=>g.block b (by have:=h.by' b e;omega),h.bx,h.by',h.apart⟩
theorem AC {w w' :World} {a sz k:Nat} {E T:TypeId} {v:Value} {xs:List Value} {r:Option Nat} (h:AQ w a E sz v k xs) (g:w.grownBy w' r) (f:∀b,r=some b→∃cs,AP w b T cs) (i:E≠T):AQ w' a E sz v k xs:=
 h.heap fun b e=>g.block b (h.lt b e).2 fun j=>by
  obtain ⟨cs,c⟩:=f b j.symm
  obtain ⟨ds,d⟩:=h.ty e
  exact i (AX d c)
theorem NK.other {w w' :World} {e f:Nat} {T:TypeId} {c:N5} {r:Option Nat} (h:NK w e f c) (g:w.grownBy w' r) (a:∀b,r=some b→∃cs,AP w b T cs) (d:3≠T):NK w' e f c:=
 ⟨AC h.rx g a d,AC h.ry g a d,h.bx,h.by',h.apart⟩
theorem NK.wide {w:World} {g i a d:Nat} {c:N5} (h:NK w g i c) (f:a≤g) (j:i≤d):NK w a d c:=
 ⟨h.rx.mono f,h.ry.mono f,fun b e=>by have:=h.bx b e;omega,fun b e=>by have:=h.by' b e;omega,h.apart⟩
theorem NK.at {w:World} {a b:Nat} {c:N5} (h:NK w a b c):N5.at w c:=⟨h.rx.slT,h.ry.slT⟩
def GK (w:World):Nat→Nat→List N5→Prop
 |base,top,[]=>base≤top
 |base,top,c::cs=>∃lo hi,base≤lo∧lo≤hi∧NK w lo hi c∧GK w hi top cs
theorem GK.le:∀{w:World} {cs:List N5} {base a:Nat},GK w base a cs→base≤a
 |_,[],_,_,h=>h
 |_,_::_,_,_,⟨_,_,h1,h2,_,h3⟩=>by have:=h3.le;omega
theorem GK.bs {w w' :World} (g:Below w.heap.size w w'):∀{cs:List N5} {base a:Nat},GK w base a cs→GK w' base a cs
 |[],_,_,h=>h
 |_::_,_,_,⟨lo,hi,h1,h2,h3,h4⟩=>⟨lo,hi,h1,h2,h3.bs g,GK.bs g h4⟩
theorem GK.below {w w' :World} {B:Nat} (g:Below B w w'):∀{cs:List N5} {base a:Nat},GK w base a cs→a≤B→GK w' base a cs
 |[],_,_,h,_=>h
 |_::_,_,_,⟨lo,hi,h1,h2,h3,h4⟩,hB=>⟨lo,hi,h1,h2,h3.below g (Nat.le_trans h4.le hB),GK.below g h4 hB⟩
theorem GK.other {w w' :World} {T:TypeId} {r:Option Nat} (g:w.grownBy w' r) (c:∀b,r=some b→∃cs,AP w b T cs) (d:3≠T):∀{cs:List N5} {base a:Nat},GK w base a cs→GK w' base a cs
 |[],_,_,h=>h
 |_::_,_,_,⟨lo,hi,q1,q2,q3,q4⟩=>⟨lo,hi,q1,q2,q3.other g c d,GK.other g c d q4⟩
theorem GK.snoc {w:World} {c:N5} {b d:Nat} (f:NK w b d c) (e:b≤d):∀{cs:List N5} {base a:Nat},GK w base a cs→a≤b→GK w base d (cs++[c])
 |[],_,_,h,ht=>⟨b,d,Nat.le_trans h ht,e,f,AU _⟩
 |_::_,_,_,⟨l1,h1,q1,q2,q3,q4⟩,ht=>⟨l1,h1,q1,q2,q3,GK.snoc f e q4 ht⟩
theorem GK.top {w:World} {b:Nat}:∀{cs:List N5} {base a:Nat},GK w base a cs→a≤b→GK w base b cs
 |[],_,_,h,ht=>Nat.le_trans h ht
 |_::_,_,_,⟨l1,h1,q1,q2,q3,q4⟩,ht=>⟨l1,h1,q1,q2,q3,GK.top q4 ht⟩
theorem GK.each:∀{w:World} {cs:List N5} {base b:Nat},GK w base b cs→∀c ∈ cs,NK w base b c
 |_,[],_,_,_=>fun c a=>by cases a
 |_,d::ds,_,_,⟨lo,hi,h1,h2,h3,h4⟩=>fun c a=>by
  have:=h4.le
  rcases List.mem_cons.1 a with rfl|a
  ·exact h3.wide h1 (by omega)
  ·exact (h4.each c a).wide (by omega) (AU _)
theorem GK.low {w:World} {cs:List N5} {base a b:Nat} (h:GK w base b cs) (d:a≤base):GK w a b cs:=by
 cases cs with
 |nil=>exact Nat.le_trans d h
 |cons c cs=>
  obtain ⟨g,i,f,e⟩:=h
  exact ⟨g,i,Nat.le_trans d f,e⟩
theorem GK.gn {w:World} {cs:List N5} {base b e:Nat} {v:Value} (h:GK w base b cs) (c:AQ w e 79 5 v cs.length (GI N5.cells cs)):GN w v cs:=⟨c.sl,fun a d=>(h.each a d).at⟩
theorem EY.other {w w' :World} {d e:Nat} {T:TypeId} {c:T4} {r:Option Nat} (h:EY w d e c) (g:w.grownBy w' r) (a:∀b,r=some b→∃cs,AP w b T cs) (i:3≠T) (f:21≠T):EY w' d e c:=
 ⟨AC h.rx g a i,AC h.ry g a f,h.bx,h.by',h.apart⟩
theorem AM.other {w w' :World} {T:TypeId} {r:Option Nat} (g:w.grownBy w' r) (d:∀b,r=some b→∃cs,AP w b T cs) (e:3≠T) (c:21≠T):∀{cs:List T4} {base a:Nat},AM w base a cs→AM w' base a cs
 |[],_,_,h=>h
 |_::_,_,_,⟨lo,hi,q1,q2,q3,q4⟩=>⟨lo,hi,q1,q2,q3.other g d e c,AM.other g d e c q4⟩
theorem AM.snocM {w:World} {c:T4} {b d:Nat} (f:EY w b d c) (e:b≤d):∀{cs:List T4} {base a:Nat},AM w base a cs→a≤b→AM w base d (cs++[c])
 |[],_,_,h,ht=>⟨b,d,Nat.le_trans h ht,e,f,AU _⟩
 |_::_,_,_,⟨l1,h1,q1,q2,q3,q4⟩,ht=>⟨l1,h1,q1,q2,q3,AM.snocM f e q4 ht⟩
theorem AM.topM {w:World} {b:Nat}:∀{cs:List T4} {base a:Nat},AM w base a cs→a≤b→AM w base b cs
 |[],_,_,h,ht=>Nat.le_trans h ht
 |_::_,_,_,⟨l1,h1,q1,q2,q3,q4⟩,ht=>⟨l1,h1,q1,q2,q3,AM.topM q4 ht⟩
structure Od (w:World) (lo hi:Nat) (v u:Value) (ls:List N5) (ts:List T4):Prop where
 nodes:∃mid,GK w lo mid ls∧AM w mid hi ts
 nv:AQ w lo 79 5 v ls.length (GI N5.cells ls)
 wv:AQ w lo 75 2 u ts.length (cellsOf ts)
end Go.Proofs.YtblbopcaflaldaaGreatDoor

namespace Go.Proofs.YtblbopcaflaldaaGreatDoor
open Go Go.Dd Go.RowKit List Go.Proofs.Tryz
set_option maxRecDepth 100000
theorem SG (v:Value) (w:World) (e:v.cells=[v].toArray):AN prog 157 [v, .int .i64 4] w (fun r w' =>Below w.heap.size w w' ∧∃p q,r= .func (.func 231) #[] #[.pointer (some ⟨p,0,none⟩), .pointer (some ⟨q,0,none⟩)]∧w.heap.size≤p∧p<q∧AP w' p 28 [v]∧AP w' q 3 [.int .i64 4]):=by
 refine A4 (n:=9) func157 O<|Ai<|An (Xw.box (cs:=[v]) O e) O ?_
 rintro _ j ⟨rfl,c,a,g⟩
 refine An (Xw.box (cs:=[.int .i64 4]) O O) O ?_
 rintro _ k ⟨rfl,i,b,d⟩
 have c:=c.bs b
 have f:=a.size
 have h:=a.trans (b.mono f)
 refine Ab O<|A8<|Aa (Ao (BD _) O ‹_› rfl) O ?_
 exact B8 rfl<|Ak<|Cq rfl false (rfl)<|Ci<|Aa (Ew (vs:=[]) rfl rfl) rfl<|Ab rfl<|As<|Al rfl rfl<|⟨h,_,_,rfl,AU _,by omega,c,i⟩
theorem SD {v:Value} {c i j sz:Nat} (h:Oa v c) (e:i≤j) (f:j≤c):Oa (cut v sz i j) (j - i):=by
 obtain ⟨b,cap,rfl,k,g,d⟩:=h
 refine ⟨_,cap - i,rfl,by omega,by omega,fun a=> ?_⟩
 by_cases he:cap=i
 ·omega
 ·rw [if_neg he] at a
  cases b with
  |none=>have:=d rfl;omega
  |some _=>cases a
def parts (v:Value) (K:Nat):List Value:=(List.range K).map fun i=>cutp v 1 (4*i) (4*i+4)
theorem HS (v:Value) (K:Nat):parts v (K+1)=parts v K++[cutp v 1 (4*K) (4*K+4)]:=by simp [parts,range_succ]
theorem Pf {v:Value} {k K:Nat} (h:k≤K):parts v k<+:parts v K:=by
  induction K with
  | zero => obtain rfl : k = 0 := by omega
            exact ⟨[],by simp⟩
  |succ K ih=>
    by_cases h1:k≤K
    · exact (ih h1).trans ⟨_,(HS v K).symm⟩
    · obtain rfl:k=K+1:=by omega
      exact ⟨[],by simp⟩
theorem R4 (p q K:Nat) (v:Value) (w:World) (d:AP w p 28 [v]) (a:AP w q 3 [.int .i64 4]) (r:Oa v (4*K)) (L:K≤100000):
  Sq prog 231 [] [.pointer (some ⟨p,0,none⟩), .pointer (some ⟨q,0,none⟩)] (fun x:Value=>[x]) (fun b=>b=p∨b=q) none (parts v K) w:=by
 intro A J W s F E e
 show AN prog 231 [.func (.yield A) #[] #[], .pointer (some ⟨p,0,none⟩), .pointer (some ⟨q,0,none⟩)] W (fun _ D=>J (parts v K) D)
 have d:=d.bs s
 have a:=a.bs s
 refine F0 (n:=31) func231 (by kernel_rfl) O O O<|D0<|De (by kernel_rfl)<|Ab O ?_
 refine A7 (Pg.low ?_)
 refine C4 (D1 ?_)
 refine Cg.block ?_
 refine Cg.loop (S:=Nat) (fun k=>[(0, .func (.yield A) #[] #[]),(1, .pointer (some ⟨p,0,none⟩)),(2, .pointer (some ⟨q,0,none⟩)),(4, .int .i64 ((4*k:Nat):Int))]) (fun k w' =>k≤K∧J (parts v k) w' ∧AP w' p 28 [v]∧AP w' q 3 [.int .i64 4]) (fun k=>K - k) (0) ⟨rfl,rfl,rfl,rfl,trivial⟩ ?_ ?_
 ·exact ⟨Nat.zero_le _,e,d,a⟩
 clear e d a s
 rintro k w ⟨I,e,d,l⟩
 refine D0<|D0<|De (by kernel_rfl)<|Ad O<|Aa (Ao (HO _) O ‹_› rfl) O ?_
 refine Aa (D5 AO O r) O<|B8 O ?_
 refine A7 (Pg.low ?_)
 refine C4 (D1 ?_)
 refine Cg.cond O ?_ ?_
 ·intro g
  have c:k<K:=by have:=AE g;omega
  refine Cg.skip ?_
  refine C4 (D1 ?_)
  refine D0<|Cg.block<|D0<|Cg.quiet mixed (by kernel_rfl) (by kernel_rfl)<|Ax (fun o a=>Ao (BD _) O (l.bs a) O) O<|Ax (fun o a=>Ao (HO _) O (AP.bs ‹_› a) O) O ?_
  refine B5 O<|Ax (fun o a=>Fm (i:=4*k) AO O O r (by omega)) O<|Ax (fun o a=>D5 AO O (SD r (by omega) (AU _))) O<|Ax (fun o a=>Ex.as (Ex.min2 O O) (cngA (Value.int .i64) (show (if ((4*K - 4*k:Nat):Int)<4 then ((4*K - 4*k:Nat):Int) else 4)=4 by split<;>omega))) O<|Ep O ?_
  refine Dk (fun G a=>(Pg.low ?_))
  refine C4 (D1 ?_)
  refine D0 ?_
  have f:=d.bs a
  have m:=l.bs a
  have u:=F _ _ _ e ⟨none,BC a none, .inl rfl⟩
  have h:parts v k++[cutp v 1 (4*k) (4*k+4)]<+:parts v K:=by rw [← HS];exact Pf c
  refine F6<|Lg.plain 10 (by kernel_rfl)<|Ad O<|Aa (Ao (HO _) O ‹_› rfl) O ?_
  refine Ad O<|Ad O<|Ad O<|Aa (Ex.as (En O O (by omega)) (cngA (Value.int .i64) (show ((4*k:Nat):Int)+4=((4*k+4:Nat):Int) by omega))) O<|Ad O<|Ad O<|Aa (Ex.as (En O O (by omega)) (cngA (Value.int .i64) (show ((4*k:Nat):Int)+4=((4*k+4:Nat):Int) by omega))) O<|Aa (Ex.cutP (i:=4*k) (j:=4*k+4) AO O O O O r (by omega) (by omega)) O ?_
  refine A7 (Pg.low (G8 ?_))
  refine Lg.yield O O O (E (parts v k) (cutp v 1 (4*k) (4*k+4)) G u h) ?_
  rintro _ H ⟨rfl,B,C⟩
  rw [← HS] at B
  have t:=f.keep (C.2 p (.inl rfl) (AW f))
  have y:=m.keep (C.2 q (.inr rfl) (AW m))
  refine Lg.plain 1 (by kernel_rfl)<|Aa (Cz O) O ?_
  refine A7 (Pg.low (G8 (Lg.nil ?_)))
  refine C4 (D1 ?_)
  refine Cg.condB O false (rfl)<|Cg.skip<|Gk ?_
  refine C4 (D1 ?_)
  refine De (by kernel_rfl)<|Ad O<|Aa (Ao (BD _) O ‹_› rfl) O ?_
  refine Ca O (by omega)<|Ab O ?_
  refine A7 (Pg.low ?_)
  exact C4 (Pg.next (k+1) ⟨rfl,rfl,rfl,(cngA (fun z=>some (Value.int .i64 z)) (by omega)),trivial⟩ (⟨c,B,t,y⟩) (by omega))
 intro g
 have c:k=K:=by have:=AD g;omega
 subst c
 exact Cg.exit<|Gu<|Gu<|Pg.blkHit<|Pg.closeE<|Pw.end0 rfl<|e
theorem Ph {v:Value} {c:Nat} (a:Oa v c) {K:Nat}:(parts v K).all (·.oneCell')=true:=List.all_eq_true.2 fun x b=>by
 obtain ⟨i, -,rfl⟩:=List.mem_map.1 b
 obtain ⟨d,cap,rfl, -⟩:=a
 exact R0 ⟨_,_,_,rfl⟩
theorem H7 (v:Value) (K:Nat):(parts v K).length=K:=by simp [parts]
theorem Oy {v:Value} {c K:Nat} {a:List Value} {x:Value} (b:Oa v c) (h:a++[x]<+:parts v K):[x].all (·.oneCell')=true:=by
 obtain ⟨t,h⟩:=h
 have:=Ph b (K:=K)
 rw [← h,List.all_append,List.all_append,Bool.and_eq_true,Bool.and_eq_true] at this
 exact this.1.2
theorem MY (p q K:Nat) (v:Value) (W:World) (hp:AP W p 28 [v]) (hq:AP W q 3 [.int .i64 4]) (Y:Oa v (4*K)) (hK:K≤100000):
  AN prog 230 [.slice none 0 0, .func (.func 231) #[] #[.pointer (some ⟨p,0,none⟩), .pointer (some ⟨q,0,none⟩)]] W (fun r w' =>Below W.heap.size W w' ∧w'.ownsRow W.heap.size 28 1 r K (parts v K)):=by
 have f:=Below.refl W.heap.size W
 refine F0 (n:=13) func230 (by kernel_rfl) O O O<|D0<|De (by kernel_rfl)<|An (Xw.box (cs:=[.slice none 0 0]) O O) O ?_
 rintro _ w ⟨rfl,a,t,hz⟩
 have f:=bt f t
 have I:=hp.bs t
 have V:=hq.bs t
 have yp:=AW hp
 have yq:=AW hq
 have ys:=AW a
 refine Ab O ?_
 refine A7 (Pg.low ?_)
 refine C4 (D1 ?_)
 refine D0<|D0<|De (by kernel_rfl)<|Ad O ?_
 refine A7 (Pg.low ?_)
 refine C4 (D1 ?_)
 refine Cg.block ?_
 refine Cg.range O ((R4 p q K v w I V Y hK)) (fun i e=>by have e:i=p∨i=q:=e;omega) (fun _=>rfl) (by kernel_rfl) (fun (c:List (Value)) w' =>∃y,AP w' W.heap.size 166 [y]∧w'.ownsRow W.heap.size 28 1 y c.length c∧Below W.heap.size W w') (by rintro _ ⟨⟩) ?_ ?_ ?_ ?_ ?_
 ·exact ⟨_,a,World.ownsRow_nil _ _ _ _,f⟩
 ·rintro c A A' ⟨y,M,H,U⟩ B
  exact ⟨y,M.nc B,L8 H B,U.nc B (Nat.le_of_lt ys) (AU _)⟩
 ·rintro c A A' ⟨y,M,H,U⟩ B
  obtain ⟨r,g,T⟩:=B
  have T:r=none:=T.elim id id
  subst T
  have J:=EG g (AU _) fun _ e=>by cases e
  exact ⟨y,M.bs J,AF H J,bt U J⟩
 ·rintro lp c x w3 hl ⟨y,a,j,f⟩ m F
  have z3:=AW a
  refine De (by kernel_rfl)<|Ab O ?_
  refine A7 (Pg.low ?_)
  refine Pg.asg (KeepsFrom.refl _ _) (Kp.refl) ?_
  rintro w t hz F
  have a:=a.nc t
  have j:=L8 j t
  have f:=f.nc t (by omega) (AU _)
  have hlp:c.length<K:=by have:=m.length_le;rw [length_append,H7] at this;simp at this;omega
  have el:c.length+1=(c++[x]).length:=by simp
  refine Cg.block<|De (by kernel_rfl)<|Aa (Ao (RE _) O ‹_› rfl) O ?_
  refine Ad O<|An (B7 (vs:=[x]) FQ Re O O O (Oy Y m) O) O ?_
  rintro q3 w5 ⟨S, -,l, -⟩
  have a:=a.bs l
  have j:=AF j l
  have f:=bt f l
  have zB:=AA f
  refine An (Bv (base:=W.heap.size) FQ Re O (by decide) O O j (AG S) (Oy Y m) (by omega) (by omega) zB) O ?_
  rintro N w6 ⟨s,X,L, -⟩
  have ne:∀b,y.ownBlock=some b→b≠W.heap.size:=fun b e C=>by
   obtain ⟨ds,G⟩:=AQ.ty (.inl j) e
   rw [C] at G
   exact absurd (AX G a) (by decide)
  have o:=a.by L (fun e=>ne _ e.symm rfl)
  have Z:∀b,N.ownBlock=some b→b≠W.heap.size:=fun b e C=>by
   obtain ⟨ds,G⟩:=AQ.ty (.inl s) e
   rw [C] at G
   exact absurd (AX G o) (by decide)
  have D:=f.trans X
  rw [el] at s
  refine A6 (Cm (u:=N) (Tx _) O O (AG s).one' o Nat.zero_lt_one) ?_
  rintro w7 ⟨E,z,hz7⟩
  have R:=AR s fun k e=>z.block k (AB s k e).2 fun C=>Z k e (Option.some.inj C)
  have Q:=D.grown z (AA D) (by rintro _ e;have:=Option.some.inj e;omega)
  refine A7 (Pg.low ?_)
  refine Gk ?_
  exact Pg.rnd ((((KeepsFrom.refl _ _).bs l).own j L).blk o z) (((Kp.refl.bs l).grown L (fun k e (h:k=p∨k=q)=>by have:=(AB j k e).1;omega)).grown z (fun k e (h:k=p∨k=q)=>by have:=Option.some.inj e;omega)) (⟨N,E,R,Q⟩)
 rintro d w hd ⟨y,a,j,f⟩ hD
 rw [H7] at j
 have zB:=AW a
 refine Gk ?_
 refine C4 (D1 ?_)
 refine D0<|De (by kernel_rfl)<|Aa (Ao (RE _) O ‹_› rfl) O ?_
 refine Ab O ?_
 refine A7 (Pg.low ?_)
 refine C4 (D1 ?_)
 refine Cg.ret ?_
 refine Pg.close (hD) (fun w t _=> ?_)
 have j:=L8 j t
 have f:=f.nc t (by omega) (AU _)
 exact Al rfl rfl<|⟨f,j⟩
theorem PL (p q K:Nat) (v:Value) (W:World) (a:AP W p 28 [v]) (c:AP W q 3 [.int .i64 4]) (d:Oa v (4*K)) (e:K≤100000):
  AN prog 156 [.func (.func 231) #[] #[.pointer (some ⟨p,0,none⟩), .pointer (some ⟨q,0,none⟩)]] W (fun r w' =>Below W.heap.size W w' ∧w'.ownsRow W.heap.size 28 1 r K (parts v K)):=by
 refine A4 (n:=5) func156 O<|Ai<|Ab O<|A3<|Ad O<|Ah O O (MY p q K v W a c d e) ?_
 rintro r w' ⟨f,b⟩
 exact Ab rfl<|As<|Al rfl rfl<|⟨f,b⟩
theorem Mv:∀(i:Nat) (t:List (BitVec 8)),(nums t).drop i=nums (t.drop (4*i))
 |0,t=>by simp
 |i+1,t=>by
  by_cases h:4≤t.length
  ·rw [OD h,List.drop_succ_cons,Mv i,drop_drop,show 4+4*i=4*(i+1) by omega]
  ·rw [JS (show t.length<4 by omega),List.drop_nil,JS (by rw [length_drop];omega)]
theorem QI {i:Nat} {t:List (BitVec 8)} (h:4*i+4≤t.length):(nums t).getD i default=gf ((t.drop (4*i)).take 4):=by
 have e:=Mv i t
 rw [OD (l:=t.drop (4*i)) (by rw [length_drop];omega)] at e
 have a:(nums t)[i]? =some (gf (t.drop (4*i))):=by
  have:((nums t).drop i)[0]? =some (gf (t.drop (4*i))):=by rw [e];rfl
  rwa [getElem?_drop] at this
 rw [getD_eq_getElem?_getD,a]
 simp [gf]
theorem QA {v:Value} {K i:Nat} (h:i<K):(parts v K).getD i default=cutp v 1 (4*i) (4*i+4):=by
 simp [parts,h]
theorem Qu {w:World} {v:Value} {t:List (BitVec 8)} {i:Nat} (h:BE b8 w v t) (b:4*i+4≤t.length):BE b8 w (cutp v 1 (4*i) (4*i+4)) ((t.drop (4*i)).take 4):=by
 have a:=Sl.cutp h (i:=4*i) (j:=4*i+4) (by omega) b
 have l:((t.drop (4*i)).take 4).length=4:=by rw [length_take,length_drop];omega
 unfold BE
 rw [l]
 rw [show 4*i+4 - 4*i=4 by omega,Nat.mul_one,Nat.mul_one,← map_drop,← map_take] at a
 exact a
theorem OY (v:Value) (l:List (BitVec 8)) (w:World) (a:BE b8 w v l) (b:4≤l.length):AN prog 159 [v] w (fun r w' =>r=i32 (gf l)∧Below w.heap.size w w'):=by
 refine A4 (n:=6) func159 O<|Ai<|Aa (Bx (show _=some (i32 (0#32)) from rfl)) O<|A3<|Ad O<|Ah O O (Rr v l w a b) ?_
 rintro _ d ⟨rfl,c⟩
 exact Aa (E6 GW Oi rfl) rfl<|Ab rfl<|As<|Al rfl rfl<|⟨rfl,c⟩
theorem SM (v q:Value) (t:List (BitVec 8)) (K:Nat) (w:World) (u:BE (fun x:Value=>x) w v (parts q K)) (I:BE b8 w q t) (G:t.length=4*K) (N:K≤4096):
  AN prog 158 [v, .func (.func 159) #[] #[]] w (fun r w' =>w'.ownsRow w.heap.size 21 1 r (nums t).length ((nums t).map i32)∧Below w.heap.size w w'):=by
 have C:=H7 q K
 have y:=Mw K t G
 obtain ⟨l,E⟩:∃l,l=nums t:=⟨_,rfl⟩
 rw [← E] at y ⊢
 have L:=u.le
 refine A4 (n:=26) func158 O<|Ai<|Ab O<|A3<|Ad O<|Aa (Aq FQ O ‹_›) O ?_
 refine An (Ej CE Kj O O O (AU _) (by omega) (by omega)) O ?_
 rintro x B ⟨a, -,d, -⟩
 have f:=u.bs d
 obtain ⟨z,D⟩:∃z,z=replicate l.length 0#32:=⟨_,rfl⟩
 have m:l.length=z.length:=by rw [D,length_replicate]
 have F:(replicate (parts q K).length [Value.int .i32 0]).flatten=z.map i32:=by rw [D,C,← y];exact Il (enc:=i32) (z:=0#32) l.length
 rw [F] at a
 refine Ab O<|A8<|Ad O<|Aa (Aq FQ O ‹_›) O ?_
 refine Ad O<|Ak<|Ar ?_
 refine Bu (S:=Nat) (fun i=>[(1, .func (.func 159) #[] #[]),(5,x),(11,v),(12, .int .i64 ((parts q K).length:Int)),(13, .int .i64 (i:Int))]) (fun i w' =>i≤l.length∧w'.ownsRow w.heap.size 21 1 x l.length ((l.take i++z.drop i).map i32)∧Below w.heap.size w w') (fun i=>l.length - i) (0) ⟨rfl,rfl,rfl,rfl,rfl,trivial⟩ ?_ ?_
 ·exact ⟨by omega,by rw [Oo,y,← C];exact a,d⟩
 clear a d f
 rintro i B ⟨R,a,d⟩
 have f:=u.bs d
 refine Ai<|B8 O<|Ak<|Ap<|Am O ?_ ?_
 ·intro h
  have c:i<l.length:=by simp at h;omega
  have o:i<K:=by omega
  have k:4*i+4≤t.length:=by omega
  have A:=Qu (I.bs d) k
  have Q:((t.drop (4*i)).take 4).length=4:=by rw [length_take,length_drop];omega
  have J:gf ((t.drop (4*i)).take 4)=l.getD i default:=by rw [E];exact (QI k).symm
  refine B1<|Ap<|Ar<|Ai<|Ad O<|Aa (Bb FQ O O ‹_› _ O (by omega)) O ?_
  refine Aa (Ex.as (Bf (HO _) O f (by omega)) (QA o)) O<|Ab O<|Ab O<|Ak<|A5<|Ad O<|Ad O<|Ad O<|Ad O<|Ee (p:=[]) O O O (OY (cutp q 1 (4*i) (4*i+4)) ((t.drop (4*i)).take 4) B A (by omega)) ?_
  rintro _ T ⟨rfl,g⟩
  rw [J]
  have a:=AF a g
  have s:=(AG a).shp
  refine Aa (Fx CE O O s i O c) O<|A6 (Gf (SR _) O O O a (by simp;omega)) ?_
  rintro M ⟨j,H, -⟩
  rw [← map_set,Ql m (by omega)] at j
  refine A7<|Ba<|Cr<|Ca O (by omega)<|Ad O<|A7 ?_
  exact Ay (Br (i+1) ⟨rfl,rfl,rfl,rfl,rfl,trivial⟩ (⟨c,j,(bt d g).grown H (AA (bt d g)) fun b e=>(AB a b e).1⟩) (by omega))
 intro h
 have c:i=l.length:=by simp at h;omega
 subst c
 rw [m,Qm m,← m] at a
 exact Bq<|Au<|Au<|Bc<|Cf<|Ad rfl<|Ab rfl<|As<|Al rfl rfl<|⟨a,d⟩
theorem PK (v:Value) (n:BitVec 32) (t:List (BitVec 8)) (W:World) (h:BE b8 W v (Crc.four n++t)) (m:t.length=4*n.toNat) (f:n.toNat≤4096):
  AN prog 55 [v] W (fun r w' =>Below W.heap.size W w' ∧∃y e,r= .tuple #[y, .int .i64 e, .int .i64 0]∧w'.ownsRow W.heap.size 21 1 y (nums t).length ((nums t).map i32)):=by
 have A:=Below.refl W.heap.size W
 have lt:(Crc.four n++t).length=4+4*n.toNat:=by rw [length_append,m];rfl
 have I:gf (Crc.four n++t)=n:=Ke n
 have C:¬(Crc.four n++t).length<4:=by omega
 refine A4 (n:=33) func55 O<|Ai<|Ab O<|Ab O<|Ab O<|A3<|Ad O<|Ah O O (Ld v (Crc.four n++t) _ h) ?_
 rintro _ w ⟨rfl,d⟩
 rw [if_neg C,if_neg C,I]
 have A:=A.bs d
 have h:=h.bs d
 refine Ad O<|Aa (Az (i:=0) O O) O<|Aa (Az (i:=1) O O) O<|Ab O<|Ab O<|A8<|Ad O<|Aa (C0 O O) O<|Ak<|Cq O false (rfl)<|B1<|Ap<|Ai<|Ad O<|Aa (C7 O O) O<|Ak<|Am O ?_ ?_
 ·intro g
  have g:=AE g
  omega
 intro g
 clear g
 obtain ⟨T,H⟩:∃T,T=4+4*n.toNat:=⟨_,rfl⟩
 refine B1<|Ap<|Ai<|Ad O<|Aa (Gz GW Hl O) O<|Aa (E1 O O (by omega)) O<|Aa (Ex.as (En O O (by omega)) (cngA (Value.int .i64) (show 4+4*(n.toNat:Int)=(T:Int) by omega))) O<|Ab O<|A3<|Ad O<|Ad O<|Aa (Aq AO O ‹_›) O ?_
 refine Aa (C7 O O) O<|Ak<|Am O ?_ ?_
 ·intro g
  have g:=AE g
  omega
 intro g
 clear g
 have a:BE b8 w (cut v 1 4 T) t:=by
  have:=BE.drop h (i:=4) (by omega)
  rw [lt,← H] at this
  exact this
 have sh:=a.shp
 rw [m] at sh
 refine Ci<|Ad O<|Ad O<|Aa (Ex.cutLH (i:=4) (j:=T) AO O O O h (by omega) (by omega)) O<|Ah O O (SG (cut v 1 4 T) w a.one) ?_
 rintro _ E ⟨d,p,q,rfl,J,F,l,z⟩
 have k:=bt A d
 have a:=a.bs d
 refine Ah O O (PL p q n.toNat (cut v 1 4 T) E l z sh (by omega)) ?_
 rintro r D ⟨c,s⟩
 have b:=bt k c
 have a:=a.bs c
 have B:BE (fun x:Value=>x) D r (parts (cut v 1 4 T) n.toNat):=by
  have:=AG s
  unfold BE
  rw [H7,List.map_id']
  exact this
 have G:=AA b
 refine Ab O<|A3<|Ad O<|Ah O O (SM r (cut v 1 4 T) t n.toNat D B a m f) ?_
 rintro y K ⟨u,o⟩
 exact Ad rfl<|Ab rfl<|Ab rfl<|Ab rfl<|As<|Pw.ret3 rfl rfl rfl rfl<|⟨bt b o,y,_,rfl,CR u G⟩

def HM (x:N5):List (BitVec 8):=x.k::(BA x.i++BA x.s++[BitVec.ofInt 8 x.n,BitVec.ofInt 8 x.p])
def CK (ls:List N5):List (BitVec 8):=(ls.map HM).flatten
def CS (ws:List T4):List (BitVec 8):=(ws.map fun t=>BQ t.l).flatten
def FE (ls:List N5) (ws:List T4):List (BitVec 8):=BitVec.ofInt 8 (ls.length:Int)::(CK ls++CS ws)
def ED (ls:List N5) (ws:List T4):List (BitVec 8):=FE ls ws++Crc.four (Crc.of (FE ls ws))
def KA (ls:List N5) (ws:List T4):Int:=if DB ls ws then 0 else 1
def JX (ls:List N5) (ws:List T4):List (BitVec 8):=if DB ls ws then ED ls ws else []
theorem Pr (x:N5):(HM x).length=x.i.length+x.s.length+5:=by simp [HM,BA];omega
theorem GR (s:List Int):(BA s).length=1+s.length:=by simp [BA];omega
theorem N7 (a b:List N5):CK (a++b)=CK a++CK b:=by simp [CK]
theorem Pn (a b:List T4):CS (a++b)=CS a++CS b:=by simp [CS]
theorem N6 (x:N5):CK [x]=HM x:=by simp [CK]
theorem Pm (t:T4):CS [t]=BQ t.l:=by simp [CS]
structure Vr (ls:List N5) (ws:List T4):Prop where
 few:ls.length≤32
 node:∀x ∈ ls,x.i.length≤4∧x.s.length≤4
 wts:ws.length≤32
 nums:∀t ∈ ws,t.l.length≤4096
theorem KW:∀{ls:List N5},(∀x ∈ ls,x.i.length≤4∧x.s.length≤4)→(CK ls).length≤13*ls.length
 |[],_=>by simp [CK]
 |x::ls,h=>by
  have c:=h x (by simp)
  have b:=KW (ls:=ls) fun y a=>h y (by simp [a])
  have e:CK (x::ls)=HM x++CK ls:=rfl
  rw [e,length_append,Pr,length_cons]
  omega
theorem Mz:∀{ws:List T4},(∀t ∈ ws,t.l.length≤4096)→(CS ws).length≤16384*ws.length
 |[],_=>by simp [CS]
 |x::ls,h=>by
  have c:=h x (by simp)
  have b:=Mz (ws:=ls) fun y a=>h y (by simp [a])
  have e:CS (x::ls)=BQ x.l++CS ls:=rfl
  rw [e,length_append,CW,length_cons]
  omega
theorem P4 {k:BitVec 8} {i s:List Int} {n p:Int} (h:DK k i s n p=true):i.length≤4∧s.length≤4:=by
 unfold DK at h
 cases hk:CQ k with
 |none=>rw [hk] at h;cases h
 |some r=>
  have l:=O8 k (by rw [hk];rfl)
  have key:∀{a b c d e f:Int},CQ k=some [a,b,c,d,e,f]→b≤4→i.length≤4∧s.length≤4:=fun {a b c d e f} j o=>by
   rw [j] at h
   obtain ⟨⟨_,m,_⟩,g⟩:=GC.1 h
   refine ⟨by omega, ?_⟩
   split at g
   ·have:=AE g;omega
   ·split at g
    ·exact ((Shapes.ok_iff s).1 g).1.2
    ·unfold Jr at g;simp only [Bool.and_eq_true,decide_eq_true_eq] at g;omega
  rcases l with e|e|e|e|e|e|e|e|e|e|e|e|e
  ·exact key (by rw [e];exact US) (by decide)
  ·exact key (by rw [e];exact UR) (by decide)
  ·exact key (by rw [e];exact TR) (by decide)
  ·exact key (by rw [e];exact TQ) (by decide)
  ·exact key (by rw [e];exact UQ) (by decide)
  ·exact key (by rw [e];exact UP) (by decide)
  ·exact key (by rw [e];exact TP) (by decide)
  ·exact key (by rw [e];exact TO) (by decide)
  ·exact key (by rw [e];exact UO) (by decide)
  ·exact key (by rw [e];exact Rb) (by decide)
  ·exact key (by rw [e];exact Ra) (by decide)
  ·exact key (by rw [e];exact QZ) (by decide)
  ·exact key (by rw [e];exact QY) (by decide)
theorem M7 {ls:List N5} {ws:List T4} (h:DB ls ws=true):(∃b,EK ls=some b∧DX [] ls=some b)∧(F2 ls).length=ws.length∧Lq (ws.map pv) (F2 ls)=true:=by
 unfold DB at h
 simp only [Bool.and_eq_true,decide_eq_true_eq] at h
 obtain ⟨d,c,f⟩:=h
 obtain ⟨b,a⟩:=Option.isSome_iff_exists.1 d
 refine ⟨⟨b,a, ?_⟩,c,f⟩
 unfold EK at a
 split at a
 ·cases a
 ·split at a
  ·split at a
   ·rename_i e _;cases a;exact e
   ·cases a
  ·cases a
theorem UL {ls:List N5} {ws:List T4} (h:DB ls ws=true):Vr ls ws:=by
 obtain ⟨⟨f,m,g⟩,e,l⟩:=M7 h
 have q:(F2 ls).length≤ls.length:=length_filter_le ..
 have b:=LF m
 refine ⟨b,fun x o=>P4 (Iy ls [] f g x o),by omega,fun t k=> ?_⟩
 obtain ⟨i,n,rfl⟩:=List.mem_iff_getElem.1 k
 have a:=(FX (ws:=ws.map pv) (xs:=F2 ls) (by rw [length_map,e])).1 l i (by omega)
 rw [getD_eq_getElem?_getD,getElem?_map,getElem?_eq_getElem n] at a
 unfold Js at a
 rw [Bool.and_eq_true] at a
 obtain ⟨p,c⟩:=Nq a.1
 have:=Shapes.size_le ws[i].s
 have c:(ws[i].l.length:Int)=Shapes.size ws[i].s:=by
  have:(pv ws[i]).2.length=(Shapes.size (pv ws[i]).1).toNat:=c
  have d:(pv ws[i]).2=ws[i].l:=rfl
  have j:(pv ws[i]).1=ws[i].s:=rfl
  rw [d,j] at this
  omega
 omega
theorem KN (v:Value) (l:List (BitVec 8)) (n:BitVec 32) (W:World) (c:BE b8 W v l) (i:l.length≤4194304):
  AN prog 45 [v,u32 n] W (fun r w' =>Below W.heap.size W w' ∧w'.ownsRow W.heap.size 5 1 r (l++Crc.four n).length ((l++Crc.four n).map b8)):=by
 have b:=Below.refl W.heap.size W
 refine A4 (n:=9) func45 O<|Ai<|Ab O<|A3<|Ad O<|Ad O<|An (B7 (vs:=[n].map u32) CX MC O O O O O) O ?_
 rintro y w ⟨e, -,a, -⟩
 have d:=AL e
 have b:=b.bs a
 have c:=c.bs a
 clear a e
 refine Ah O O (SW v y l [n] w c d (by simp;omega)) ?_
 rintro r w' ⟨f,a⟩
 have h:=AA b
 have g:l++BQ [n]=l++Crc.four n:=by rw [GS];simp [BQ]
 rw [g] at f
 exact Ab rfl<|As<|Al rfl rfl<|⟨bt b a,CR f h⟩
theorem Rp (n:BitVec 32) (l:List (BitVec 8)):(Crc.four n++l).drop 4=l:=rfl
set_option maxHeartbeats 1000000 in
theorem TM (v u : Value) (ls : List N5) (ws : List T4) (W : World) (h : GN W v ls) (hw : DR W u ws) :
    AN prog 12 [.agg [v,u].toArray] W (fun r w' =>Below W.heap.size W w' ∧∃x,r= .tuple #[x, .int .i64 (KA ls ws)]∧AQ w' W.heap.size 5 1 x (JX ls ws).length ((JX ls ws).map b8)):=by
  have N:=Below.refl W.heap.size W
  refine A4 (n:=65) func12 O<|Ai<|Cl (cs:=[v,u]) O O O ?_
  rintro A_m w eA_m b_m C -
  have N:=N.bs C
  refine Ab O<|Ab O<|A8<|Aa (Ce (FG _) (FB _) O O ‹_›) O ?_
  have zA:=AW b_m
  refine Ah O O (SX v u ls ws w (h.bs N) (hw.bs N)) ?_
  rintro _ L ⟨rfl,C⟩
  have N:=N.bs C
  have b_m:=b_m.bs C
  refine Aa (Cz O) O<|Ak<|Am O ?_ ?_
  · intro g
    have g:DB ls ws=false:=by simpa using g
    refine Ai<|Ab O<|Ab O<|Bw<|B2 O O O ?_
    exact ⟨N, .slice none 0 0,by simp [KA,g],by simp only [JX,g];exact .inl (World.ownsRow_nil _ _ _ _)⟩
  intro g
  have g:DB ls ws=true:=by simpa using g
  have S:=UL g
  have S1:=S.few
  have S2:=S.wts
  rw [show KA ls ws=0 by simp [KA,g],show JX ls ws=ED ls ws by simp [JX,g]]
  clear g
  have X:=h.sl.bs N
  have z0:=AA N
  obtain ⟨E,hBB⟩:∃E:Nat→List (BitVec 8),E=fun i=>BitVec.ofInt 8 (ls.length:Int)::CK (ls.take i):=⟨_,rfl⟩
  have bb0:E 0=[BitVec.ofInt 8 (ls.length:Int)]:=by rw [hBB];rfl
  have bbl:∀i,i≤ls.length→(E i).length≤1+13*ls.length:=fun i hi=>by
    rw [hBB]
    have:=KW (ls:=ls.take i) fun x hx=>S.node x (mem_of_mem_take hx)
    rw [length_take,Nat.min_eq_left hi] at this
    simp only [length_cons]
    omega
  refine Ci<|A9 underlying27 O (BP _)<|A9 underlying24 O (CB _)<|Aa (Ao (DQ _) O ‹_› rfl) O ?_
  refine Aa (Aq BM O ‹_›) O ?_
  refine Aa (Eg Mf HC O) O<|An (B7 (vs:=[BitVec.ofInt 8 (ls.length:Int)].map b8) AO DD O O O O O) O ?_
  rintro y T ⟨o_y, -,C, -⟩
  have hB1:=bt N C
  have b_m1:=b_m.bs C
  have X:=h.sl.bs hB1
  rw [← bb0] at o_y
  refine Ab O<|A8<|A9 underlying27 O (BP _)<|A9 underlying24 O (CB _)<|Aa (Ao (DQ _) O ‹_› rfl) O ?_
  refine Aa (Aq BM O ‹_›) O ?_
  refine Ad O<|Ak<|Ar ?_
  have o_y:T.ownsRow L.heap.size 5 1 y (E 0).length ((E 0).map b8):=by rw [show (E 0).length=1 by rw [bb0];rfl];exact o_y
  refine Bu (S:=(Nat×Value)) (fun z=>[(1, .pointer (some ⟨A_m,0,none⟩)),(4,z.2),(20,v),(21, .int .i64 (ls.length:Int)),(22, .int .i64 (z.1:Int))]) (fun z w' =>z.1≤ls.length∧Below L.heap.size L w' ∧w'.ownsRow L.heap.size 5 1 z.2 (E z.1).length ((E z.1).map b8)) (fun z=>ls.length - z.1) ((0,y)) ⟨rfl,rfl,rfl,rfl,rfl,trivial⟩ ?_ ?_
  · exact ⟨Nat.zero_le _,C,o_y⟩
  clear o_y X b_m1 hB1 C
  rintro ⟨i,y⟩ w2 ⟨hi,C,m⟩
  dsimp only at hi C m ⊢
  have V:=bt N C
  have X:=h.sl.bs V
  have b_m2:=b_m.bs C
  have z2:=C.size
  refine Ai<|B8 O<|Ak<|Ap<|Am O ?_ ?_
  · intro gi
    have K:i<ls.length:=by have:=AE gi;omega
    obtain ⟨x,hx⟩:∃x,x=ls[i]:=⟨_,rfl⟩
    have hxm:x ∈ ls:=hx ▸ getElem_mem K
    have Q:=h.each x hxm
    have hcl:=h.cells K
    rw [← hx] at hcl
    have hS:=S.node x hxm
    have hbl:=bbl i hi
    have Y:E (i+1)=E i++[x.k]++BA x.i++BA x.s++[BitVec.ofInt 8 x.n,BitVec.ofInt 8 x.p]:=by
      rw [hBB]
      simp only
      rw [take_succ_eq_append_getElem K,N7,← hx,N6]
      simp [HM]
    have zBB:(E (i+1)).length≤1+13*ls.length:=bbl (i+1) K
    have lx:=GR x.i
    have ly:=GR x.s
    have lBB:=cngA length Y
    simp only [length_append,length_cons,length_nil] at lBB
    refine B1<|Ap ?_
    refine D6 (St:=Value) (fun s=>[(1, .pointer (some ⟨A_m,0,none⟩)),(4,s),(20,v),(21, .int .i64 (ls.length:Int)),(22, .int .i64 (i:Int))]) (fun s w' =>Below L.heap.size L w' ∧w'.ownsRow L.heap.size 5 1 s (E (i+1)).length ((E (i+1)).map b8)) ?_ ?_
    · refine Ar<|Ai<|Aa (C6 BM O O X i O K) O<|Aa (Dx (cs:=x.cells) (Hc _) (GY _) O X O (by decide) hcl) O<|C2 (cs:=x.cells) EE O O O O (fun _=>rfl) ((Q.bs V).ones) ?_
      rintro A_x w0 eA_x a M zhn3
      have o:=bt C M
      have m:=AF m M
      clear C M b_m2 X V
      refine Ak ?_
      refine Cw.any mixed (fun w hd _=> ?_)
      have a:=a.bs hd
      replace o:=bt o hd
      replace m:=AF m hd
      have H:=Fj w y
      refine C5 (fun w' =>AP w' A_x 79 x.cells) (fun hC=> ?_) (a)
      refine Bz (Bp Bo)<|Af 0 O (fun T q=>Bl O) O<|Af 1 O (fun T q=>Ch underlying79 O (FK _)) O<|Af 2 O (fun T q=>Ao (He _) O q O) O<|Af 5 O (fun T q=>Ch underlying79 O (BL _)) O<|Af 6 O (fun T q=>Ao (AY _) O q O) O<|Af 8 O (fun T q=>Ch underlying79 O (BL _)) O<|Af 9 O (fun T q=>Ao (AY _) O q O) O<|Af 11 O (fun T q=>Ch underlying79 O (BZ _)) O<|Af 12 O (fun T q=>Ao (BD _) O q O) O<|Af 13 O (fun T q=>Eg Mf HC O) O<|Af 14 O (fun T q=>Ch underlying79 O (BZ _)) O<|Af 15 O (fun T q=>Ao (BD _) O q O) O<|Af 16 O (fun T q=>Eg Mf HC O) O<|Bj ?_
      refine E5 ‹_› (i:=3) (j:=17) (by kernel_rfl) O O ?_ ?_
      refine An (B7 (vs:=[x.k].map b8) AO DD O O O O O) O ?_
      rintro q3 w ⟨R, -,C, -⟩
      have H:=H.bs C
      have a:=a.bs C
      have m:=m.bs C
      have o:=o.bs C
      refine AK.back ?_
      refine E5 ‹_› (i:=4) (j:=17) (by kernel_rfl) O O ?_ ?_
      have U:=o.size
      refine An (Bv (base:=L.heap.size) AO DD O (by decide) O O m (AG R) (BI (fun _=>rfl) _) (by omega) (by omega) U) O ?_
      rintro y w ⟨k,l,B,q⟩
      have q:=q.imp id fun e b (D:y.ownBlock=some b)=>Nat.le_of_eq (Option.some.inj (e.symm.trans D))
      rw [← map_append,show (E i).length+1=(E i++[x.k]).length by rw [length_append];rfl] at k
      have H:=H.app B q
      clear U R
      have a:=a.by B fun e=>by
        obtain ⟨ds,J⟩:=AQ.ty (.inl m) e.symm
        exact absurd (AX J a) (by decide)
      try replace f:=AR d fun b I=>B.block b (AB d b I).2 fun e=>G b I e.symm
      try replace G := fun b (F : c.ownBlock = some b) (D : y.ownBlock = some b) => show False from by
                rcases q with h|h
                · exact G b F (h ▸ D)
                · have:=h b D
                  have:=(AB d b F).2
                  omega
      try replace d:=f
      try clear f
      replace m:=k
      have o:=o.trans l
      clear k l B q
      refine AK.back ?_
      refine E5 ‹_› (i:=7) (j:=17) (by kernel_rfl) O O ?_ ?_
      refine Ah O O (EV _ x.x (E i++[x.k]) x.i L _ o m (Q.i.bs N) (by rw [length_append,length_singleton];omega)) ?_
      rintro y w ⟨l,k,A⟩
      have B:=A.g
      have q:=A.c
      have H:=H.app B q
      clear A
      clear o
      have o:=l
      have a:=a.by B fun e=>by
        obtain ⟨ds,J⟩:=AQ.ty (.inl m) e.symm
        exact absurd (AX J a) (by decide)
      try replace f:=AR d fun b I=>B.block b (AB d b I).2 fun e=>G b I e.symm
      try replace G := fun b (F : c.ownBlock = some b) (D : y.ownBlock = some b) => show False from by
                rcases q with h|h
                · exact G b F (h ▸ D)
                · have:=h b D
                  have:=(AB d b F).2
                  omega
      try replace d:=f
      try clear f
      replace m:=k
      clear k l B q
      refine AK.back ?_
      refine E5 ‹_› (i:=10) (j:=17) (by kernel_rfl) O O ?_ ?_
      refine Ah O O (EV _ x.y (E i++[x.k]++BA x.i) x.s L _ o m (Q.s.bs N) (by rw [length_append,length_append,length_singleton,GR];omega)) ?_
      rintro y w ⟨l,k,A⟩
      have B:=A.g
      have q:=A.c
      have H:=H.app B q
      clear A
      clear o
      have o:=l
      have a:=a.by B fun e=>by
        obtain ⟨ds,J⟩:=AQ.ty (.inl m) e.symm
        exact absurd (AX J a) (by decide)
      try replace f:=AR d fun b I=>B.block b (AB d b I).2 fun e=>G b I e.symm
      try replace G := fun b (F : c.ownBlock = some b) (D : y.ownBlock = some b) => show False from by
                rcases q with h|h
                · exact G b F (h ▸ D)
                · have:=h b D
                  have:=(AB d b F).2
                  omega
      try replace d:=f
      try clear f
      replace m:=k
      clear k l B q
      refine AK.back<|AK.only ‹_› (i:=17) (by kernel_rfl) O ?_
      refine An (B7 (vs:=[BitVec.ofInt 8 x.n,BitVec.ofInt 8 x.p].map b8) AO DD O O O O O) O ?_
      rintro c w ⟨d, -,C, -⟩
      have G:=fun b (F:c.ownBlock=some b) D=>show False from by
        have:=(AB d b F).1
        have:=(AB m b D).2
        omega
      have H:=H.bs C
      have a:=a.bs C
      have m:=m.bs C
      have o:=o.bs C
      refine AK.back<|AK.only ‹_› (i:=18) (by kernel_rfl) O ?_
      have U:=o.size
      have lz:(E i++[x.k]++BA x.i++BA x.s).length≤2000:=by simp only [length_append,length_cons,length_nil];omega
      refine An (Bv (base:=L.heap.size) AO DD O (by decide) O O m (AG d) (BI (fun _=>rfl) _) (by omega) (by omega) U) O ?_
      rintro y w ⟨k,l,B,q⟩
      rw [← map_append,show (E i++[x.k]++BA x.i++BA x.s).length+2=(E i++[x.k]++BA x.i++BA x.s++[BitVec.ofInt 8 x.n,BitVec.ofInt 8 x.p]).length by rw [length_append (bs:=[_,_])];rfl] at k
      have a:=a.by B fun e=>by
        obtain ⟨ds,J⟩:=AQ.ty (.inl m) e.symm
        exact absurd (AX J a) (by decide)
      have o:=o.trans l
      refine AK.back<|Bz (Bp Bo)<|Af 19 O (fun T q=>Bx O) O<|Bj<|AK.done ‹_› (by kernel_rfl) ?_
      refine Ba ?_
      exact B4 (y) ⟨rfl,rfl,rfl,rfl,rfl,trivial⟩ (⟨o,by rw [Y];exact k⟩)
      refine An (B7 (vs:=[BitVec.ofInt 8 x.n,BitVec.ofInt 8 x.p].map b8) AO DD O O O O O) O ?_
      rintro c w ⟨d, -,C, -⟩
      have G:=fun b (F:c.ownBlock=some b) D=>show False from by
        have:=(AB d b F).1
        have:=(AB m b D).2
        omega
      have H:=H.bs C
      have a:=a.bs C
      have m:=m.bs C
      have o:=o.bs C
      refine AK.back<|AK.only ‹_› (i:=10) (by kernel_rfl) O ?_
      refine Ah O O (EV _ x.y (E i++[x.k]++BA x.i) x.s L _ o m (Q.s.bs N) (by rw [length_append,length_append,length_singleton,GR];omega)) ?_
      rintro y w ⟨l,k,A⟩
      have B:=A.g
      have q:=A.c
      have H:=H.app B q
      clear A
      clear o
      have o:=l
      have a:=a.by B fun e=>by
        obtain ⟨ds,J⟩:=AQ.ty (.inl m) e.symm
        exact absurd (AX J a) (by decide)
      try replace f:=AR d fun b I=>B.block b (AB d b I).2 fun e=>G b I e.symm
      try replace G := fun b (F : c.ownBlock = some b) (D : y.ownBlock = some b) => show False from by
                rcases q with h|h
                · exact G b F (h ▸ D)
                · have:=h b D
                  have:=(AB d b F).2
                  omega
      try replace d:=f
      try clear f
      replace m:=k
      clear k l B q
      refine AK.back<|AK.only ‹_› (i:=18) (by kernel_rfl) O ?_
      have U:=o.size
      have lz:(E i++[x.k]++BA x.i++BA x.s).length≤2000:=by simp only [length_append,length_cons,length_nil];omega
      refine An (Bv (base:=L.heap.size) AO DD O (by decide) O O m (AG d) (BI (fun _=>rfl) _) (by omega) (by omega) U) O ?_
      rintro y w ⟨k,l,B,q⟩
      rw [← map_append,show (E i++[x.k]++BA x.i++BA x.s).length+2=(E i++[x.k]++BA x.i++BA x.s++[BitVec.ofInt 8 x.n,BitVec.ofInt 8 x.p]).length by rw [length_append (bs:=[_,_])];rfl] at k
      have a:=a.by B fun e=>by
        obtain ⟨ds,J⟩:=AQ.ty (.inl m) e.symm
        exact absurd (AX J a) (by decide)
      have o:=o.trans l
      refine AK.back<|Bz (Bp Bo)<|Af 19 O (fun T q=>Bx O) O<|Bj<|AK.done ‹_› (by kernel_rfl) ?_
      refine Ba ?_
      exact B4 (y) ⟨rfl,rfl,rfl,rfl,rfl,trivial⟩ (⟨o,by rw [Y];exact k⟩)
      refine An (B7 (vs:=[BitVec.ofInt 8 x.n,BitVec.ofInt 8 x.p].map b8) AO DD O O O O O) O ?_
      rintro c w ⟨d, -,C, -⟩
      have G:=fun b (F:c.ownBlock=some b) D=>show False from by
        have:=(AB d b F).1
        have:=(AB m b D).2
        omega
      have H:=H.bs C
      have a:=a.bs C
      have m:=m.bs C
      have o:=o.bs C
      refine AK.back<|AK.only ‹_› (i:=7) (by kernel_rfl) O ?_
      refine Ah O O (EV _ x.x (E i++[x.k]) x.i L _ o m (Q.i.bs N) (by rw [length_append,length_singleton];omega)) ?_
      rintro y w ⟨l,k,A⟩
      have B:=A.g
      have q:=A.c
      have H:=H.app B q
      clear A
      clear o
      have o:=l
      have a:=a.by B fun e=>by
        obtain ⟨ds,J⟩:=AQ.ty (.inl m) e.symm
        exact absurd (AX J a) (by decide)
      try replace f:=AR d fun b I=>B.block b (AB d b I).2 fun e=>G b I e.symm
      try replace G := fun b (F : c.ownBlock = some b) (D : y.ownBlock = some b) => show False from by
                rcases q with h|h
                · exact G b F (h ▸ D)
                · have:=h b D
                  have:=(AB d b F).2
                  omega
      try replace d:=f
      try clear f
      replace m:=k
      clear k l B q
      refine AK.back<|AK.only ‹_› (i:=10) (by kernel_rfl) O ?_
      refine Ah O O (EV _ x.y (E i++[x.k]++BA x.i) x.s L _ o m (Q.s.bs N) (by rw [length_append,length_append,length_singleton,GR];omega)) ?_
      rintro y w ⟨l,k,A⟩
      have B:=A.g
      have q:=A.c
      have H:=H.app B q
      clear A
      clear o
      have o:=l
      have a:=a.by B fun e=>by
        obtain ⟨ds,J⟩:=AQ.ty (.inl m) e.symm
        exact absurd (AX J a) (by decide)
      try replace f:=AR d fun b I=>B.block b (AB d b I).2 fun e=>G b I e.symm
      try replace G := fun b (F : c.ownBlock = some b) (D : y.ownBlock = some b) => show False from by
                rcases q with h|h
                · exact G b F (h ▸ D)
                · have:=h b D
                  have:=(AB d b F).2
                  omega
      try replace d:=f
      try clear f
      replace m:=k
      clear k l B q
      refine AK.back<|AK.only ‹_› (i:=18) (by kernel_rfl) O ?_
      have U:=o.size
      have lz:(E i++[x.k]++BA x.i++BA x.s).length≤2000:=by simp only [length_append,length_cons,length_nil];omega
      refine An (Bv (base:=L.heap.size) AO DD O (by decide) O O m (AG d) (BI (fun _=>rfl) _) (by omega) (by omega) U) O ?_
      rintro y w ⟨k,l,B,q⟩
      rw [← map_append,show (E i++[x.k]++BA x.i++BA x.s).length+2=(E i++[x.k]++BA x.i++BA x.s++[BitVec.ofInt 8 x.n,BitVec.ofInt 8 x.p]).length by rw [length_append (bs:=[_,_])];rfl] at k
      have a:=a.by B fun e=>by
        obtain ⟨ds,J⟩:=AQ.ty (.inl m) e.symm
        exact absurd (AX J a) (by decide)
      have o:=o.trans l
      refine AK.back<|Bz (Bp Bo)<|Af 19 O (fun T q=>Bx O) O<|Bj<|AK.done ‹_› (by kernel_rfl) ?_
      refine Ba ?_
      exact B4 (y) ⟨rfl,rfl,rfl,rfl,rfl,trivial⟩ (⟨o,by rw [Y];exact k⟩)
      refine An (B7 (vs:=[BitVec.ofInt 8 x.n,BitVec.ofInt 8 x.p].map b8) AO DD O O O O O) O ?_
      rintro c w ⟨d, -,C, -⟩
      have G:=fun b (F:c.ownBlock=some b) D=>show False from by
        have:=(AB d b F).1
        have:=(AB m b D).2
        omega
      have H:=H.bs C
      have a:=a.bs C
      have m:=m.bs C
      have o:=o.bs C
      have R:=R.bs C
      refine AK.back<|AK.only ‹_› (i:=4) (by kernel_rfl) O ?_
      have U:=o.size
      refine An (Bv (base:=L.heap.size) AO DD O (by decide) O O m (AG R) (BI (fun _=>rfl) _) (by omega) (by omega) U) O ?_
      rintro y w ⟨k,l,B,q⟩
      have q:=q.imp id fun e b (D:y.ownBlock=some b)=>Nat.le_of_eq (Option.some.inj (e.symm.trans D))
      rw [← map_append,show (E i).length+1=(E i++[x.k]).length by rw [length_append];rfl] at k
      have H:=H.app B q
      clear U R
      have a:=a.by B fun e=>by
        obtain ⟨ds,J⟩:=AQ.ty (.inl m) e.symm
        exact absurd (AX J a) (by decide)
      try replace f:=AR d fun b I=>B.block b (AB d b I).2 fun e=>G b I e.symm
      try replace G := fun b (F : c.ownBlock = some b) (D : y.ownBlock = some b) => show False from by
                rcases q with h|h
                · exact G b F (h ▸ D)
                · have:=h b D
                  have:=(AB d b F).2
                  omega
      try replace d:=f
      try clear f
      replace m:=k
      have o:=o.trans l
      clear k l B q
      refine AK.back<|AK.only ‹_› (i:=7) (by kernel_rfl) O ?_
      refine Ah O O (EV _ x.x (E i++[x.k]) x.i L _ o m (Q.i.bs N) (by rw [length_append,length_singleton];omega)) ?_
      rintro y w ⟨l,k,A⟩
      have B:=A.g
      have q:=A.c
      have H:=H.app B q
      clear A
      clear o
      have o:=l
      have a:=a.by B fun e=>by
        obtain ⟨ds,J⟩:=AQ.ty (.inl m) e.symm
        exact absurd (AX J a) (by decide)
      try replace f:=AR d fun b I=>B.block b (AB d b I).2 fun e=>G b I e.symm
      try replace G := fun b (F : c.ownBlock = some b) (D : y.ownBlock = some b) => show False from by
                rcases q with h|h
                · exact G b F (h ▸ D)
                · have:=h b D
                  have:=(AB d b F).2
                  omega
      try replace d:=f
      try clear f
      replace m:=k
      clear k l B q
      refine AK.back<|AK.only ‹_› (i:=10) (by kernel_rfl) O ?_
      refine Ah O O (EV _ x.y (E i++[x.k]++BA x.i) x.s L _ o m (Q.s.bs N) (by rw [length_append,length_append,length_singleton,GR];omega)) ?_
      rintro y w ⟨l,k,A⟩
      have B:=A.g
      have q:=A.c
      have H:=H.app B q
      clear A
      clear o
      have o:=l
      have a:=a.by B fun e=>by
        obtain ⟨ds,J⟩:=AQ.ty (.inl m) e.symm
        exact absurd (AX J a) (by decide)
      try replace f:=AR d fun b I=>B.block b (AB d b I).2 fun e=>G b I e.symm
      try replace G := fun b (F : c.ownBlock = some b) (D : y.ownBlock = some b) => show False from by
                rcases q with h|h
                · exact G b F (h ▸ D)
                · have:=h b D
                  have:=(AB d b F).2
                  omega
      try replace d:=f
      try clear f
      replace m:=k
      clear k l B q
      refine AK.back<|AK.only ‹_› (i:=18) (by kernel_rfl) O ?_
      have U:=o.size
      have lz:(E i++[x.k]++BA x.i++BA x.s).length≤2000:=by simp only [length_append,length_cons,length_nil];omega
      refine An (Bv (base:=L.heap.size) AO DD O (by decide) O O m (AG d) (BI (fun _=>rfl) _) (by omega) (by omega) U) O ?_
      rintro y w ⟨k,l,B,q⟩
      rw [← map_append,show (E i++[x.k]++BA x.i++BA x.s).length+2=(E i++[x.k]++BA x.i++BA x.s++[BitVec.ofInt 8 x.n,BitVec.ofInt 8 x.p]).length by rw [length_append (bs:=[_,_])];rfl] at k
      have a:=a.by B fun e=>by
        obtain ⟨ds,J⟩:=AQ.ty (.inl m) e.symm
        exact absurd (AX J a) (by decide)
      have o:=o.trans l
      refine AK.back<|Bz (Bp Bo)<|Af 19 O (fun T q=>Bx O) O<|Bj<|AK.done ‹_› (by kernel_rfl) ?_
      refine Ba ?_
      exact B4 (y) ⟨rfl,rfl,rfl,rfl,rfl,trivial⟩ (⟨o,by rw [Y];exact k⟩)
      refine An (B7 (vs:=[BitVec.ofInt 8 x.n,BitVec.ofInt 8 x.p].map b8) AO DD O O O O O) O ?_
      rintro c w ⟨d, -,C, -⟩
      have G:=fun b (F:c.ownBlock=some b) D=>show False from by
        have:=(AB d b F).1
        have:=(AB m b D).2
        omega
      have H:=H.bs C
      have a:=a.bs C
      have m:=m.bs C
      have o:=o.bs C
      refine AK.back<|AK.only ‹_› (i:=3) (by kernel_rfl) O ?_
      refine An (B7 (vs:=[x.k].map b8) AO DD O O O O O) O ?_
      rintro q3 w ⟨R, -,C, -⟩
      have H:=H.bs C
      have a:=a.bs C
      have m:=m.bs C
      have o:=o.bs C
      have d:=d.bs C
      clear C
      refine AK.back<|AK.only ‹_› (i:=4) (by kernel_rfl) O ?_
      have U:=o.size
      refine An (Bv (base:=L.heap.size) AO DD O (by decide) O O m (AG R) (BI (fun _=>rfl) _) (by omega) (by omega) U) O ?_
      rintro y w ⟨k,l,B,q⟩
      have q:=q.imp id fun e b (D:y.ownBlock=some b)=>Nat.le_of_eq (Option.some.inj (e.symm.trans D))
      rw [← map_append,show (E i).length+1=(E i++[x.k]).length by rw [length_append];rfl] at k
      have H:=H.app B q
      clear U R
      have a:=a.by B fun e=>by
        obtain ⟨ds,J⟩:=AQ.ty (.inl m) e.symm
        exact absurd (AX J a) (by decide)
      try replace f:=AR d fun b I=>B.block b (AB d b I).2 fun e=>G b I e.symm
      try replace G := fun b (F : c.ownBlock = some b) (D : y.ownBlock = some b) => show False from by
                rcases q with h|h
                · exact G b F (h ▸ D)
                · have:=h b D
                  have:=(AB d b F).2
                  omega
      try replace d:=f
      try clear f
      replace m:=k
      have o:=o.trans l
      clear k l B q
      refine AK.back<|AK.only ‹_› (i:=7) (by kernel_rfl) O ?_
      refine Ah O O (EV _ x.x (E i++[x.k]) x.i L _ o m (Q.i.bs N) (by rw [length_append,length_singleton];omega)) ?_
      rintro y w ⟨l,k,A⟩
      have B:=A.g
      have q:=A.c
      have H:=H.app B q
      clear A
      clear o
      have o:=l
      have a:=a.by B fun e=>by
        obtain ⟨ds,J⟩:=AQ.ty (.inl m) e.symm
        exact absurd (AX J a) (by decide)
      try replace f:=AR d fun b I=>B.block b (AB d b I).2 fun e=>G b I e.symm
      try replace G := fun b (F : c.ownBlock = some b) (D : y.ownBlock = some b) => show False from by
                rcases q with h|h
                · exact G b F (h ▸ D)
                · have:=h b D
                  have:=(AB d b F).2
                  omega
      try replace d:=f
      try clear f
      replace m:=k
      clear k l B q
      refine AK.back<|AK.only ‹_› (i:=10) (by kernel_rfl) O ?_
      refine Ah O O (EV _ x.y (E i++[x.k]++BA x.i) x.s L _ o m (Q.s.bs N) (by rw [length_append,length_append,length_singleton,GR];omega)) ?_
      rintro y w ⟨l,k,A⟩
      have B:=A.g
      have q:=A.c
      have H:=H.app B q
      clear A
      clear o
      have o:=l
      have a:=a.by B fun e=>by
        obtain ⟨ds,J⟩:=AQ.ty (.inl m) e.symm
        exact absurd (AX J a) (by decide)
      try replace f:=AR d fun b I=>B.block b (AB d b I).2 fun e=>G b I e.symm
      try replace G := fun b (F : c.ownBlock = some b) (D : y.ownBlock = some b) => show False from by
                rcases q with h|h
                · exact G b F (h ▸ D)
                · have:=h b D
                  have:=(AB d b F).2
                  omega
      try replace d:=f
      try clear f
      replace m:=k
      clear k l B q
      refine AK.back<|AK.only ‹_› (i:=18) (by kernel_rfl) O ?_
      have U:=o.size
      have lz:(E i++[x.k]++BA x.i++BA x.s).length≤2000:=by simp only [length_append,length_cons,length_nil];omega
      refine An (Bv (base:=L.heap.size) AO DD O (by decide) O O m (AG d) (BI (fun _=>rfl) _) (by omega) (by omega) U) O ?_
      rintro y w ⟨k,l,B,q⟩
      rw [← map_append,show (E i++[x.k]++BA x.i++BA x.s).length+2=(E i++[x.k]++BA x.i++BA x.s++[BitVec.ofInt 8 x.n,BitVec.ofInt 8 x.p]).length by rw [length_append (bs:=[_,_])];rfl] at k
      have a:=a.by B fun e=>by
        obtain ⟨ds,J⟩:=AQ.ty (.inl m) e.symm
        exact absurd (AX J a) (by decide)
      have o:=o.trans l
      refine AK.back<|Bz (Bp Bo)<|Af 19 O (fun T q=>Bx O) O<|Bj<|AK.done ‹_› (by kernel_rfl) ?_
      refine Ba ?_
      exact B4 (y) ⟨rfl,rfl,rfl,rfl,rfl,trivial⟩ (⟨o,by rw [Y];exact k⟩)
    rintro y' w3 ⟨hA3,ho3⟩
    replace hA3:Below L.heap.size L w3:=hA3
    replace ho3:w3.ownsRow L.heap.size 5 1 y' (E (i+1)).length ((E (i+1)).map b8):=ho3
    refine B9<|A5<|Ca O (by omega)<|Ad O<|A7 ?_
    exact Ay (Br ((i+1,y')) ⟨rfl,rfl,rfl,rfl,rfl,trivial⟩ (⟨K,hA3,ho3⟩) (by simp only;omega))
  intro gi
  have K:i=ls.length:=by have:=AD gi;omega
  subst K
  have lB:=bbl ls.length (AU _)
  obtain ⟨B0,hB0⟩:∃B0,B0=E ls.length:=⟨_,rfl⟩
  rw [← hB0] at m lB
  have eB0:B0=BitVec.ofInt 8 (ls.length:Int)::CK ls:=by rw [hB0,hBB];simp only;rw [take_length]
  clear hB0 bbl bb0 X
  obtain ⟨CC,hCC⟩:∃CC:Nat→List (BitVec 8),CC=fun i=>B0++CS (ws.take i):=⟨_,rfl⟩
  have c0:CC 0=B0:=by rw [hCC];simp [CS]
  have ccl:∀i,(CC i).length≤1000000:=fun i=>by
    rw [hCC]
    have:=Mz (ws:=ws.take i) fun t ht=>S.nums t (mem_of_mem_take ht)
    rw [length_take] at this
    simp only [length_append]
    omega
  have s_u:=hw.1.bs V
  rw [← c0] at m
  refine Bq<|Au<|Au<|Bc<|Ay<|B9<|Ap<|Ai<|A9 underlying27 O (CZ _)<|Aa (Ao (FH _) O ‹_› rfl) O ?_
  refine Aa (Aq BY O ‹_›) O ?_
  refine Ad O<|Ak<|Ar ?_
  refine Bu (S:=(Nat×Value)) (fun z=>[(4,z.2),(47,u),(48, .int .i64 (ws.length:Int)),(49, .int .i64 (z.1:Int))]) (fun z w' =>z.1≤ws.length∧Below L.heap.size L w' ∧w'.ownsRow L.heap.size 5 1 z.2 (CC z.1).length ((CC z.1).map b8)) (fun z=>ws.length - z.1) ((0,y)) ⟨rfl,rfl,rfl,rfl,trivial⟩ ?_ ?_
  · exact ⟨Nat.zero_le _,C,m⟩
  clear m s_u C hi V b_m2 z2
  rintro ⟨i,y⟩ w2 ⟨hi,C,m⟩
  dsimp only at hi C m ⊢
  have V:=bt N C
  have s_u:=hw.1.bs V
  refine Ai<|B8 O<|Ak<|Ap<|Am O ?_ ?_
  · intro gi
    have K:i<ws.length:=by have:=AE gi;omega
    obtain ⟨t,ht,htm,hc1,hc2⟩:=On K
    have hta:=hw.2 t htm
    have hcl:=H6 hc1 hc2
    have lt:=S.nums t htm
    have hcl1:=ccl i
    have eCC:CC (i+1)=CC i++BQ t.l:=by
      rw [hCC]
      simp only
      rw [take_succ_eq_append_getElem K,Pn,← ht,Pm,append_assoc]
    have Z:=hta.bs V
    have oneT:[t.x,t.y].all (·.oneCell')=true:=by simp [Z.1.one',Z.2.one']
    refine B1<|Ap<|Ar<|Ai<|Aa (C6 BY O O s_u i O K) O<|Aa (Dx (cs:=[t.x,t.y]) (IB _) (Ig _) O s_u O (by decide) hcl) O<|C2 (cs:=[t.x,t.y]) GF O O O O (fun _=>rfl) (oneT) ?_
    rintro A_t w3 eA_t b_t M zhn3
    have o:=bt C M
    have m:=AF m M
    have Z:=Z.bs M
    refine Ak<|A5<|Ad O<|A9 underlying75 O (FY _)<|Aa (Ao (GG _) O ‹_› rfl) O ?_
    refine Ah O O (Pd (.slice none 0 0) t.y [] t.l w3 (Cv _ _) Z.2 (by simp;omega)) ?_
    rintro p w4 ⟨o_p,hn4⟩
    rw [nil_append,GS] at o_p
    have s_p:=AL o_p
    have lp:(Crc.four (BitVec.ofInt 32 (t.l.length:Int))++BQ t.l).length=4+4*t.l.length:=by rw [length_append,CW];rfl
    have s_q:=BE.drop s_p (i:=4) (by omega)
    rw [Rp] at s_q
    have m:=AF m hn4
    have o:=bt o hn4
    refine Aa (Fo (i:=4) AO O O s_p (by omega)) O<|An (C1 (base:=L.heap.size) AO DD O (by decide) O O m s_q (BI (fun _=>rfl) _) (by rw [CW];omega) (by rw [CW];omega) o.size) O ?_
    rintro y' w5 ⟨ho5,hb5, -⟩
    rw [← map_append,← length_append,← eCC] at ho5
    refine Ab O<|A7<|Ba<|Cr<|Ca O (by omega)<|Ad O<|A7 ?_
    exact Ay (Br ((i+1,y')) ⟨rfl,rfl,rfl,rfl,trivial⟩ (⟨K,o.trans hb5,ho5⟩) (by simp only;omega))
  intro gi
  have K:i=ws.length:=by have:=AD gi;omega
  subst K
  have eC:CC ws.length=FE ls ws:=by rw [hCC];simp only;rw [take_length,eB0];rfl
  have lC:=ccl ws.length
  rw [eC] at m lC
  have s_y:=AL m
  refine Bq<|Au<|Au<|Bc<|Cf<|Ad O<|Ad O<|Ah O O (TI y (FE ls ws) w2 s_y) ?_
  rintro _ w3 ⟨rfl,M⟩
  have s_y:=s_y.bs M
  have o:=bt C M
  refine Ah O O (KN y (FE ls ws) _ w3 s_y (by omega)) ?_
  rintro r w4 ⟨hn4,o_r⟩
  have o:=bt o hn4
  have s_r:=AL o_r
  refine Ah O O (R3 r (ED ls ws) w4 s_r) ?_
  rintro _ w5 ⟨rfl,hn5⟩
  have o:=bt o hn5
  have z3:=AA (bt N (bt C M))
  exact Ab rfl<|Ab rfl<|As<|B2 rfl rfl rfl<|⟨bt N o,_,rfl,((AQ.clip o_r).mono z3).bs hn5⟩

theorem PP (A:Nat) (x:Value) (w:World) (a:AP w A 4 [x]):
  CallsD prog 154 [Value.pointer (some ⟨A,0,none⟩)].toArray (.panicking [{v:=NW,recovered:=false}]) w fun e d w' =>e= .returned (.tuple #[])∧d= .panicking [{v:=NW,recovered:=true}]∧(AP w' A 4 [.bool false]∧w.grownBy w' (some A)):=by
 refine MT (n:=10) func154 O (fun ρ=>rfl) O O O fun o cs=> ?_
 have l:=BC (Below.refl w.heap.size w) (some A)
 refine Ar<|Ai<|Aa (Ge (by kernel_rfl) O) O<|Ak<|Cq O false (rfl)<|Ai<|Aa (G1 (fun _=>by kernel_rfl) O) O<|Aa (Az (i:=1) O O) O<|Aa (Az (i:=0) O O) O<|Ak<|Cq O true (rfl)<|Ai<|C2 (cs:=[]) Ub O O O O (fun _=>rfl) (rfl) ?_
 rintro j m b f c k
 have a:=a.bs c
 refine Ak<|A5<|A6 (Cm (u:= .bool false) (U9 _) O O O a Nat.zero_lt_one) ?_
 rintro p ⟨h,g, -⟩
 exact A7<|Ba<|Gs rfl<|⟨rfl,rfl,h,AS (BC c _) g⟩
theorem PO (A:Nat) (w:World):
  CallsD prog 154 [Value.pointer (some ⟨A,0,none⟩)].toArray .returning w fun e a w' =>e= .returned (.tuple #[])∧a= .returning∧w' =w:=by
 refine MS (n:=10) func154 O (fun ρ=>rfl) O O O fun b cs=>Ar<|Ai<|Aa (Gd (by kernel_rfl) O) O<|Ak<|Cq O true (rfl)<|A5<|Ab O<|A7<|Ba<|Gs O ?_
 exact ⟨rfl,rfl,rfl⟩
theorem KM (F:FuncId) (caps:List Value) (W:World) (R K:Nat→World→Prop)
  (m:∀A w,A=W.heap.size→Below W.heap.size W w→AP w A 4 [.bool false]→IE prog F caps w NW (fun r w' =>r= .tuple #[]∧AP w' A 4 [.bool false]∧R A w') (fun w' =>AP w' A 4 [.bool false]∧K A w')):
  AN prog 50 [.func (.func F) #[] caps.toArray] W (fun r w' =>∃A g,A=W.heap.size∧g.grownBy w' (some A)∧((r= .bool true∧R A g)∨(r= .bool false∧K A g))):=by
 refine G9 (n:=6) func50 (by kernel_rfl) O O O<|D0<|De (by kernel_rfl)<|Da Vm O ?_
 rintro A w i d s -
 refine A7 (Pg.low ?_)
 refine C4 (D1 ?_)
 refine D0<|F6<|Lg.plain 1 (by kernel_rfl)<|Aa (Ew (vs:=[]) (us:=[.pointer (some ⟨A,0,none⟩)]) O O) O ?_
 refine A7 (Pg.low ?_)
 refine G8<|Lg.defer (f:=154) (caps:=[.pointer (some ⟨A,0,none⟩)]) O<|Lg.nil ?_
 refine C4 (D1 ?_)
 refine D0<|De (by kernel_rfl)<|Ad O ?_
 have k:∀w,(invoke (.fn (.func 154) [Value.pointer (some ⟨A,0,none⟩)].toArray) #[]).run prog w= .ok (.enter 154 [Value.pointer (some ⟨A,0,none⟩)].toArray) w:=fun w=>by
  simp [invoke,DN (P:=prog) (w:=w) ⟨_,func154,by kernel_rfl,rfl⟩]
 refine Lw.callVQ (caps:=caps) O O (m A w i s d) (fun w' q=>Pg.lowP (Pg.thenP ?_)) ?_
 ·obtain ⟨c,l⟩:=q
  refine Pg.panD (k w') (PP A _ w' c) ?_
  rintro j ⟨h,b⟩ a e
  exact ⟨_,HJ (v:= .bool false) rfl h underlying4 rfl (e.has 2 _ rfl),A,w',i,b, .inr ⟨rfl,l⟩⟩
 rintro _ o ⟨rfl,c,p⟩
 refine A7 (Pg.low ?_)
 refine C4 (D1 ?_)
 refine D0<|De (by kernel_rfl)<|A6 (Cm (u:= .bool true) (U9 _) O O O c Nat.zero_lt_one) ?_
 rintro j ⟨h,b, -⟩
 refine A7 (Pg.low ?_)
 refine C4 (D1 ?_)
 exact Cg.ret<|Pg.retD (k j) (PO A j) fun a e=>⟨_,HJ (v:= .bool true) rfl h underlying4 rfl (e.has 2 _ rfl),A,o,i,b, .inl ⟨rfl,p⟩⟩
end Go.Proofs.YtblbopcaflaldaaGreatDoor
