/- Texts of this proof, one behind the other: GraphShapes, WtsPl, NumsCode, PutCode, SumsCode, TensList, Book, Bkn, MdlCode, TxtCode, RefShape, RefCode, RefJoined, RefOrd, Ret, RefNode, TxtPl, Pan, MdlRead, MdlPl, ParPl, Rec, ParNum, BookCode, BookLaw, TwinTensor, BookTen, MdlHold, MdlChunk, MdlPut, MdlReading. -/
import Derived.Test.YtblbopcaflaldaaGreatDoorPk2
import Derived.Test.YtblbopcaflaldaaGreatDoorPk1
import Derived.OwnWalk
import Derived.Defers
import Derived.Recover
import Derived.WideLaws
import Derived.Laws.Entries

namespace Go.Proofs.YtblbopcaflaldaaGreatDoor
open Go Go.Dd Go.RowKit List Go.Proofs.Tryz
set_option maxRecDepth 100000
instance:Inhabited N5:=⟨⟨0#8, .slice none 0 0, .slice none 0 0,[],[],0,0⟩⟩
theorem D5 (a:N5):a.cells.length=5:=rfl
structure GN (w:World) (v:Value) (ls:List N5):Prop where
 sl:Sl w 5 v ls.length (Ib N5.cells ls)
 each:∀a ∈ ls,N5.at w a
theorem GN.bs {w w' :World} {v:Value} {ls:List N5} (h:GN w v ls) (g:Below w.heap.size w w'):GN w' v ls:=⟨h.sl.bs g,fun a b=>(h.each a b).bs g⟩
theorem GN.cells {w:World} {v:Value} {ls:List N5} (_h:GN w v ls) {i:Nat} (c:i<ls.length):∀k,k<5→∃q,(ls[i]).cells[k]? =some q∧(Ib N5.cells ls)[i*5+k]? =some q:=fun k b=>by
 rw [Lo (fun a _=>D5 a) c b]
 exact ⟨_,getElem?_eq_getElem (by rw [D5];exact b),getElem?_eq_getElem _⟩
def OP (m:Nat) (l:List Int):Bool:=l.any fun n=>decide (n<0)||decide ((m:Int)≤n)
def Ly (acc:List (List Int)) (x:N5):Option (List Int):=
 if DA x.k x.i x.s x.n x.p && !OP acc.length x.i && Shapes.ok (OW x.k x.s x.n x.p (x.i.map fun j=>acc.getD j.toNat [])) then some (OW x.k x.s x.n x.p (x.i.map fun j=>acc.getD j.toNat [])) else none
def EF:List (List Int)→List N5→Option (List (List Int))
 |acc,[]=>some acc
 |acc,x::l=>match Ly acc x with
  |some s=>EF (acc++[s]) l
  |none=>none
def Mb (k:BitVec 8):Bool:=match CM k with
 |some r=>decide (r.getD 1 0≠0)
 |none=>false
def FC (ls:List N5):Nat:=(ls.filter fun a=>decide (a.k=1#8)).length
def FX (ls:List N5):Option (List (List Int)):=
 if ls.length<1∨32<ls.length then none else match EF [] ls with
 |some ss=>if FC ls=1∧Mb (ls.getD (ls.length - 1) default).k=true then some ss else none
 |none=>none
theorem TU (n:Int) (A m:Nat) (w:World) (a:AM w A 3 [.int .i64 (m:Int)]):AO prog 219 [.int .i64 n, .pointer (some ⟨A,0,none⟩)] w (fun r w' =>r= .bool (decide (n<0)||decide ((m:Int)≤n))∧w' =w):=by
 refine A6 (n:=11) func219 O<|Ai<|Ab O<|Ay<|Ad O<|B6 O<|Ad O ?_
 refine B7 6 O ?_ ?_
 ·intro g
  refine Ae (dj:=6) O O O O<|Ae (dj:=6) O O O O<|Ae (dj:=6) O O O O<|Bn O<|Ab O<|Av<|Ao O O ?_
  rw [g]
  exact ⟨rfl,rfl⟩
 intro g
 refine Ah (dj:=6) O O<|Ad O<|Ah (dj:=6) O O<|Aa (Ap (BI _) O ‹_› rfl) O ?_
 refine Ah (dj:=6) O O<|Aa (E5 O O) O<|Ci O<|Ab O<|Av<|Ao O O ?_
 rw [g]
 exact ⟨rfl,rfl⟩
theorem Tw (v:Value) (l:List Int) (A m:Nat) (w:World) (o:AY (Value.int .i64) w v l) (d:AM w A 3 [.int .i64 (m:Int)]):AO prog 249 [v, .func (.func 219) #[] [.pointer (some ⟨A,0,none⟩)].toArray] w (fun r w' =>(∃j,r= .int .i64 j∧decide (0≤j)=OP m l)∧w' =w):=by
 have s:=o.le
 refine A6 (n:=19) func249 O<|Ai<|Ab O<|A9<|Ad O<|Aa (Au AG O ‹_›) O ?_
 refine Ad O<|Ak<|As ?_
 refine B1 (S:=Nat) (fun i=>[(0,v),(1, .func (.func 219) #[] [.pointer (some ⟨A,0,none⟩)].toArray),(7, .int .i64 (l.length:Int)),(8, .int .i64 (i:Int))]) (fun i w' =>i≤l.length∧OP m (l.take i)=false∧w' =w) (fun i=>l.length - i) (0) ⟨rfl,rfl,rfl,rfl,trivial⟩ ?_ ?_
 ·exact ⟨Nat.zero_le _,rfl,rfl⟩
 rintro i h ⟨t,e,rfl⟩
 refine Ai<|B6 O<|Ak<|Aq<|Al O ?_ ?_
 ·intro c
  have a:i<l.length:=by have:=AE c;omega
  have k:OP m (l.take (i+1))=(OP m (l.take i)||(decide (l.getD i default<0)||decide ((m:Int)≤l.getD i default))):=by
   unfold OP
   rw [take_succ_eq_append_getElem a,any_append]
   simp [a]
  refine B4<|Aq<|As<|Ai<|Ad O<|Ab O<|Ay<|Ad O<|Ad O<|Ad O<|Aa (Ba AG O O ‹_› _ O (by omega)) O ?_
  refine Aa (Bf (BI _) O ‹_› (by omega)) O ?_
  refine D8 (p:=[]) (q:=[.pointer (some ⟨A,0,none⟩)]) O O O (TU (l.getD i default) A m h d) ?_
  rintro _ _ ⟨rfl,rfl⟩
  refine Ak<|Al O ?_ ?_
  ·intro g
   refine Ai<|Ad O<|Ab O<|Av<|Bh<|A0<|A0<|Bh<|A0<|Ao O O ?_
   refine ⟨⟨(i:Int),rfl, ?_⟩,rfl⟩
   have f:l.getD i default ∈ l:=HZ a
   have:OP m l=true:=by unfold OP;exact List.any_eq_true.2 ⟨_,f,g⟩
   rw [this,decide_eq_true (by omega)]
  intro g
  refine Cj<|A8<|Cs<|Cd O (by omega)<|Ad O<|A7 ?_
  exact A4 (Bu (i+1) ⟨rfl,rfl,rfl,rfl,trivial⟩ (⟨a,by rw [k,e,g];rfl,rfl⟩) (by omega))
 intro b
 have a:i=l.length:=by have:=AD b;omega
 subst a
 rw [take_length] at e
 refine Bt<|Ax<|Ax<|Bg<|Cf<|Ab O<|Av<|Ao O O ?_
 exact ⟨⟨-1,rfl,by rw [e];rfl⟩,rfl⟩
theorem Tx (v:Value) (l:List Int) (A m:Nat) (w:World) (c:AY (Value.int .i64) w v l) (a:AM w A 3 [.int .i64 (m:Int)]):AO prog 218 [v, .func (.func 219) #[] [.pointer (some ⟨A,0,none⟩)].toArray] w (fun r w' =>r= .bool (OP m l)∧Below w.heap.size w w'):=by
 refine A6 (n:=9) func218 O<|Ai<|Ab O<|Ay<|Ad O<|Ad O<|Af O O (Tw v l A m w c a) ?_
 rintro _ _ ⟨⟨j,rfl,b⟩,rfl⟩
 exact Aa (E5 rfl rfl) rfl<|Ab rfl<|Av<|Ao rfl rfl<|⟨cngA Value.bool b,Below.refl _ _⟩
theorem Sa (u:Value) (ps:List (Value×List Int)) (w:World) (a:AY (fun p:Value×List Int=>p.1) w u ps):AO prog 222 [u] w (fun r w' =>r=clip u∧Below w.heap.size w w'):=by
 refine A6 (n:=9) func222 O<|Ai<|Ab O<|Ay<|Ad O<|Ad O<|Aa (Au BM O ‹_›) O ?_
 refine Ad O<|Aa (Au BM O ‹_›) O ?_
 exact Aa (Fo BM rfl rfl rfl a.shp) rfl<|Ab rfl<|Av<|Ao rfl rfl<|⟨rfl,Below.refl _ _⟩
theorem IY {k:BitVec 8} {r:List Int} (h:CM k=some r):KD (b8 k) (kv r)∧(∀v,KD (b8 k) v→v=kv r)∧r.length=6:=by
 unfold CM at h
 cases hf:Lz.find? (fun p=>decide (p.2.1=(k.toNat:Int))) with
 |none=>rw [hf] at h;cases h
 |some p=>
  rw [hf] at h
  obtain rfl:p.2.2=r:=by simpa using h
  have a:=mem_of_find?_eq_some hf
  have b:p.2.1=(k.toNat:Int):=by have:=find?_some hf;simpa using this
  have g:∀p ∈ Lz,∀q ∈ Lz,p.2.1=q.2.1→p=q:=by decide
  have c:∀p ∈ Lz,p.2.2.length=6:=by decide
  refine ⟨⟨p,a,by rw [b],rfl⟩,fun v ⟨q,d,f,e⟩=> ?_,c p a⟩
  have:(k.toNat:Int)=q.2.1:=by injection f
  rw [e,g p a q d (b.trans this)]
theorem MZ {k:BitVec 8} (h:CM k=none):∀v,¬KD (b8 k) v:=fun v ⟨q,b,c,_⟩=>by
 unfold CM at h
 have a:Lz.find? (fun p=>decide (p.2.1=(k.toNat:Int)))=none:=by simpa using h
 have:=List.find?_eq_none.1 a q b
 have e:(k.toNat:Int)=q.2.1:=by injection c
 simp [e] at this
theorem MO {l:List Int} (h:l.length=6):∃a b c d e f,l=[a,b,c,d,e,f]:=by
 match l,h with
 |[a,b,c,d,e,f],_=>exact ⟨a,b,c,d,e,f,rfl⟩
theorem FJ {w w' :World} {M:Nat} {d:TypeDesc} {S:Value→Value→Prop} {r:Option Nat} (h:BH w M d S) (g:w.grownBy w' r) (a:some M≠r):BH w' M d S:=by
 have b:=h.lt
 obtain ⟨f,c,h,e⟩:=h
 exact ⟨f,c,by rw [g.block M b a];exact h,e⟩
abbrev K5:TypeId:=79
abbrev Qv:TypeId:=275
def Jx (B:Nat) (w:World) (u:Value) (ps:List (Value×List Int)):Prop:=∀p ∈ ps,AY (Value.int .i64) w p.1 p.2∧∀b,p.1.ownBlock=some b→(B≤b∧b<w.heap.size)∧u.ownBlock≠some b
theorem Jx.bs {B:Nat} {w w' :World} {u:Value} {ps:List (Value×List Int)} (h:Jx B w u ps) (g:Below w.heap.size w w'):Jx B w' u ps:=fun p a=>⟨(h p a).1.bs g,fun b e=>⟨⟨((h p a).2 b e).1.1,Nat.lt_of_lt_of_le ((h p a).2 b e).1.2 g.size⟩,((h p a).2 b e).2⟩⟩
theorem Jx.by {B A:Nat} {w w' :World} {u:Value} {ps:List (Value×List Int)} (h:Jx B w u ps) (g:w.grownBy w' (some A)) (f:A<B):Jx B w' u ps:=fun p a=>
 ⟨(h p a).1.keep (fun b c e=>g.block b c (fun d=>by have:=((h p a).2 b e).1.1;cases d;omega)),fun b e=>⟨⟨((h p a).2 b e).1.1,Nat.lt_of_lt_of_le ((h p a).2 b e).1.2 g.size⟩,((h p a).2 b e).2⟩⟩
theorem Jx.grow {B:Nat} {w w' :World} {u f:Value} {ps:List (Value×List Int)} (h:Jx B w u ps) (g:w.grownBy w' u.ownBlock) (c:f.ownBlock=u.ownBlock∨f.ownBlock=some w.heap.size):Jx B w' f ps:=fun p a=>
 ⟨(h p a).1.keep (fun b i e=>g.block b i (fun d=>((h p a).2 b e).2 d.symm)),fun b e=>⟨⟨((h p a).2 b e).1.1,Nat.lt_of_lt_of_le ((h p a).2 b e).1.2 g.size⟩,fun d=>by
  rcases c with c|c
  ·exact ((h p a).2 b e).2 (c ▸ d)
  ·rw [c] at d;have:=((h p a).2 b e).1.2;cases d;omega⟩⟩
theorem HV:∀(ls:List N5) (a c:List (List Int)),EF a ls=some c→∀x ∈ ls,DA x.k x.i x.s x.n x.p=true
 |[],_,_,_,x,b=>by cases b
 |y::ls,a,c,h,x,b=>by
  unfold EF at h
  cases e:Ly a y with
  |none=>rw [e] at h;cases h
  |some s=>
   rw [e] at h
   rcases List.mem_cons.1 b with rfl|b
   ·unfold Ly at e
    split at e
    ·rename_i d
     simp only [Bool.and_eq_true] at d
     exact d.1.1
    ·cases e
   ·exact HV ls _ _ h x b
theorem OJ {k:BitVec 8} {i s:List Int} {n p:Int} (h:DA k i s n p=true):∃a b c d e f,CM k=some [a,b,c,d,e,f]:=by
 unfold DA at h
 split at h
 ·rename_i a b c d e f g;exact ⟨a,b,c,d,e,f,g⟩
 ·cases h
set_option maxHeartbeats 1000000 in
theorem OU (v:Value) (ls:List N5) (W:World) (h:GN W v ls):
  AO prog 135 [.agg [v].toArray] W (fun r w' =>Below W.heap.size W w' ∧match FX ls with
   |none=>r= .tuple #[.slice none 0 0, .int .i64 1]
   |some ss=>∃u ps,r= .tuple #[u, .int .i64 0]∧LI w' u ps∧AW ps=ss):=by
 obtain ⟨R,hR⟩:∃R,R=FX ls:=⟨_,rfl⟩
 rw [← hR]
 have o:=Below.refl W.heap.size W
 have L:=h.sl
 have hle:=h.sl.le
 refine A6 (n:=92) func135 O<|Ai<|C2 (cs:=[v]) O O O ?_
 rintro A_g w eA_g f hn -
 have o:=o.bs hn
 have L:=L.bs hn
 refine Ab O<|Ab O<|Ay<|Bc underlying24 O (CB _)<|Aa (Ap (EB _) O ‹_› rfl) O ?_
 refine Aa (Au CH O ‹_›) O ?_
 refine Ab O<|A9<|Ad O<|B6 O<|Ad O ?_
 refine B7 19 O ?_ ?_
 ·intro g
  have g:=AE g
  refine Ae (dj:=19) O O O O<|Ae (dj:=19) O O O O<|Bn O<|Ak<|Bx O<|Ai<|Ab O<|Ab O<|Bw<|Bp O O O ?_
  have hN:R=none:=by rw [hR,FX,if_pos (by omega)]
  rw [hN]
  exact ⟨o,rfl⟩
 intro g1
 have g1:=AD g1
 refine Ah (dj:=19) O O<|Ad O<|Ah (dj:=19) O O<|Aa (C1 O O) O<|Ci O<|Ak<|Al O ?_ ?_
 ·intro g
  have g:=AE g
  refine Ai<|Ab O<|Ab O<|Bw<|Bp O O O ?_
  have hN:R=none:=by rw [hR,FX,if_pos (by omega)]
  rw [hN]
  exact ⟨o,rfl⟩
 intro g2
 have g2:=AD g2
 have hgs:FX ls=match EF [] ls with|some ss=>if FC ls=1∧Mb (ls.getD (ls.length - 1) default).k=true then some ss else none|none=>none:=by rw [FX,if_neg (by omega)]
 have hRn:EF [] ls=none→R=none:=fun e=>by rw [hR,hgs,e]
 have z1:=AA o
 have y_g:=BA f
 refine B8<|Af O O (RK w) ?_
 rintro _ w1 ⟨hn1,M,rfl,hMl,C⟩
 have yM:=C.lt
 have f:=f.bs hn1
 have o:=o.trans (hn1.mono z1)
 have z2:=hn1.size
 refine Aa (Bl (vs:=[]) (cs:=[.slice none 0 0]) O (by kernel_rfl)) O<|An (Dw Tm) O ?_
 rintro _ w2 ⟨rfl,l,hn2,hz2⟩
 have f:=f.bs hn2
 have C:=C.bs hn2
 have o:=o.trans (hn2.mono (by omega))
 obtain ⟨A_t,hAt⟩:∃A_t,A_t=w1.heap.size:=⟨_,rfl⟩
 rw [← hAt] at l
 rw [← hAt]
 refine Ab O<|A5 (Co (cs:=[.slice none 0 0]) (k:=1) (by kernel_rfl) O O O O l O) ?_
 rintro w3 ⟨l,hg3,hz3⟩
 have f:=f.by hg3 (by rintro ⟨⟩;omega)
 have C:=FJ C hg3 (by rintro ⟨⟩;omega)
 have o:=o.grown hg3 (by omega) (by rintro _ ⟨⟩;omega)
 obtain ⟨B,hBd⟩:∃B,B=w3.heap.size:=⟨_,rfl⟩
 have yB:A_g<B∧M<B∧A_t<B∧W.heap.size≤B:=by omega
 clear L
 have L:=h.sl.bs o
 refine Ab O<|A9<|Bc underlying24 O (CB _)<|Aa (Ap (EB _) O ‹_› rfl) O ?_
 refine Aa (Au CH O ‹_›) O ?_
 refine Ad O<|Ak<|As ?_
 refine B1 (S:=(Nat×Nat×Value×List (Value×List Int))) (fun z=>[(1, .pointer (some ⟨A_g,0,none⟩)),(4, .int .i64 (ls.length:Int)),(5, .map (some M)),(6, .pointer (some ⟨A_t,0,none⟩)),(7, .int .i64 (z.2.1:Int)),(26,v),(27, .int .i64 (ls.length:Int)),(28, .int .i64 (z.1:Int))]) (fun z w' =>z.1≤ls.length∧Below W.heap.size W w' ∧B≤w'.heap.size∧BH w' M (.int .u8) KD∧AM w' A_g 24 [v]∧AM w' A_t 273 [z.2.2.1]∧w'.ownsRow B 70 1 z.2.2.1 z.1 (z.2.2.2.map (·.1))∧Jx B w' z.2.2.1 z.2.2.2∧(∀p ∈ z.2.2.2,Shapes.ok p.2=true)∧EF (AW z.2.2.2) (ls.drop z.1)=EF [] ls∧z.2.1=FC (ls.take z.1)∧z.2.2.2.length=z.1∧z.2.1≤z.1) (fun z=>ls.length - z.1) ((0,0, .slice none 0 0,[])) ⟨rfl,rfl,rfl,rfl,rfl,rfl,rfl,rfl,trivial⟩ ?_ ?_
 ·exact ⟨Nat.zero_le _,o,by omega,C,f,l,⟨rfl, .inl ⟨rfl,rfl⟩⟩,(fun p hp=>by cases hp),(fun p hp=>by cases hp),rfl,rfl,rfl,AT _⟩
 clear f l C L
 rintro ⟨i,c,u,ps⟩ w4 ⟨hi,o,zB,C,f,l,m,d,hok,hrec,hc,lps,hci⟩
 dsimp only at hi o zB C f l m d hok hrec hc lps hci ⊢
 have L:=h.sl.bs o
 have z4:=AA o
 have ub:=AB m
 have lps2:(AW ps).length=ps.length:=length_map _
 refine Ai<|B6 O<|Ak<|Aq<|Al O ?_ ?_
 ·intro g
  have U:i<ls.length:=by have:=AE g;omega
  obtain ⟨x,Y⟩:∃x,x=ls[i]:=⟨_,rfl⟩
  have hx:=(h.each x (Y ▸ getElem_mem U)).bs o
  have hcl:=h.cells U
  rw [← Y] at hcl
  have ed:ls.drop i=x::ls.drop (i+1):=by rw [drop_eq_getElem_cons U,← Y]
  have hstep:EF [] ls=match Ly (AW ps) x with|some s=>EF (AW ps++[s]) (ls.drop (i+1))|none=>none:=by rw [← hrec,ed];rfl
  have hno:Ly (AW ps) x=none→R=none:=fun e=>hRn (by rw [hstep,e])
  refine B4<|Aq<|As<|Ai<|Ad O<|Aa (Dy CH O O L i O U) O<|Aa (Es (cs:=x.cells) (Ik _) (HG _) O L O (by decide) hcl) O<|An (Dw DY) O ?_
  rintro _ w5 ⟨rfl,E,hn5,hz5⟩
  refine An (Dw GY) O ?_
  rintro _ w6 ⟨rfl,J,hn6,hz6⟩
  have E:=E.bs hn6
  obtain ⟨A_i,eAi⟩:∃A_i,A_i=w4.heap.size:=⟨_,rfl⟩
  obtain ⟨A_x,eAx⟩:∃A_x,A_x=w5.heap.size:=⟨_,rfl⟩
  rw [← eAi] at E
  rw [← eAx] at J
  rw [← eAi,← eAx]
  refine A5 (Ce (u:= .int .i64 (i:Int)) (CA _) O O O E Nat.zero_lt_one) ?_
  rintro w7 ⟨E,hg7,hz7⟩
  have J:=J.by hg7 (by rintro ⟨⟩;omega)
  refine A5 (Co (cs:=x.cells) (k:=5) (by kernel_rfl) O O O hx.ones J O) ?_
  rintro w8 ⟨J,hg8,hz8⟩
  have E:=E.by hg8 (by rintro ⟨⟩;omega)
  have E:AM w8 A_i 3 [.int .i64 (i:Int)]:=E
  have H:Below w4.heap.size w4 w8:=((hn5.trans (hn6.mono (by omega))).grown hg7 (by omega) (by rintro _ ⟨⟩;omega)).grown hg8 (by omega) (by rintro _ ⟨⟩;omega)
  clear L
  have o:=o.trans (H.mono z4)
  have C:=C.bs H
  have f:=f.bs H
  have l:=l.bs H
  have m:=AF m H
  have d:=d.bs H
  have hx:=hx.bs H
  have h_i:=hx.i
  have z8:=H.size
  cases Z:CM x.k with
  |none=>
   refine Ay<|Ad O<|Bc underlying79 O (GR _)<|Aa (Ap (Il _) O ‹_› rfl) O ?_
   refine Aa (Ex.look2n underlying270 BR O O O C (show Tryz.prog.info? Qv=some Tryz.t275 by kernel_rfl) O (MZ Z)) O<|Ad O<|Aa (Ar (i:=0) O O) O<|Aa (Ar (i:=1) O O) O<|An (Dw GZ) O ?_
   rintro _ w9 ⟨rfl,N,hn9,hz9⟩
   refine A5 (Co (cs:=[0,0,0,0,0,0].map (Value.int .i64)) (k:=6) (by kernel_rfl) O O O O N O) ?_
   rintro w10 ⟨N,hg10,hz10⟩
   have o:=(o.trans (hn9.mono (by omega))).grown hg10 (by omega) (by rintro _ ⟨⟩;omega)
   refine Ab O<|A9<|Ad O<|Aa (Cy O) O<|Ad O<|Cl 42 (v' := .bool true) O (cngA Value.bool (rfl))<|Ae (dj:=42) O O O O<|Ae (dj:=42) O O O O<|Ae (dj:=42) O O O O<|Ae (dj:=42) O O O O<|Bn O<|Ad O<|Ae (dj:=48) O O O O<|Ae (dj:=48) O O O O<|Ae (dj:=48) O O O O<|Ae (dj:=48) O O O O<|Bn O<|Ak<|Bx O<|Ai<|Ab O<|Ab O<|Bw<|Bh<|A0<|A0<|Bh<|A0<|Bp O O O ?_
   have hN:R=none:=hno (by unfold Ly;rw [if_neg];unfold DA;rw [Z];simp)
   rw [hN]
   exact ⟨o,rfl⟩
  |some row=>
   obtain ⟨k1,k2,k6⟩:=IY Z
   obtain ⟨ra,rb,rc,rd,re,rf,rfl⟩:=MO k6
   refine Ay<|Ad O<|Bc underlying79 O (GR _)<|Aa (Ap (Il _) O ‹_› rfl) O ?_
   refine Aa (Ex.look2 underlying270 BR O O O C ⟨_,_,(show Tryz.prog.info? Qv=some Tryz.t275 by kernel_rfl),rfl⟩ k1 k2) O<|Ad O<|Aa (Ar (i:=0) O O) O<|Aa (Ar (i:=1) O O) O<|An (Dw GZ) O ?_
   rintro _ w9 ⟨rfl,N,hn9,hz9⟩
   refine A5 (Co (cs:=[ra,rb,rc,rd,re,rf].map (Value.int .i64)) (k:=6) (by kernel_rfl) O O O O N O) ?_
   rintro w10 ⟨N,hg10,hz10⟩
   have t:Below w8.heap.size w8 w10:=hn9.grown hg10 hn9.size (by rintro _ ⟨⟩;omega)
   have o:=o.trans (t.mono (by omega))
   have C:=C.bs t
   have f:=f.bs t
   have l:=l.bs t
   have J:=J.bs t
   have E:=E.bs t
   have m:=AF m t
   have d:=d.bs t
   have hx:=hx.bs t
   have h_i:=hx.i
   have z10:=t.size
   refine Ab O<|A9<|Ad O<|Aa (Cy O) O<|Ad O<|Cl 42 (v' := .bool false) O (cngA Value.bool (rfl))<|Ah (dj:=42) O O<|Aa (Cc (k:=6) (DO _) (DJ _) O O N) O<|Ah (dj:=42) O O<|Aa (Cc (k:=5) (Ik _) (HG _) O O J) O<|Ah (dj:=42) O O<|Af O O (Qx ra rb rc rd re rf x w10 hx) ?_
   rintro _ w11 ⟨rfl,A⟩
   have ekF:DA x.k x.i x.s x.n x.p=FL ra rb rc rd re rf x.i x.s x.n x.p:=by unfold DA;rw [Z]
   have o:=o.trans (A.mono (by omega))
   have C:=C.bs A
   have f:=f.bs A
   have l:=l.bs A
   have J:=J.bs A
   have E:=E.bs A
   have m:=AF m A
   have d:=d.bs A
   have hx:=hx.bs A
   have h_i:=hx.i
   have z11:=A.size
   rw [← ekF]
   refine Ah (dj:=42) O O<|Aa (Cy O) O<|Ci O<|Ad O ?_
   refine B7 48 O ?_ ?_
   ·intro gk
    have gk:DA x.k x.i x.s x.n x.p=false:=by simpa using gk
    refine Ae (dj:=48) O O O O<|Ae (dj:=48) O O O O<|Ae (dj:=48) O O O O<|Ae (dj:=48) O O O O<|Bn O<|Ak<|Bx O<|Ai<|Ab O<|Ab O<|Bw<|Bh<|A0<|A0<|Bh<|A0<|Bp O O O ?_
    have hN:R=none:=hno (by unfold Ly;rw [gk];rfl)
    rw [hN]
    exact ⟨o,rfl⟩
   intro gk
   have gk:DA x.k x.i x.s x.n x.p=true:=by simpa using gk
   refine Ah (dj:=48) O O<|Bc underlying79 O (BT _)<|Ah (dj:=48) O O<|Aa (Ap (BF _) O ‹_› rfl) O ?_
   refine Ah (dj:=48) O O<|Aa (Ep (vs:=[]) (us:=[.pointer (some ⟨A_i,0,none⟩)]) O O) O<|Ah (dj:=48) O O<|Af O O (Tx x.x x.i A_i i w11 h_i E) ?_
   rintro _ w12 ⟨rfl,D⟩
   have o:=o.trans (D.mono (by omega))
   have C:=C.bs D
   have f:=f.bs D
   have l:=l.bs D
   have J:=J.bs D
   have m:=AF m D
   have d:=d.bs D
   have hx:=hx.bs D
   have z12:=D.size
   refine Ci O<|Ak<|Al O ?_ ?_
   ·intro gb
    refine Ai<|Ab O<|Ab O<|Bw<|Bh<|A0<|A0<|Bh<|A0<|Bp O O O ?_
    have hN:R=none:=hno (by unfold Ly;rw [lps2,lps,gb,Bool.not_true,Bool.and_false];rfl)
    rw [hN]
    exact ⟨o,rfl⟩
   intro gb
   have hji:∀j ∈ x.i,0≤j∧j<(ps.length:Int):=fun j hj=>by
    unfold OP at gb
    have:=List.any_eq_false.1 gb j hj
    simp at this
    omega
   have hps:LI w12 u ps:=⟨by have:=AK m;exact this,fun p hp=>(d p hp).1⟩
   refine B4<|Aq<|Ai<|Bc underlying79 O (GR _)<|Aa (Ap (Il _) O ‹_› rfl) O ?_
   refine Aa (C7 O (show _=some (b8 (1#8)) from rfl)) O<|Ak ?_
   refine D1 (St:=Nat) (fun c' =>[(1, .pointer (some ⟨A_g,0,none⟩)),(4, .int .i64 (ls.length:Int)),(5, .map (some M)),(6, .pointer (some ⟨A_t,0,none⟩)),(7, .int .i64 (c' :Int)),(9, .pointer (some ⟨A_x,0,none⟩)),(26,v),(27, .int .i64 (ls.length:Int)),(28, .int .i64 (i:Int))]) (fun c' w' =>w' =w12∧c' =c+(if x.k=1#8 then 1 else 0)) ?_ ?_
   ·refine Al O ?_ ?_
    ·intro g1
     have g1:x.k=1#8:=AE g1
     refine Az<|Ad O<|Cd O (by omega)<|Ab O<|A7 ?_
     exact Bo ((c+1)) ⟨rfl,rfl,rfl,rfl,(cngA (fun z=>some (Value.int .i64 z)) (by omega)),rfl,rfl,rfl,rfl,trivial⟩ (⟨rfl,by rw [if_pos g1]⟩)
    intro g1
    have g1:¬x.k=1#8:=AD g1
    exact Cj<|Bo (c) ⟨rfl,rfl,rfl,rfl,rfl,rfl,rfl,rfl,rfl,trivial⟩ (⟨rfl,by rw [if_neg g1,Nat.add_zero]⟩)
   rintro c' w12 ⟨rfl,hc'⟩
   refine Ai<|Aa (Cc (Ik _) (HG _) O O ‹_›) O ?_
   refine Aa (Cc (T7 _) (SJ _) O O ‹_›) O ?_
   refine Aa (Ep (vs:=[.agg [u].toArray]) (us:=[]) O O) O ?_
   have ub12:=AB m
   refine Af O O (Q8 x u ps w12 hx hps gk hji hok) ?_
   rintro y w13 ⟨T,K,y_own⟩
   obtain ⟨G,hGd⟩:∃G,G=OW x.k x.s x.n x.p (x.i.map fun j=>(AW ps).getD j.toNat []):=⟨_,rfl⟩
   have eG:OW x.k x.s x.n x.p (x.i.map fun j=>(ps.getD j.toNat default).2)=G:=by
    rw [hGd]
    congr 1
    refine map_congr_left fun j hj=> ?_
    have:=hji j hj
    rw [getD_eq_getElem?_getD,getD_eq_getElem?_getD,getElem?_map,getElem?_eq_getElem (by omega)];rfl
   rw [eG] at T
   have o:=o.trans (K.mono (by omega))
   have C:=C.bs K
   have f:=f.bs K
   have l:=l.bs K
   have m:=AF m K
   have d:=d.bs K
   have z13:=K.size
   refine Ab O<|A9<|Ad O<|Af O O (DQ y G w13 T) ?_
   rintro _ w14 ⟨rfl,I⟩
   have o:=o.trans (I.mono (by omega))
   have C:=C.bs I
   have f:=f.bs I
   have l:=l.bs I
   have m:=AF m I
   have d:=d.bs I
   have T:=T.bs I
   have z14:=I.size
   refine Aa (Cy O) O<|Ak<|Al O ?_ ?_
   ·intro go
    have go:Shapes.ok G=false:=by simpa using go
    refine Ai<|Ab O<|Ab O<|Bw<|Bh<|A0<|A0<|Bh<|A0<|Bp O O O ?_
    have hN:R=none:=hno (by unfold Ly;rw [← hGd,go,Bool.and_false];rfl)
    rw [hN]
    exact ⟨o,rfl⟩
   intro go
   have go:Shapes.ok G=true:=by simpa using go
   have e_st:Ly (AW ps) x=some G:=by
    unfold Ly;rw [← hGd,go,gk,lps2,lps]
    have:OP i x.i=false:=by simpa using gb
    rw [this];rfl
   refine B4<|Az<|Bc underlying273 O (Jl _)<|Aa (Ap (Nv _) O ‹_› rfl) O ?_
   refine Ad O<|An (B5 (vs:=[y]) BM NN O O O (by rw [all_cons,T.one'];rfl) O) O ?_
   rintro q w15 ⟨o_q, -,F, -⟩
   have o:=o.trans (F.mono (by omega))
   have C:=C.bs F
   have f:=f.bs F
   have l:=l.bs F
   have m:=AF m F
   have d:=d.bs F
   have T:=T.bs F
   have z15:=F.size
   have ub:=AB m
   refine An (Bz (base:=B) BM NN O (by decide) O O m (AH o_q) (by rw [all_cons,T.one'];rfl) (by omega) (by omega) (by omega)) O ?_
   rintro u' w16 ⟨Q,hn16,X,hcs⟩
   have C:=FJ C X (fun e=>by have:=ub _ e.symm;omega)
   have f:=f.by X (fun e=>by have:=ub _ e.symm;omega)
   have l:=l.by X (fun e=>by have:=ub _ e.symm;omega)
   have hoff2:Jx B w15 u (ps++[(y,G)]):=fun p hp=>(List.mem_append.1 hp).elim (d p) (fun e=>by
    rw [List.mem_singleton.1 e]
    refine ⟨T,fun b e=> ?_⟩
    have h1:=y_own b e
    exact ⟨⟨by omega,by omega⟩,fun e2=>by have:=ub12 b e2;omega⟩)
   have d:=hoff2.grow X hcs
   have z16:=X.size
   have ub' :=AB Q
   have e1:ps.map (·.1)++[y]=(ps++[(y,G)]).map (·.1):=by rw [map_append];rfl
   rw [e1] at Q
   refine Bc underlying273 O (Jl _)<|A5 (Ce (u:=u') (Jl _) O O (AH Q).one' l Nat.zero_lt_one) ?_
   rintro w17 ⟨l,V,hz17⟩
   have C:=FJ C V (fun e=>by have:=Option.some.inj e;omega)
   have f:=f.by V (fun e=>by have:=Option.some.inj e;omega)
   have d:=d.by V (by omega)
   have Q:=AN Q (fun k e=>V.block k (ub' k e).2 (fun e2=>by have:=ub' k e;have:=Option.some.inj e2;omega))
   have hBF:=(o.trans (hn16.mono (by omega))).grown V (by have:=hn16.size;omega) (by rintro _ e;have:=Option.some.inj e;omega)
   have hok' :∀p ∈ ps++[(y,G)],Shapes.ok p.2=true:=fun p hp=>(List.mem_append.1 hp).elim (hok p) (fun e=>by rw [List.mem_singleton.1 e];exact go)
   have hrec' :EF (AW (ps++[(y,G)])) (ls.drop (i+1))=EF [] ls:=by
    rw [hstep,e_st]
    have:AW (ps++[(y,G)])=AW ps++[G]:=by unfold AW;rw [map_append];rfl
    rw [this]
   have hcc:c' =FC (ls.take (i+1)):=by
    rw [hc',hc,take_succ_eq_append_getElem U,← Y]
    unfold FC
    rw [filter_append,length_append]
    by_cases e:x.k=1#8
    ·rw [if_pos e,filter_cons,decide_eq_true e];rfl
    ·rw [if_neg e,filter_cons,decide_eq_false e];rfl
   have hci' :c' ≤i+1:=by rw [hc'];split<;>omega
   refine A7<|A8<|Cs<|Cd O (by omega)<|Ad O<|A7 ?_
   exact A4 (Bu ((i+1,c',u',ps++[(y,G)])) ⟨rfl,rfl,rfl,rfl,rfl,rfl,rfl,rfl,trivial⟩ (⟨U,hBF,by have:=hn16.size;omega,C,f,l,Q,d,hok',hrec',hcc,by rw [length_append,lps];rfl,hci'⟩) (by simp only;omega))
 intro g
 have U:i=ls.length:=by have:=AD g;omega
 subst U
 rw [drop_length] at hrec
 rw [take_length] at hc
 have hgr:EF [] ls=some (AW ps):=by rw [← hrec];rfl
 have hgf:R=if FC ls=1∧Mb (ls.getD (ls.length - 1) default).k=true then some (AW ps) else none:=by rw [hR,hgs,hgr]
 obtain ⟨x,Y⟩:∃x,x=ls.getD (ls.length - 1) default:=⟨_,rfl⟩
 rw [← Y] at hgf
 have hl1:ls.length - 1<ls.length:=by omega
 have hxm:x=ls[ls.length - 1]:=by rw [Y,getD_eq_getElem?_getD,getElem?_eq_getElem hl1];rfl
 have hkx:=HV ls [] _ hgr x (hxm ▸ getElem_mem hl1)
 obtain ⟨ra,rb,rc,rd,re,rf,Z⟩:=OJ hkx
 obtain ⟨k1,k2, -⟩:=IY Z
 have hlast:Mb x.k=decide (rb≠0):=by unfold Mb;rw [Z];rfl
 have ad:∃ad c k,v= .slice (some ad) c k:=by
  obtain ⟨_,ao,cap,e,d1,d2,d3,_⟩:=h.sl
  cases ao with
  |none=>have:=d3 rfl;omega
  |some ad=>exact ⟨ad,_,_,e⟩
 have ck:(Ib N5.cells ls)[(ls.length - 1)*5+0]? =some (b8 x.k):=by
  rw [Lo (fun a _=>D5 a) hl1 (by decide),← hxm];rfl
 refine Bt<|Ax<|Ax<|Bg<|A4<|Ch<|Aq<|Ai<|Ad O<|Bc underlying24 O (CB _)<|Aa (Ap (EB _) O ‹_› rfl) O ?_
 refine Ad O<|Aa (Ex.as (Dr O O (by omega)) (cngA (Value.int .i64) (show (ls.length:Int) - 1=((ls.length - 1:Nat):Int) by omega))) O<|Aa (Dy CH O O L (ls.length - 1) O hl1) O<|Aa (Ej (q:=0) underlying79 O (GR _) O ad) O<|Aa (Ex.ld (Il _) O L ck) O<|Aa (Fi underlying270 BR O O O C ⟨_,_,(show Tryz.prog.info? Qv=some Tryz.t275 by kernel_rfl),rfl⟩ k1 k2) O<|An (Dw GZ) O ?_
 rintro _ w5 ⟨rfl,N,hn5,hz5⟩
 have l:=l.bs hn5
 refine A5 (Co (cs:=[ra,rb,rc,rd,re,rf].map (Value.int .i64)) (k:=6) (by kernel_rfl) O O O O N O) ?_
 rintro w6 ⟨N,hg6,hz6⟩
 have hn46:Below w4.heap.size w4 w6:=hn5.grown hg6 hn5.size (by rintro _ ⟨⟩;omega)
 have l:=l.by hg6 (by rintro ⟨⟩;omega)
 have o:=o.trans (hn46.mono z4)
 have m:=AF m hn46
 have d:=d.bs hn46
 refine Ay<|Ad O<|Aa (Cv O O) O<|Ad O ?_
 refine B7 84 O ?_ ?_
 ·intro gc
  have gc:¬FC ls=1:=fun e=>by rw [← hc] at e;subst e;simp at gc
  refine Ae (dj:=84) O O O O<|Ae (dj:=84) O O O O<|Ae (dj:=84) O O O O<|Bn O<|Ak<|Bx O<|Ai<|Ab O<|Ab O<|Bw<|Bp O O O ?_
  rw [hgf,if_neg (fun h=>gc h.1)]
  exact ⟨o,rfl⟩
 intro gc
 have gc:FC ls=1:=by rw [← hc];simp at gc;omega
 refine Ah (dj:=84) O O<|Bc underlying275 O (CA _)<|Ah (dj:=84) O O<|Aa (Ap (BI _) O N O) O<|Ah (dj:=84) O O<|Aa (Cp O O) O<|Ci O<|Ak<|Al O ?_ ?_
 ·intro gm
  have gm:rb=0:=AE gm
  refine Ai<|Ab O<|Ab O<|Bw<|Bp O O O ?_
  rw [hgf,if_neg (fun h=>by rw [hlast,gm] at h;simp at h)]
  exact ⟨o,rfl⟩
 intro gm
 have gm:rb≠0:=AD gm
 refine B8<|Bc underlying273 O (Jl _)<|Aa (Ap (Nv _) O ‹_› rfl) O ?_
 refine Af O O (Sa u ps w6 (AK m)) ?_
 rintro _ w7 ⟨rfl,hn7⟩
 refine Ab O<|Ab O<|Av<|Bp O O O ?_
 rw [hgf,if_pos ⟨gc,by rw [hlast];exact decide_eq_true gm⟩]
 exact ⟨o.trans (hn7.mono (AA o)),_,ps,rfl,⟨(Sl.clip (AK m)).bs hn7,fun p hp=>(d p hp).1.bs hn7⟩,rfl⟩
theorem JI (v:Value) (ls:List N5) (W:World) (h:GN W v ls):
  AO prog 33 [.agg [v].toArray] W (fun r w' =>Below W.heap.size W w' ∧r= .bool (FX ls).isSome):=by
 have a:=Below.refl W.heap.size W
 refine A6 (n:=12) func33 O<|Ai<|C2 (cs:=[v]) O O O ?_
 rintro f w d g j -
 have a:=a.bs j
 refine Ab O<|Ay<|Aa (Cc (Im _) (CK _) O O ‹_›) O ?_
 refine Af O O (OU v ls w (h.bs a)) ?_
 rintro r k ⟨c,b⟩
 have a:=a.trans (c.mono (AA a))
 cases e:FX ls with
 |none=>
  rw [e] at b
  obtain rfl:=b
  exact Ad rfl<|Aa (Ar (i:=0) rfl rfl) rfl<|Aa (Ar (i:=1) rfl rfl) rfl<|Ab rfl<|Ab rfl<|Ay<|Ad rfl<|Aa (Cp rfl rfl) rfl<|Ab rfl<|Av<|Ao rfl rfl<|⟨a,rfl⟩
 |some ss=>
  rw [e] at b
  obtain ⟨u,ps,rfl, -, -⟩:=b
  exact Ad rfl<|Aa (Ar (i:=0) rfl rfl) rfl<|Aa (Ar (i:=1) rfl rfl) rfl<|Ab rfl<|Ab rfl<|Ay<|Ad rfl<|Aa (Cp rfl rfl) rfl<|Ab rfl<|Av<|Ao rfl rfl<|⟨a,rfl⟩
def DB (ls:List N5):List Int:=((List.range ls.length).filter fun i=>decide ((ls.getD i default).k=2#8)).map fun i:Nat=>(i:Int)
theorem Od (ls:List N5) (i:Nat) (b:i<ls.length):DB (ls.take (i+1))=DB (ls.take i)++(if (ls.getD i default).k=2#8 then [(i:Int)] else []):=by
 have a:∀m,m≤ls.length→DB (ls.take m)=((List.range m).filter fun i=>decide ((ls.getD i default).k=2#8)).map fun i:Nat=>(i:Int):=fun m d=>by
  unfold DB
  rw [length_take,Nat.min_eq_left d]
  congr 1
  refine filter_congr fun j c=> ?_
  have:=List.mem_range.1 c
  have:(ls.take m).getD j default=ls.getD j default:=by rw [getD_eq_getElem?_getD,getElem?_take,if_pos this,← getD_eq_getElem?_getD]
  rw [this]
 rw [a _ b,a _ (Nat.le_of_lt b),range_succ,filter_append,map_append]
 congr 1
 by_cases e:(ls.getD i default).k=2#8
 ·rw [if_pos e,filter_cons,decide_eq_true e];rfl
 ·rw [if_neg e,filter_cons,decide_eq_false e];rfl
theorem JG (v:Value) (ls:List N5) (W:World) (h:GN W v ls) (hm:ls.length≤1000000):
  AO prog 34 [.agg [v].toArray] W (fun r w' =>Below W.heap.size W w' ∧AS w' W.heap.size 3 1 r (DB ls).length ((DB ls).map (Value.int .i64))):=by
 have c:=Below.refl W.heap.size W
 have e:=h.sl
 refine A6 (n:=23) func34 O<|Ai<|C2 (cs:=[v]) O O O ?_
 rintro J w G E H -
 have c:=c.bs H
 have e:=e.bs H
 refine Ab O<|A9<|Bc underlying24 O (CB _)<|Aa (Ap (EB _) O ‹_› rfl) O ?_
 refine Aa (Au CH O ‹_›) O ?_
 refine Ad O<|Ak<|As ?_
 have Z:=AA c
 refine B1 (S:=(Nat×Value)) (fun z=>[(2,z.2),(6,v),(7, .int .i64 (ls.length:Int)),(8, .int .i64 (z.1:Int))]) (fun z w' =>z.1≤ls.length∧Below W.heap.size W w' ∧w'.ownsRow W.heap.size 3 1 z.2 (DB (ls.take z.1)).length ((DB (ls.take z.1)).map (Value.int .i64))) (fun z=>ls.length - z.1) ((0, .slice none 0 0)) ⟨rfl,rfl,rfl,rfl,trivial⟩ ?_ ?_
 ·exact ⟨Nat.zero_le _,c,⟨rfl, .inl ⟨rfl,rfl⟩⟩⟩
 clear E
 rintro ⟨i,u⟩ y ⟨N,c,a⟩
 dsimp only at N c a ⊢
 have e:=h.sl.bs c
 have F:=AA c
 refine Ai<|B6 O<|Ak<|Aq<|Al O ?_ ?_
 ·intro g
  have b:i<ls.length:=by have:=AE g;omega
  obtain ⟨x,o⟩:∃x,x=ls[i]:=⟨_,rfl⟩
  have B:ls.getD i default=x:=by rw [getD_eq_getElem?_getD,getElem?_eq_getElem b,o];rfl
  have Q:=(h.each x (o ▸ getElem_mem b)).bs c
  have t:=h.cells b
  rw [← o] at t
  have d:=Od ls i b
  rw [B] at d
  have X:(DB (ls.take i)).length≤i:=by
   unfold DB
   rw [length_map]
   refine Nat.le_trans (length_filter_le _ _) ?_
   rw [length_range,length_take];omega
  refine B4<|Aq<|As<|Ai<|Ad O<|Aa (Dy CH O O e i O b) O<|Aa (Es (cs:=x.cells) (Ik _) (HG _) O e O (by decide) t) O<|An (Dw GY) O ?_
  rintro _ T ⟨rfl,s,f,M⟩
  refine Ab O<|A5 (Co (cs:=x.cells) (k:=5) (by kernel_rfl) O O O Q.ones s O) ?_
  rintro I ⟨s,C,R⟩
  have j:Below y.heap.size y I:=f.grown C f.size (by rintro _ ⟨⟩;omega)
  have c:=c.trans (j.mono F)
  have a:=AF a j
  have Y:=j.size
  refine Ay<|Bc underlying79 O (GR _)<|Aa (Ap (Il _) O ‹_› rfl) O ?_
  refine Aa (C7 O (show _=some (b8 (2#8)) from rfl)) O<|Ak<|Al O ?_ ?_
  ·intro p
   have p:x.k=2#8:=AE p
   rw [if_pos p] at d
   refine Az<|Ad O<|Ad O<|An (B5 (vs:=[(i:Int)].map (Value.int .i64)) AG DY O O O O O) O ?_
   rintro q U ⟨D, -,m, -⟩
   have a:=AF a m
   have V:=m.size
   refine An (C5 (base:=W.heap.size) AG DY O (by decide) O O a (AH D) (BB (fun _=>rfl) _) (by omega) (by omega) (by omega)) O ?_
   rintro L w5 ⟨l,A, -⟩
   have K:(DB (ls.take i)).length+1=(DB (ls.take (i+1))).length:=by rw [d,length_append];rfl
   rw [← map_append,← d,K] at l
   refine Ab O<|A7<|A8<|Cs<|Cd O (by omega)<|Ad O<|A7 ?_
   exact A4 (Bu ((i+1,L)) ⟨rfl,rfl,rfl,rfl,trivial⟩ (⟨b,(c.trans (m.mono (by omega))).trans A,l⟩) (by simp only;omega))
  intro p
  have p:¬x.k=2#8:=AD p
  rw [if_neg p,append_nil] at d
  refine Cj<|A8<|Cs<|Cd O (by omega)<|Ad O<|A7 ?_
  exact A4 (Bu ((i+1,u)) ⟨rfl,rfl,rfl,rfl,trivial⟩ (⟨b,c,by rw [d];exact a⟩) (by simp only;omega))
 intro g
 have b:i=ls.length:=by have:=AD g;omega
 subst b
 rw [take_length] at a
 refine Bt<|Ax<|Ax<|Bg<|Cf<|Ad O<|Af O O (JP u (DB ls) y (AK a)) ?_
 rintro _ T ⟨rfl,f⟩
 exact Ab rfl<|Av<|Ao rfl rfl<|⟨c.trans (f.mono F),(AS.clip a).bs f⟩
theorem Ni (v:Value) (ls:List N5) (W:World) (h:GN W v ls) (a:ls.length≤1000000):
  AO prog 34 [.agg [v].toArray] W (fun r w' =>Below W.heap.size W w' ∧AY (Value.int .i64) w' r (DB ls)):=(JG v ls W h a).mono fun _ _ ⟨c,b⟩=>⟨c,b.slT⟩
end Go.Proofs.YtblbopcaflaldaaGreatDoor

namespace Go.Proofs.YtblbopcaflaldaaGreatDoor
open Go Go.Dd Go.RowKit List
set_option maxRecDepth 100000
abbrev PV:=List Int×List (BitVec 32)
def pv (t:T4):PV:=(t.s,t.l)
def Kk (t:PV) (s:List Int):Bool:=MG t.1 t.2 && decide (t.1=s)
def Oa:List PV→List N5→Bool
 |_,[]=>true
 |[],_::_=>false
 |t::ts,x::xs=>Kk t x.s && Oa ts xs
abbrev F2 (ls:List N5):List N5:=ls.filter fun a=>decide (a.k=2#8)
theorem KN (ls:List N5):(DB ls).map (fun j=>ls.getD j.toNat default)=F2 ls:=by
 unfold DB
 rw [map_map]
 have e:ls=(List.range ls.length).map fun i=>ls.getD i default:=by
  refine ext_getElem (by simp) fun i a c=> ?_
  simp [a]
 conv=>rhs;unfold F2;rw [e,filter_map]
 have b:((fun j:Int=>ls.getD j.toNat default)∘fun i:Nat=>(i:Int))=fun i=>ls.getD i default:=by funext i;simp
 rw [b];rfl
theorem Pr {ls:List N5} {j:Nat} (a:j<(DB ls).length):∃i:Nat,i<ls.length∧(DB ls).getD j default=(i:Int)∧∃b:j<(F2 ls).length,(F2 ls)[j]=ls.getD i default:=by
 have d:(DB ls)[j] ∈ DB ls:=getElem_mem a
 obtain ⟨i,c,e⟩:=List.mem_map.1 (show (DB ls)[j] ∈ ((List.range ls.length).filter fun i=>decide ((ls.getD i default).k=2#8)).map fun i:Nat=>(i:Int) from d)
 have c:=List.mem_range.1 (List.mem_filter.1 c).1
 have b:j<(F2 ls).length:=by rw [← KN,length_map];exact a
 refine ⟨i,c,by rw [getD_eq_getElem?_getD,getElem?_eq_getElem a];exact e.symm,b, ?_⟩
 have:(F2 ls)[j]? =some (ls.getD i default):=by
  rw [← KN,getElem?_map,getElem?_eq_getElem a,← e];simp
 rw [getElem?_eq_getElem b] at this
 exact Option.some.inj this
theorem GI:∀{ws:List PV} {xs:List N5},ws.length=xs.length→(Oa ws xs=true↔∀i (h:i<xs.length),Kk (ws.getD i ([],[])) xs[i].s=true)
 |[],[],_=>⟨fun _ i h=>absurd h (by simp),fun _=>rfl⟩
 |t::ws,x::xs,hl=>by
  have b:=GI (ws:=ws) (xs:=xs) (by simpa using hl)
  show (Kk t x.s && Oa ws xs)=true↔_
  rw [Bool.and_eq_true,b]
  constructor
  ·rintro ⟨d,c⟩ i a
   cases i with
   |zero=>exact d
   |succ i=>exact c i (by simpa using a)
  ·intro h
   exact ⟨h 0 (by simp),fun i a=>h (i+1) (by simpa using a)⟩
theorem Ll {ls:List N5} {a:List (List Int)} (h:FX ls=some a):ls.length≤32:=by
 unfold FX at h
 split at h
 ·cases h
 ·omega
end Go.Proofs.YtblbopcaflaldaaGreatDoor

namespace Go.Proofs.YtblbopcaflaldaaGreatDoor
open Go Go.Dd Go.RowKit List Go.Proofs.Tryz
set_option maxRecDepth 100000
def gf (l:List (BitVec 8)):BitVec 32:=Rj (l.getD 0 default) (l.getD 1 default) (l.getD 2 default) (l.getD 3 default)
theorem NR {l:List (BitVec 8)} (h:4≤l.length):nums l=gf l::nums (l.drop 4):=by
 have:=O1 l 0 (by omega)
 simpa [gf] using this
theorem QC (v:Value) (l:List (BitVec 8)) (w:World) (c:AY b8 w v l) (d:4≤l.length):AO prog 153 [v] w (fun r w' =>r=u32 (gf l)∧Below w.heap.size w w'):=by
 refine A6 (n:=25) func153 O<|Ai<|Aa (Br (show _=some (u32 (0#32)) from rfl)) O<|Ak<|Aq<|Eb mixed (by kernel_rfl)<|B9 O<|A3 (fun b a=>Ba AJ O O (Sl.bs ‹_› a) 0 O (by omega)) O ?_
 refine A3 (fun b a=>Bf (IB _) O (Sl.bs ‹_› a) (by omega)) O ?_
 refine A3 (fun b a=>Ef Oi HE O) O<|B9 O<|A3 (fun b a=>Ba AJ O O (Sl.bs ‹_› a) 1 O (by omega)) O ?_
 refine A3 (fun b a=>Bf (IB _) O (Sl.bs ‹_› a) (by omega)) O ?_
 refine A3 (fun b a=>Ef Oi HE O) O<|A3 (fun b a=>F0 (j:=8) O O (by decide)) O<|A3 (fun b a=>Gm O O) O<|B9 O<|A3 (fun b a=>Ba AJ O O (Sl.bs ‹_› a) 2 O (by omega)) O ?_
 refine A3 (fun b a=>Bf (IB _) O (Sl.bs ‹_› a) (by omega)) O ?_
 refine A3 (fun b a=>Ef Oi HE O) O<|A3 (fun b a=>F0 (j:=16) O O (by decide)) O<|A3 (fun b a=>Gm O O) O<|B9 O<|A3 (fun b a=>Ba AJ O O (Sl.bs ‹_› a) 3 O (by omega)) O ?_
 refine A3 (fun b a=>Bf (IB _) O (Sl.bs ‹_› a) (by omega)) O ?_
 refine A3 (fun b a=>Ef Oi HE O) O<|A3 (fun b a=>F0 (j:=24) O O (by decide)) O<|A3 (fun b a=>Gm O O) O<|Eh O ?_
 refine Dq (fun b a=> ?_)
 exact A4<|Ch<|Er<|Ao rfl rfl<|⟨rfl,a⟩
theorem KC (v:Value) (l:List (BitVec 8)) (w:World) (b:AY b8 w v l):AO prog 49 [v] w (fun r w' =>r= .tuple #[u32 (if l.length<4 then 0#32 else gf l), .int .i64 (if l.length<4 then 5 else 0)]∧Below w.heap.size w w'):=by
 refine A6 (n:=9) func49 O<|Ai<|Aa (Br (show _=some (u32 (0#32)) from rfl)) O<|Ab O<|A9<|Ad O<|Aa (Au AJ O ‹_›) O ?_
 refine B6 O<|Ak<|Al O ?_ ?_
 ·intro g
  have a:l.length<4:=by have:=AE g;omega
  exact Ai<|Aa (Br (show _=some (u32 (0#32)) from rfl)) rfl<|Ab rfl<|Bw<|Bp rfl rfl rfl<|⟨by rw [if_pos a,if_pos a],Below.refl _ _⟩
 intro g
 have a:¬l.length<4:=by have:=AD g;omega
 refine B8<|Ad O<|Af O O (QC v l w b (by omega)) ?_
 rintro _ d ⟨rfl,c⟩
 exact Ab rfl<|Ab rfl<|Av<|Bp rfl rfl rfl<|⟨by rw [if_neg a,if_neg a],c⟩
theorem Nk (k:Nat) (w:World) (f:k≤16777216):AO prog 228 [.slice none 0 0, .int .i64 (k:Int)] w (fun r w' =>w'.ownsRow w.heap.size 82 1 r 0 []∧Below w.heap.size w w'):=by
 have a:=Ct w 1
 refine A6 (n:=27) func228 O<|Ai<|Ab O<|A9<|Ad O<|B6 O<|Ak<|Cm O false (by simp)<|B4<|Aq<|Ai<|Ad O<|Ad O<|Aa (E0 CN O) O<|Ad O<|Aa (Au CN O ‹_›) O ?_
 refine Aa (Dr O O (by omega)) O<|Aa (Dr O O (by omega)) O<|Ab O<|Ay<|Ad O<|Aa (C1 O O) O<|Ak<|Al O ?_ ?_
 ·intro g
  have d:0<k:=by have:=AE g;omega
  refine Az<|Ad O<|Ad O<|Aa (E0 CN O) O<|Aa (Ex.as (u:= .slice none 0 0) (Ey (j:=0) CN O O a (AT 0)) O) O<|Aa (Ex.as (u:= .int .i64 (k:Int)) (Bq O) (cngA (Value.int .i64) (by omega))) O<|An (Gp (tn:=3) (kn:= .i64) CN Mf O (by decide) Hr O O d (by omega) (by omega)) O ?_
  rintro v b ⟨cap,xs,rfl,c,e⟩
  have a:=Ct b 1
  refine Ad O<|Aa (Au CN O ‹_›) O ?_
  exact Aa (Ex.extH (j:=0) CN rfl rfl (Nat.zero_le cap)) rfl<|Ab rfl<|Ay<|Ad rfl<|Ab rfl<|Av<|Ao rfl rfl<|⟨Hm (k:=0) (m:=k) (xs:=[]) (by simpa using c) rfl,e⟩
 ·intro g
  exact B8<|Ad rfl<|Ab rfl<|Av<|Ao rfl rfl<|⟨⟨rfl, .inl ⟨rfl,rfl⟩⟩,Below.refl _ _⟩
theorem Mv (v:Value) (ps:List (Value×List (BitVec 32))) (w:World) (m:AY (fun p:Value×List (BitVec 32)=>p.1) w v ps) (y:∀p ∈ ps,AY (u32) w p.1 p.2) (s:(ps.map (·.2)).flatten.length≤16777216):
  AO prog 145 [v] w (fun r w' =>w'.ownsRow w.heap.size 82 1 r (ps.map (·.2)).flatten.length ((ps.map (·.2)).flatten.map (u32))∧Below w.heap.size w w'):=by
 have A:=m.le
 have c:∀i,i<ps.length→AY (u32) w (ps.getD i default).1 (ps.getD i default).2:=fun i l=>y _ (HZ l)
 refine A6 (n:=36) func145 O<|Ai<|Ab O<|Ay<|Ab O<|A9<|Ad O<|Aa (Au Jn O ‹_›) O ?_
 refine Ad O<|Ak<|As ?_
 refine B1 (S:=Nat) (fun i=>[(0,v),(3, .int .i64 ((((ps.take i).map (·.2)).flatten.length:Nat):Int)),(9,v),(10, .int .i64 (ps.length:Int)),(11, .int .i64 (i:Int))]) (fun i w' =>i≤ps.length∧w' =w) (fun i=>ps.length - i) (0) ⟨rfl,rfl,rfl,rfl,rfl,trivial⟩ ?_ ?_
 ·exact ⟨by omega,rfl⟩
 rintro i e ⟨l,rfl⟩
 refine Ai<|B6 O<|Ak<|Aq<|Al O ?_ ?_
 ·intro h
  have a:i<ps.length:=by simp at h;omega
  have q:=c i a
  have t:=Lt (ps:=ps) (i+1)
  have j:=Ii a
  have k:=cngA length j
  rw [length_append] at k
  refine B4<|Aq<|As<|Ai<|Aa (Ba Jn O O ‹_› _ O (by omega)) O ?_
  refine Aa (Bf (Rb _) O ‹_› (by omega)) O ?_
  refine Ab O<|Ay<|Ad O<|Ad O<|Aa (Au CN O ‹_›) O ?_
  refine Cd O (by omega)<|Ab O<|Ay<|Ad O<|B6 O<|Ak<|Cm O false (by simp;omega)<|Cj<|A8<|Cs<|Cd O (by omega)<|Ad O<|A7 ?_
  exact A4 (Bu (i+1) ⟨rfl,(cngA (fun x=>some (Value.int .i64 x)) (by omega)),rfl,rfl,rfl,trivial⟩ (⟨a,rfl⟩) (by omega))
 intro h
 have a:i=ps.length:=by simp at h;omega
 subst a
 rw [take_length]
 refine Bt<|Ax<|Ax<|Bg<|Cf<|Ad O<|Af O O (Nk _ e s) ?_
 rintro x B ⟨d,b⟩
 have g:=m.bs b
 refine Ab O<|A9<|Ad O<|Aa (Au Jn O ‹_›) O ?_
 refine Ad O<|Ak<|As ?_
 refine B1 (S:=(Nat×Value)) (fun z=>[(0,v),(6,z.2),(25,v),(26, .int .i64 (ps.length:Int)),(27, .int .i64 (z.1:Int))]) (fun z w' =>z.1≤ps.length∧w'.ownsRow e.heap.size 82 1 z.2 ((ps.take z.1).map (·.2)).flatten.length (((ps.take z.1).map (·.2)).flatten.map (u32))∧Below e.heap.size e w') (fun z=>ps.length - z.1) ((0,x)) ⟨rfl,rfl,rfl,rfl,rfl,trivial⟩ ?_ ?_
 ·exact ⟨Nat.zero_le _,by simpa using d,b⟩
 clear d b g
 rintro ⟨i,x⟩ B ⟨l,d,b⟩
 dsimp only at l d ⊢
 have g:=m.bs b
 refine Ai<|B6 O<|Ak<|Aq<|Al O ?_ ?_
 ·intro h
  have a:i<ps.length:=by simp at h;omega
  have q:=(c i a).bs b
  have t:=Lt (ps:=ps) (i+1)
  have j:=Ii a
  have k:=cngA length j
  rw [length_append] at k
  refine B4<|Aq<|As<|Ai<|Aa (Ba Jn O O ‹_› _ O (by omega)) O ?_
  refine Aa (Bf (Rb _) O ‹_› (by omega)) O ?_
  refine Ab O<|Ak<|Az<|Ad O<|Ad O<|An (C5 (base:=e.heap.size) CN Mf O (by decide) O O d q (BB (fun _=>rfl) _) (by omega) (by omega) b.size) O ?_
  rintro u C ⟨f,o, -⟩
  rw [← map_append,← j,← k] at f
  refine Ab O<|A7<|A8<|Cs<|Cd O (by omega)<|Ad O<|A7 ?_
  exact A4 (Bu ((i+1,u)) ⟨rfl,rfl,rfl,rfl,rfl,trivial⟩ (⟨a,f,b.trans o⟩) (by simp only;omega))
 intro h
 have a:i=ps.length:=by simp at h;omega
 subst a
 rw [take_length] at d
 exact Bt<|Ax<|Ax<|Bg<|Cf<|Ad rfl<|Ab rfl<|Av<|Ao rfl rfl<|⟨d,b⟩
theorem OZ (k:Nat) (w:World) (f:k≤16777216):AO prog 160 [.slice none 0 0, .int .i64 (k:Int)] w (fun r w' =>w'.ownsRow w.heap.size 5 1 r 0 []∧Below w.heap.size w w'):=by
 have a:=Ct w 1
 refine A6 (n:=27) func160 O<|Ai<|Ab O<|A9<|Ad O<|B6 O<|Ak<|Cm O false (by simp)<|B4<|Aq<|Ai<|Ad O<|Ad O<|Aa (E0 AJ O) O<|Ad O<|Aa (Au AJ O ‹_›) O ?_
 refine Aa (Dr O O (by omega)) O<|Aa (Dr O O (by omega)) O<|Ab O<|Ay<|Ad O<|Aa (C1 O O) O<|Ak<|Al O ?_ ?_
 ·intro g
  have d:0<k:=by have:=AE g;omega
  refine Az<|Ad O<|Ad O<|Aa (E0 AJ O) O<|Aa (Ex.as (u:= .slice none 0 0) (Ey (j:=0) AJ O O a (AT 0)) O) O<|Aa (Ex.as (u:= .int .i64 (k:Int)) (Bq O) (cngA (Value.int .i64) (by omega))) O<|An (Gp (tn:=3) (kn:= .i64) AJ CO O (by decide) Hr O O d (by omega) (by omega)) O ?_
  rintro v b ⟨cap,xs,rfl,c,e⟩
  have a:=Ct b 1
  refine Ad O<|Aa (Au AJ O ‹_›) O ?_
  exact Aa (Ex.extH (j:=0) AJ rfl rfl (Nat.zero_le cap)) rfl<|Ab rfl<|Ay<|Ad rfl<|Ab rfl<|Av<|Ao rfl rfl<|⟨Hm (k:=0) (m:=k) (xs:=[]) (by simpa using c) rfl,e⟩
 ·intro g
  exact B8<|Ad rfl<|Ab rfl<|Av<|Ao rfl rfl<|⟨⟨rfl, .inl ⟨rfl,rfl⟩⟩,Below.refl _ _⟩
theorem Nr (v:Value) (ps:List (Value×List (BitVec 8))) (w:World) (m:AY (fun p:Value×List (BitVec 8)=>p.1) w v ps) (y:∀p ∈ ps,AY (b8) w p.1 p.2) (s:(ps.map (·.2)).flatten.length≤16777216):
  AO prog 56 [v] w (fun r w' =>w'.ownsRow w.heap.size 5 1 r (ps.map (·.2)).flatten.length ((ps.map (·.2)).flatten.map (b8))∧Below w.heap.size w w'):=by
 have A:=m.le
 have c:∀i,i<ps.length→AY (b8) w (ps.getD i default).1 (ps.getD i default).2:=fun i l=>y _ (HZ l)
 refine A6 (n:=36) func56 O<|Ai<|Ab O<|Ay<|Ab O<|A9<|Ad O<|Aa (Au FA O ‹_›) O ?_
 refine Ad O<|Ak<|As ?_
 refine B1 (S:=Nat) (fun i=>[(0,v),(3, .int .i64 ((((ps.take i).map (·.2)).flatten.length:Nat):Int)),(9,v),(10, .int .i64 (ps.length:Int)),(11, .int .i64 (i:Int))]) (fun i w' =>i≤ps.length∧w' =w) (fun i=>ps.length - i) (0) ⟨rfl,rfl,rfl,rfl,rfl,trivial⟩ ?_ ?_
 ·exact ⟨by omega,rfl⟩
 rintro i e ⟨l,rfl⟩
 refine Ai<|B6 O<|Ak<|Aq<|Al O ?_ ?_
 ·intro h
  have a:i<ps.length:=by simp at h;omega
  have q:=c i a
  have t:=Lt (ps:=ps) (i+1)
  have j:=Ii a
  have k:=cngA length j
  rw [length_append] at k
  refine B4<|Aq<|As<|Ai<|Aa (Ba FA O O ‹_› _ O (by omega)) O ?_
  refine Aa (Bf (H2 _) O ‹_› (by omega)) O ?_
  refine Ab O<|Ay<|Ad O<|Ad O<|Aa (Au AJ O ‹_›) O ?_
  refine Cd O (by omega)<|Ab O<|Ay<|Ad O<|B6 O<|Ak<|Cm O false (by simp;omega)<|Cj<|A8<|Cs<|Cd O (by omega)<|Ad O<|A7 ?_
  exact A4 (Bu (i+1) ⟨rfl,(cngA (fun x=>some (Value.int .i64 x)) (by omega)),rfl,rfl,rfl,trivial⟩ (⟨a,rfl⟩) (by omega))
 intro h
 have a:i=ps.length:=by simp at h;omega
 subst a
 rw [take_length]
 refine Bt<|Ax<|Ax<|Bg<|Cf<|Ad O<|Af O O (OZ _ e s) ?_
 rintro x B ⟨d,b⟩
 have g:=m.bs b
 refine Ab O<|A9<|Ad O<|Aa (Au FA O ‹_›) O ?_
 refine Ad O<|Ak<|As ?_
 refine B1 (S:=(Nat×Value)) (fun z=>[(0,v),(6,z.2),(25,v),(26, .int .i64 (ps.length:Int)),(27, .int .i64 (z.1:Int))]) (fun z w' =>z.1≤ps.length∧w'.ownsRow e.heap.size 5 1 z.2 ((ps.take z.1).map (·.2)).flatten.length (((ps.take z.1).map (·.2)).flatten.map (b8))∧Below e.heap.size e w') (fun z=>ps.length - z.1) ((0,x)) ⟨rfl,rfl,rfl,rfl,rfl,trivial⟩ ?_ ?_
 ·exact ⟨Nat.zero_le _,by simpa using d,b⟩
 clear d b g
 rintro ⟨i,x⟩ B ⟨l,d,b⟩
 dsimp only at l d ⊢
 have g:=m.bs b
 refine Ai<|B6 O<|Ak<|Aq<|Al O ?_ ?_
 ·intro h
  have a:i<ps.length:=by simp at h;omega
  have q:=(c i a).bs b
  have t:=Lt (ps:=ps) (i+1)
  have j:=Ii a
  have k:=cngA length j
  rw [length_append] at k
  refine B4<|Aq<|As<|Ai<|Aa (Ba FA O O ‹_› _ O (by omega)) O ?_
  refine Aa (Bf (H2 _) O ‹_› (by omega)) O ?_
  refine Ab O<|Ak<|Az<|Ad O<|Ad O<|An (C5 (base:=e.heap.size) AJ CO O (by decide) O O d q (BB (fun _=>rfl) _) (by omega) (by omega) b.size) O ?_
  rintro u C ⟨f,o, -⟩
  rw [← map_append,← j,← k] at f
  refine Ab O<|A7<|A8<|Cs<|Cd O (by omega)<|Ad O<|A7 ?_
  exact A4 (Bu ((i+1,u)) ⟨rfl,rfl,rfl,rfl,rfl,trivial⟩ (⟨a,f,b.trans o⟩) (by simp only;omega))
 intro h
 have a:i=ps.length:=by simp at h;omega
 subst a
 rw [take_length] at d
 exact Bt<|Ax<|Ax<|Bg<|Cf<|Ad rfl<|Ab rfl<|Av<|Ao rfl rfl<|⟨d,b⟩
theorem Oj (x:BitVec 32) (w:World):AO prog 147 [i32 x] w (fun r w' =>r=u32 x∧Below w.heap.size w w'):=by
 exact A6 (n:=5) func147 rfl<|Ai<|Aa (Br (show _=some (u32 (0#32)) from rfl)) rfl<|Ay<|Ad rfl<|Aa (F7 TK HE rfl) rfl<|Ab rfl<|Av<|Ao rfl rfl<|⟨rfl,Below.refl _ _⟩
theorem Sg (v:Value) (l:List (BitVec 32)) (w:World) (o:AY i32 w v l) (B:l.length≤4194304):
  AO prog 146 [v, .func (.func 147) #[] #[]] w (fun r w' =>w'.ownsRow w.heap.size 82 1 r l.length (l.map u32)∧Below w.heap.size w w'):=by
 have y:=o.le
 refine A6 (n:=26) func146 O<|Ai<|Ab O<|Ay<|Ad O<|Aa (Au GS O ‹_›) O ?_
 refine An (Fu CN Mf O O O (AT _) (by omega) (by omega)) O ?_
 rintro x q ⟨a, -,d, -⟩
 have g:=o.bs d
 obtain ⟨z,s⟩:∃z,z=replicate l.length 0#32:=⟨_,rfl⟩
 have k:l.length=z.length:=by rw [s,length_replicate]
 have t:(replicate l.length [Value.int .u32 0]).flatten=z.map u32:=by rw [s];exact HL (enc:=u32) (z:=0#32) l.length
 rw [t] at a
 refine Ab O<|A9<|Ad O<|Aa (Au GS O ‹_›) O ?_
 refine Ad O<|Ak<|As ?_
 refine B1 (S:=Nat) (fun i=>[(1, .func (.func 147) #[] #[]),(5,x),(11,v),(12, .int .i64 (l.length:Int)),(13, .int .i64 (i:Int))]) (fun i w' =>i≤l.length∧w'.ownsRow w.heap.size 82 1 x l.length ((l.take i++z.drop i).map u32)∧Below w.heap.size w w') (fun i=>l.length - i) (0) ⟨rfl,rfl,rfl,rfl,rfl,trivial⟩ ?_ ?_
 ·exact ⟨by omega,by rw [N7];exact a,d⟩
 clear a d g
 rintro i q ⟨C,a,d⟩
 have g:=o.bs d
 refine Ai<|B6 O<|Ak<|Aq<|Al O ?_ ?_
 ·intro h
  have c:i<l.length:=by simp at h;omega
  refine B4<|Aq<|As<|Ai<|Ad O<|Aa (Ba GS O O ‹_› _ O (by omega)) O ?_
  refine Aa (Bf (Uv _) O ‹_› (by omega)) O ?_
  refine Ab O<|Ab O<|Ak<|Az<|Ad O<|Ad O<|Ad O<|Ad O<|D8 (p:=[]) O O O (Oj (l.getD i default) q) ?_
  rintro _ D ⟨rfl,f⟩
  have a:=AF a f
  have m:=(AH a).shp
  refine Aa (Ee CN O O m i O c) O<|A5 (Fx (LD _) O O O a (by simp;omega)) ?_
  rintro A ⟨j,u, -⟩
  rw [← map_set,P8 k (by omega)] at j
  refine A7<|A8<|Cs<|Cd O (by omega)<|Ad O<|A7 ?_
  exact A4 (Bu (i+1) ⟨rfl,rfl,rfl,rfl,rfl,trivial⟩ (⟨c,j,(bt d f).grown u (AA (bt d f)) fun b e=>(AB a b e).1⟩) (by omega))
 intro h
 have c:i=l.length:=by simp at h;omega
 subst c
 rw [k,P9 k,← k] at a
 exact Bt<|Ax<|Ax<|Bg<|Cf<|Ad rfl<|Ab rfl<|Av<|Ao rfl rfl<|⟨a,d⟩
theorem Sr (v u:Value) (lb:List (BitVec 8)) (l:List (BitVec 32)) (w:World) (I:AY b8 w v lb) (p:AY u32 w u l) (L:lb.length+4*l.length≤16777216):
  AO prog 144 [v,u] w (fun r w' =>w'.ownsRow w.heap.size 5 1 r (lb++BL l).length ((lb++BL l).map b8)∧Below w.heap.size w w'):=by
 refine A6 (n:=42) func144 O<|Ai<|Ab O<|Ay<|Ad O<|Aa (Au AJ O ‹_›) O ?_
 refine Ad O<|Aa (Au AJ O ‹_›) O ?_
 refine Ad O<|Aa (Au CN O ‹_›) O ?_
 refine Aa (Ev O O (by omega)) O<|Aa (Ex.as (u:= .int .i64 ((lb.length+4*l.length:Nat):Int)) (D0 O O (by omega)) (cngA (Value.int .i64) (by omega))) O<|An (Fu AJ CO O O O (by omega) (by omega) (by omega)) O ?_
 rintro x C ⟨d, -,f, -⟩
 have k:=I.bs f
 refine Ab O<|Ay<|Ad O<|Ad O<|An (Xw.copy AJ O O O d k (AT _) (BB (fun _=>rfl) _)) O ?_
 rintro _ A ⟨rfl,g,s, -⟩
 have B:(replicate lb.length [Value.int .u8 0]).flatten.drop lb.length=[]:=by
  rw [HL (enc:=Value.int .u8) (z:=0)];simp
 rw [B,append_nil] at g
 have a:Below w.heap.size w A:=f.grown s (AA f) fun b e=>(AB d b e).1
 clear d f k s
 have o:=p.bs a
 refine A9<|Ad O<|Aa (Au CN O ‹_›) O ?_
 refine Ad O<|Ak<|As ?_
 refine B1 (S:=(Nat×Value)) (fun z=>[(1,u),(5,z.2),(20,u),(21, .int .i64 (l.length:Int)),(22, .int .i64 (z.1:Int))]) (fun z w' =>z.1≤l.length∧w'.ownsRow w.heap.size 5 1 z.2 (lb++BL (l.take z.1)).length ((lb++BL (l.take z.1)).map b8)∧Below w.heap.size w w') (fun z=>l.length - z.1) ((0,x)) ⟨rfl,rfl,rfl,rfl,rfl,trivial⟩ ?_ ?_
 ·exact ⟨Nat.zero_le _,by simpa [BL] using g,a⟩
 clear g a o
 rintro ⟨i,x⟩ C ⟨H,d,f⟩
 dsimp only at H d ⊢
 have D:=p.bs f
 have J:=p.le
 refine Ai<|B6 O<|Ak<|Aq<|Al O ?_ ?_
 ·intro h
  have c:i<l.length:=by simp at h;omega
  have t:(lb++BL (l.take i))++Crc.four (l.getD i default)=lb++BL (l.take (i+1)):=by
   rw [take_succ_eq_append_getElem c,Ln,append_assoc]
   simp [BL,c]
  have F:(lb++BL (l.take i)).length+4=(lb++BL (l.take (i+1))).length:=by
   have:=cngA length t
   simp [Crc.four] at this ⊢
   omega
  have M:(lb++BL (l.take (i+1))).length≤16777216:=by rw [length_append,DM,length_take];omega
  refine B4<|Aq<|As<|Ai<|Aa (Ba CN O O ‹_› _ O (by omega)) O ?_
  refine Aa (Bf (QZ _) O ‹_› (by omega)) O ?_
  refine Ab O<|Ak<|Az<|Ad O<|Ad O<|Aa (C3 GO GP O) O<|Ad O<|Aa (D2 (j:=8) O O (by decide)) O<|Aa (C3 GO GP O) O<|Ad O<|Aa (D2 (j:=16) O O (by decide)) O<|Aa (C3 GO GP O) O<|Ad O<|Aa (D2 (j:=24) O O (by decide)) O<|Aa (C3 GO GP O) O<|An (B5 (vs:=(Crc.four (l.getD i default)).map b8) AJ CO O O O O O) O ?_
  rintro y A ⟨G, -,a, -⟩
  have d:=AF d a
  refine An (C5 (base:=w.heap.size) AJ CO O (by decide) O O d (AH G) (BB (fun _=>rfl) _) (by omega) (by omega) (bt f a).size) O ?_
  rintro E K ⟨m,q, -⟩
  rw [← map_append,t,F] at m
  refine Ab O<|A7<|A8<|Cs<|Cd O (by omega)<|Ad O<|A7 ?_
  exact A4 (Bu ((i+1,E)) ⟨rfl,rfl,rfl,rfl,rfl,trivial⟩ (⟨c,m,(bt f a).trans q⟩) (by simp only;omega))
 intro h
 have c:i=l.length:=by simp at h;omega
 subst c
 rw [take_length] at d
 exact Bt<|Ax<|Ax<|Bg<|Cf<|Ad rfl<|Ab rfl<|Av<|Ao rfl rfl<|⟨d,f⟩
theorem Ot (v u:Value) (lb:List (BitVec 8)) (l:List (BitVec 32)) (w:World) (h:AY b8 w v lb) (g:AY i32 w u l) (B:lb.length+4*(l.length+1)≤4194304):
  AO prog 43 [v,u] w (fun r w' =>w'.ownsRow w.heap.size 5 1 r (lb++BL (BitVec.ofInt 32 (l.length:Int)::l)).length ((lb++BL (BitVec.ofInt 32 (l.length:Int)::l)).map b8)∧Below w.heap.size w w'):=by
 have f:=Below.refl w.heap.size w
 have j:(w:World)→w.heap.size≤w.heap.size:=fun _=>AT _
 refine A6 (n:=15) func43 O<|Ai<|Ab O<|Ay<|Ad O<|Ad O<|Aa (Au GS O ‹_›) O ?_
 refine Aa (Ez L8 HE O) O<|An (B5 (vs:=[BitVec.ofInt 32 (l.length:Int)].map u32) CN Mf O O O O O) O ?_
 rintro y w ⟨o, -,b, -⟩
 have d:=AK o
 have f:=f.bs b
 have h:=h.bs b
 have g:=g.bs b
 clear b o
 refine Ad O<|Af O O (Sg u l w g (by omega)) ?_
 rintro z w ⟨k,b⟩
 have e:=AK k
 have f:=f.bs b
 have h:=h.bs b
 have g:=g.bs b
 have d:=d.bs b
 clear b k
 refine An (B5 (vs:=[y,z]) Jn Tn O O O (by simp [d.one',e.one']) O) O ?_
 rintro a w ⟨q, -,b, -⟩
 have f:=f.bs b
 have h:=h.bs b
 have g:=g.bs b
 have d:=d.bs b
 have e:=e.bs b
 refine Af O O (Mv a [(y,[BitVec.ofInt 32 (l.length:Int)]),(z,l)] w (AH q) (by intro p m;simp at m;rcases m with rfl|rfl;exact d;exact e) (by simp;omega)) ?_
 rintro c w ⟨s,b⟩
 have i:=AK s
 have A:(([(y,[BitVec.ofInt 32 (l.length:Int)]),(z,l)]:List (Value×List (BitVec 32))).map (·.2)).flatten=BitVec.ofInt 32 (l.length:Int)::l:=by simp
 rw [A] at i
 have f:=f.bs b
 have h:=h.bs b
 have g:=g.bs b
 have d:=d.bs b
 have e:=e.bs b
 clear b s q
 have t:=AA f
 refine Af O O (Sr v c lb _ w h i (by simp;omega)) ?_
 rintro r w ⟨x,b⟩
 have f:=f.bs b
 have h:=h.bs b
 have g:=g.bs b
 have d:=d.bs b
 have e:=e.bs b
 exact Ab rfl<|Av<|Ao rfl rfl<|⟨CL x t,f⟩

def AU (s:List Int):List (BitVec 8):=BitVec.ofInt 8 (s.length:Int)::s.map (BitVec.ofInt 8)
def EA (s:List Int) (i:Nat):List (BitVec 8):=BitVec.ofInt 8 (s.length:Int)::(s.take i).map (BitVec.ofInt 8)
theorem Ng {s:List Int} {i:Nat} (h:i<s.length):EA s (i+1)=EA s i++[BitVec.ofInt 8 (s.getD i default)]:=by
 unfold EA
 rw [take_succ_eq_append_getElem h,map_append]
 simp [h]
theorem OR (s:List Int):EA s s.length=AU s:=by unfold EA AU;rw [take_length]
theorem I6 {s:List Int} {i:Nat} (h:i≤s.length):(EA s i).length=i+1:=by simp [EA];omega
theorem QO (u:Value) (a:List (BitVec 8)) (w:World) (b:AY b8 w u a):AO prog 44 [u] w (fun r w' =>r=clip u∧Below w.heap.size w w'):=by
 refine A6 (n:=9) func44 O<|Ai<|Ab O<|Ay<|Ad O<|Ad O<|Aa (Au AJ O ‹_›) O ?_
 refine Ad O<|Aa (Au AJ O ‹_›) O ?_
 exact Aa (Fo AJ rfl rfl rfl b.shp) rfl<|Ab rfl<|Av<|Ao rfl rfl<|⟨rfl,Below.refl _ _⟩

def GQ (k:Nat):List Value:=(List.range k).map fun n=>u32 (Crc.tab (BitVec.ofNat 8 n))
theorem L2:∃zv,(∀w,(zeroValue 287).run prog w= .ok zv w)∧zv.cells=(replicate 256 (Value.int .u32 0)).toArray:=
 ⟨.agg (replicate 256 (Value.int .u32 0)).toArray,fun w=>by kernel_rfl,rfl⟩
theorem PC (k:Nat) (c:k<256):(GQ k++replicate (256 - k) (Value.int .u32 0)).set k (u32 (Crc.tab (BitVec.ofNat 8 k)))=GQ (k+1)++replicate (256 - (k+1)) (Value.int .u32 0):=by
 have a:(GQ k).length=k:=by simp [GQ]
 have b:256 - k=(256 - (k+1))+1:=by omega
 rw [set_append_right _ _ (by omega),a,Nat.sub_self,b,replicate_succ,set_cons_zero]
 simp [GQ,range_succ]
theorem Rr (w:World):AO prog 229 [] w (fun r w' =>r= .agg (GQ 256).toArray∧Below w.heap.size w w'):=by
 obtain ⟨zv,t,p⟩:=L2
 refine A6 (n:=22) func229 O<|Ai<|An (Xw.alloc (t _) p) O ?_
 rintro _ l ⟨rfl,g,f,u⟩
 refine A9<|Aa (Bq (show _=some (u32 (0#32)) from rfl)) O<|Ak<|As ?_
 refine B1 (S:=Nat) (fun k=>[(0, .pointer (some ⟨w.heap.size,0,none⟩)),(3,u32 (BitVec.ofNat 32 k))]) (fun k w' =>k≤256∧AM w' w.heap.size 287 (GQ k++replicate (256 - k) (.int .u32 0))∧Below w.heap.size w w') (fun k=>256 - k) (0) ⟨rfl,rfl,trivial⟩ ?_ ?_
 ·exact ⟨by omega,g,f⟩
 clear g f u l
 rintro k l ⟨y,g,f⟩
 have d:(BitVec.ofNat 32 k).toNat=k:=by simp;omega
 refine Ai<|B6 O<|Ak<|Aq<|Al O ?_ ?_
 ·intro h
  refine B4<|Aq<|As<|Ai<|Ad O<|Ab O<|Ay<|Ad O<|Ab O<|A9<|Ad O<|Ak<|As ?_
  refine B1 (S:=Nat) (fun j=>[(0, .pointer (some ⟨w.heap.size,0,none⟩)),(1,u32 (BitVec.ofNat 32 k)),(2,u32 (Crc.iter j (BitVec.ofNat 32 k))),(3,u32 (BitVec.ofNat 32 k)),(7, .int .i64 (j:Int))]) (fun j w' =>j≤8∧w' =l) (fun j=>8 - j) (0) ⟨rfl,rfl,rfl,rfl,rfl,trivial⟩ ?_ ?_
  ·exact ⟨by omega,rfl⟩
  rintro j _ ⟨z,rfl⟩
  refine Ai<|B6 O<|Ak<|Aq<|Al O ?_ ?_
  ·intro c
   have b:j<8:=by simp at c;omega
   refine B4<|Aq<|As<|Az<|Ad O<|Aa (D2 (j:=1) O O (by decide)) O<|Ad O<|Aa (G2 O (show _=some (u32 (1#32)) from rfl)) O<|Aa (Ex.neg32 O) O<|Aa (G2 (show _=some (u32 (3988292384#32)) from rfl) O) O<|Aa (Gv O O) O<|Ab O<|A7<|A8<|Cs<|Cd O (by omega)<|Ad O<|A7 ?_
   exact A4 (Bu (j+1) ⟨rfl,rfl,(by rw [Crc.iter_succ',← Crc.bit_prog];rfl),rfl,rfl,trivial⟩ (⟨by omega,rfl⟩) (by omega))
  ·intro c
   have b:j=8:=by simp at c;omega
   have a:k<256:=by simp [d] at h;omega
   refine Bt<|Ax<|Ax<|Bg<|Cs<|Ad O<|Ad O<|Aa (Ex.idxB Pz LD O O k (by rw [d]) a) O<|A5 (Ce (LD _) O O O g (by simp [GQ];omega)) ?_
   rintro x ⟨e,o,q⟩
   refine A7<|A8<|Cs<|Aa (Ex.add32 O (show _=some (u32 (1#32)) from rfl)) O<|Ad O<|A7 ?_
   have v:(BitVec.ofNat 32 k)+1#32=BitVec.ofNat 32 (k+1):=by apply BitVec.eq_of_toNat_eq;simp
   have s:u32 (Crc.iter 8 (BitVec.ofNat 32 k))=u32 (Crc.tab (BitVec.ofNat 8 k)):=by
    have:BitVec.ofNat 32 k=(BitVec.ofNat 8 k).setWidth 32:=by apply BitVec.eq_of_toNat_eq;simp;omega
    rw [this];rfl
   rw [b,s,Nat.zero_add,Nat.mul_one,PC k a] at e
   exact A4 (Bu (k+1) ⟨rfl,(by rw [v];rfl),trivial⟩ (⟨by omega,e,f.grown o (AA f) (by rintro _ ⟨⟩;exact AT _)⟩) (by omega))
 ·intro h
  have a:k=256:=by simp [d] at h;omega
  subst a
  have i:AM l w.heap.size 287 (GQ 256):=by simpa using g
  have m:(GQ 256).length=256:=by simp [GQ]
  refine Bt<|Ax<|Ax<|Bg<|Cf<|Aa (Cc (T6 _) (SI _) m O i) O<|A5 (Co O m O O (by simp [GQ,Value.oneCell']) i m) ?_
  rintro x ⟨e,o,q⟩
  refine Av<|Gi O O ‹_› underlying287 O O m ?_
  exact ⟨rfl,f.grown o (AA f) (by rintro _ ⟨⟩;exact AT _)⟩
theorem Rq (c:BitVec 8):(GQ 256)[0+c.toNat*1]? =some (u32 (Crc.tab c)):=by
 have h:c.toNat<256:=c.isLt
 have e:BitVec.ofNat 8 c.toNat=c:=by apply BitVec.eq_of_toNat_eq;simp
 simp [GQ,h]
theorem PK (r:BitVec 32) (l:List (BitVec 8)) (k:Nat) (a:k<l.length):Crc.run r (l.take (k+1))=Crc.tab ((Crc.run r (l.take k)).setWidth 8 ^^^ l.getD k default) ^^^ Crc.run r (l.take k)>>>8:=by
 rw [take_succ_eq_append_getElem a,Crc.run_append]
 simp [Crc.run,Crc.feed_tab,a]
theorem U7 (s:BitVec 32) (v:Value) (l:List (BitVec 8)) (w:World) (i:AY b8 w v l):AO prog 148 [u32 s,v] w (fun r w' =>r=u32 (Crc.on s l)∧Below w.heap.size w w'):=by
 obtain ⟨zv,t,d⟩:=L2
 have x:(GQ 256).length=256:=by simp [GQ]
 have z:=i.le
 refine A6 (n:=30) func148 O<|Ai<|Aa (Br (show _=some (u32 (0#32)) from rfl)) O<|Ay<|Af O O (Rr w) ?_
 rintro _ m ⟨rfl,e⟩
 refine Ad O<|Aa (Gw O) O<|An (Xw.alloc (t _) d) O ?_
 rintro _ B ⟨rfl,p,c,y⟩
 refine A5 (Co O x O O (by simp [GQ,Value.oneCell']) p length_replicate) ?_
 rintro g ⟨f,q,o⟩
 have b:Below w.heap.size w g:=(JQ e c (AT _)).grown q (by have:=e.size;omega) (by rintro _ ⟨⟩;exact e.size)
 have u:=i.bs b
 refine Ab O<|A9<|Ad O<|Aa (Au AJ O ‹_›) O ?_
 refine Ad O<|Ak<|As ?_
 refine B1 (S:=Nat) (fun k=>[(5, .pointer (some ⟨m.heap.size,0,none⟩)),(6,u32 (Crc.run (~~~ s) (l.take k))),(12,v),(13, .int .i64 (l.length:Int)),(14, .int .i64 (k:Int))]) (fun k w' =>k≤l.length∧w' =g) (fun k=>l.length - k) (0) ⟨rfl,rfl,rfl,rfl,rfl,trivial⟩ ?_ ?_
 ·exact ⟨by omega,rfl⟩
 rintro k _ ⟨A,rfl⟩
 refine Ai<|B6 O<|Ak<|Aq<|Al O ?_ ?_
 ·intro h
  have a:k<l.length:=by simp at h;omega
  refine B4<|Aq<|As<|Ai<|Aa (Ba AJ O O ‹_› _ O (by omega)) O ?_
  refine Aa (Bf (IB _) O ‹_› (by omega)) O ?_
  refine Ab O<|Ak<|Az<|Ad O<|Aa (C3 GO GP O) O<|Ad O<|Aa (Gl O O) O<|Aa (Ex.idxB Pz LD O O ((Crc.run (~~~ s) (l.take k)).setWidth 8 ^^^ l.getD k default).toNat O (BitVec.isLt _)) O<|Aa (Ap (QZ _) O f (Rq _)) O<|Ad O<|Aa (D2 (j:=8) O O (by decide)) O<|Aa (Gv O O) O<|Ab O<|A7<|A8<|Cs<|Cd O (by omega)<|Ad O<|A7 ?_
  exact A4 (Bu (k+1) ⟨rfl,(by rw [PK _ _ _ a];rfl),rfl,rfl,rfl,trivial⟩ (⟨by omega,rfl⟩) (by omega))
 ·intro h
  have a:k=l.length:=by simp at h;omega
  subst a
  refine Bt<|Ax<|Ax<|Bg<|Cf<|Ad O<|Aa (Gw O) O<|Ab O<|Av<|Ao O O ?_
  exact ⟨by rw [take_length];rfl,b⟩
theorem Ta (v:Value) (l:List (BitVec 8)) (w:World) (a:AY b8 w v l):AO prog 46 [v] w (fun r w' =>r=u32 (Crc.of l)∧Below w.heap.size w w'):=by
 refine A6 (n:=5) func46 O<|Ai<|Aa (Br (show _=some (u32 (0#32)) from rfl)) O<|Ay<|Ad O<|Af O O (U7 0#32 v l w a) ?_
 rintro _ c ⟨rfl,b⟩
 exact Ab rfl<|Av<|Ao rfl rfl<|⟨rfl,b⟩
end Go.Proofs.YtblbopcaflaldaaGreatDoor

namespace Go.Proofs.YtblbopcaflaldaaGreatDoor
open Go Go.Dd Go.RowKit List
set_option maxRecDepth 100000
def GG (w:World) (v:Value) (ts:List T4):Prop:=Sl w 2 v ts.length (cellsOf ts)∧∀t ∈ ts,t.at w
theorem GG.bs {w w' :World} {v:Value} {ts:List T4} (h:GG w v ts) (g:Below w.heap.size w w'):GG w' v ts:=⟨h.1.bs g,fun t a=>(h.2 t a).bs g⟩
theorem GG.slice {w:World} {v:Value} {ts:List T4} (h:GG w v ts) {i:Nat} (d:i<ts.length):∃ad c k,v= .slice (some ad) c k:=by
 obtain ⟨_,a,cap,rfl,_,_,b,_⟩:=h.1
 cases a with
 |none=>have:=b rfl;omega
 |some ad=>exact ⟨_,_,_,rfl⟩
theorem N6 {ts:List T4} {i:Nat} (h:i<ts.length):∃t:T4,t=ts[i]∧t ∈ ts∧(cellsOf ts)[i*2]? =some t.x∧(cellsOf ts)[i*2+1]? =some t.y:=
 ⟨ts[i],rfl,getElem_mem h,(Hf h).1,(Hf h).2⟩
theorem Iv {xs:List Value} {o:Nat} {x y:Value} (b:xs[o]? =some x) (a:xs[o+1]? =some y):∀i,i<2→∃q,[x,y][i]? =some q∧xs[o+i]? =some q:=fun i c=>by
 rcases (show i=0∨i=1 by omega) with rfl|rfl
 ·exact ⟨_,rfl,b⟩
 ·exact ⟨_,rfl,a⟩
end Go.Proofs.YtblbopcaflaldaaGreatDoor

namespace Go.Dd
open Go Go.RowKit
open List hiding all
structure FG (S:Nat→Prop) (w w' :World):Prop where
 os:w'.os=w.os
 tape:w'.tape=w.tape
 output:w'.output=w.output
 size:w.heap.size≤w'.heap.size
 block:∀k,k<w.heap.size→¬S k→w'.heap[k]? =w.heap[k]?
namespace FG
variable {S T : Nat → Prop} {a b c : World}
theorem refl (S:Nat→Prop) (w:World):FG S w w:=⟨rfl,rfl,rfl,AT _,fun _ _ _=>rfl⟩
theorem trans (h:FG S a b) (k:FG S b c):FG S a c:=
 ⟨k.os.trans h.os,k.tape.trans h.tape,k.output.trans h.output,Nat.le_trans h.size k.size,fun i f d=>(k.block i (Nat.lt_of_lt_of_le f h.size) d).trans (h.block i f d)⟩
theorem mono (h:FG S a b) (d:∀k,S k→T k):FG T a b:=⟨h.os,h.tape,h.output,h.size,fun k f g=>h.block k f fun e=>g (d k e)⟩
theorem below (h:FG S a b) (k:Below b.heap.size b c):FG S a c:=
 ⟨k.os.trans h.os,k.tape.trans h.tape,k.output.trans h.output,Nat.le_trans h.size k.size,fun i d f=>(k.block i (Nat.lt_of_lt_of_le d h.size)).trans (h.block i d f)⟩
theorem grown (h:FG S a b) {r:Option Nat} (k:b.grownBy c r) (j:∀n,r=some n→S n∨a.heap.size≤n):FG S a c:=
 ⟨k.os.trans h.os,k.tape.trans h.tape,k.output.trans h.output,Nat.le_trans h.size k.size,fun i g f=>(k.block i (Nat.lt_of_lt_of_le g h.size) (fun e=>by
  rcases j i e.symm with d|d
  ·exact f d
  ·omega)).trans (h.block i g f)⟩
theorem of_below (h:Below a.heap.size a b):FG S a b:=(FG.refl S a).below h
theorem to_below {B:Nat} (h:FG S a b) (d:∀k,S k→B≤k) (g:B≤a.heap.size):Below B a b:=
 ⟨h.os,h.tape,h.output,h.size,fun k f=>h.block k (by omega) fun e=>by have:=d k e;omega⟩
end FG
theorem AM.chg {S:Nat→Prop} {w w' :World} {b:Nat} {T:TypeId} {cs:List Value} (h:AM w b T cs) (g:FG S w w') (d:¬S b):AM w' b T cs:=h.keep (g.block b (BA h) d)
theorem AS.chg {S:Nat→Prop} {w w' :World} {base:Nat} {e:TypeId} {sz:Nat} {v:Value} {n:Nat} {xs:List Value} (h:AS w base e sz v n xs) (g:FG S w w') (d:∀b,v.ownBlock=some b→¬S b):AS w' base e sz v n xs:=
 h.heap fun b e=>g.block b (h.lt b e).2 (d b e)
theorem Sl.chg {S:Nat→Prop} {w w' :World} {sz:Nat} {v:Value} {n:Nat} {xs:List Value} (h:Sl w sz v n xs) (g:FG S w w') (f:∀b,v.ownBlock=some b→b<w.heap.size→¬S b):Sl w' sz v n xs:=
 h.keep fun b d e=>g.block b d (f b e d)
structure Hd where
 v:Value
 k:Nat
 xs:List Value
 n:Int
 g:Value
def Hd.cells (h:Hd):List Value:=[h.v,h.g, .int .i64 h.n]
def CP:List Hd→List Value
 |[]=>[]
 |h::hs=>h.v::h.g:: .int .i64 h.n::CP hs
def IS (hs:List Hd):Nat→Prop:=fun b=>∃h ∈ hs,h.v.ownBlock=some b
structure KOk (hs:List Hd):Prop where
 num:∀h ∈ hs,0≤h.n∧h.n≤4000000
 few:∀h ∈ hs,h.k≤16777216
 apart:hs.Pairwise fun a b=>IQ a.v b.v
 new:∀h ∈ hs,h.g= .slice none 0 0
structure JV (w:World) (base:Nat) (E:TypeId) (sz:Nat) (hs:List Hd):Prop extends KOk hs where
 own:∀h ∈ hs,AS w base E sz h.v h.k h.xs
theorem JV.blk {w:World} {base:Nat} {E:TypeId} {sz:Nat} {d:List Hd} (h:JV w base E sz d) {b:Nat} (g:IS d b):base≤b∧b<w.heap.size:=by
 obtain ⟨x,f,e⟩:=g
 exact (h.own x f).lt b e
theorem JV.chg {w w' :World} {base:Nat} {E:TypeId} {sz:Nat} {d:List Hd} {S:Nat→Prop} (h:JV w base E sz d) (g:FG S w w') (i:∀b,IS d b→¬S b):JV w' base E sz d:=
 ⟨h.toKOk,fun x f=>(h.own x f).chg g fun b e=>i b ⟨x,f,e⟩⟩
theorem JV.bs {w w' :World} {base:Nat} {E:TypeId} {sz:Nat} {d:List Hd} (h:JV w base E sz d) (g:Below w.heap.size w w'):JV w' base E sz d:=
 ⟨h.toKOk,fun x f=>(h.own x f).bs g⟩
def Qs (mk:Int→Value) (k:Nat) (n:Int):List Value:=replicate k (mk n)
def Rh (w:World) (base:Nat) (E:TypeId) (mk:Int→Value) (hs:List Hd):Prop:=∀h ∈ hs,AS w base E 1 h.v h.k (Qs mk h.k h.n)
theorem Rh.chg {w w' :World} {base:Nat} {E:TypeId} {mk:Int→Value} {d:List Hd} {S:Nat→Prop} (h:Rh w base E mk d) (g:FG S w w') (i:∀b,IS d b→¬S b):Rh w' base E mk d:=
 fun x f=>(h x f).chg g fun b e=>i b ⟨x,f,e⟩
theorem Rh.blk {w:World} {base:Nat} {E:TypeId} {mk:Int→Value} {d:List Hd} (h:Rh w base E mk d) {b:Nat} (g:IS d b):base≤b∧b<w.heap.size:=by
 obtain ⟨x,f,e⟩:=g
 exact (h x f).lt b e
structure Pn (w:World) (mk:Int→Value) (h:Hd):Prop where
 l:Sl w 1 h.v h.k (Qs mk h.k h.n)
 g:Sl w 1 h.g (h.k+40) (Qs mk (h.k+40) h.n)
theorem Pn.chg {w w' :World} {mk:Int→Value} {h:Hd} {S:Nat→Prop} (t:Pn w mk h) (g:FG S w w') (d:∀b,h.v.ownBlock=some b→b<w.heap.size→¬S b) (f:∀b,h.g.ownBlock=some b→b<w.heap.size→¬S b):Pn w' mk h:=⟨t.l.chg g d,t.g.chg g f⟩
structure M3 (w:World) (hs ts:List Hd):Prop where
 len:ts.length=hs.length
 all:∀j (h:j<hs.length) (h' :j<ts.length),ts[j].v=hs[j].v∧ts[j].k=hs[j].k∧ts[j].n=hs[j].n∧∀b,ts[j].g.ownBlock=some b→hs[j].v.ownBlock=some b∨w.heap.size≤b
theorem M3.refl (w:World) {d:List Hd} (h:∀t ∈ d,t.g= .slice none 0 0):M3 w d d:=
 ⟨rfl,fun j f _=>⟨rfl,rfl,rfl,fun b e=>by rw [h _ (getElem_mem f)] at e;cases e⟩⟩
theorem M3.set {w:World} {d ts:List Hd} {i:Nat} {g:Value} (h:M3 w d ts) (r:i<d.length) (k:i<ts.length) (q:∀b,g.ownBlock=some b→d[i].v.ownBlock=some b∨w.heap.size≤b):M3 w d (ts.set i {ts[i] with g:=g}):=by
 refine ⟨by rw [length_set];exact h.len,fun j l f=> ?_⟩
 rw [getElem_set]
 split
 ·rename_i e
  subst e
  obtain ⟨o,m,p,_⟩:=h.all i r k
  exact ⟨o,m,p,q⟩
 ·exact h.all j l (by simpa using f)
theorem Pn.bs {w w' :World} {mk:Int→Value} {h:Hd} (t:Pn w mk h) (g:Below w.heap.size w w'):Pn w' mk h:=⟨t.l.bs g,t.g.bs g⟩
section
variable {P : Program} {n : Nat} {E : BP} {w : World} {ty t e : TypeId} {x y : Operand} {v u : Value} {sz base : Nat}
end
end Go.Dd

namespace Go.Dd
open Go Go.RowKit List
section
variable {P : Program} {n : Nat} {E : BP} {w : World} {e ty t : TypeId} {x y z : Operand} {u v : Value}
end
theorem AS.ty {w:World} {base sz k g:Nat} {T:TypeId} {v:Value} {xs:List Value} (h:AS w base T sz v k xs) (c:v.ownBlock=some g):∃cs,AM w g T cs:=by
 rcases h with h|⟨d,a,rfl,_,b,_⟩
 ·obtain ⟨_,a,_,b,_⟩:=FI h c
  exact ⟨a,b⟩
 ·obtain rfl:d=g:=by simpa [Value.ownBlock] using c
  exact ⟨a,b⟩
theorem Qc {w:World} {base sz n m:Nat} {e:TypeId} {v:Value} {xs:List Value} (h:w.ownsRow base e sz v n xs) (i:m≤n):w.ownsRow base e sz (cut v sz 0 m) m (xs.take (m*sz)):=by
 obtain ⟨q,k⟩:=h
 have f:m*sz≤n*sz:=Nat.mul_le_mul_right _ i
 refine ⟨by rw [length_take];omega, ?_⟩
 rcases k with ⟨rfl,rfl⟩|⟨b,cap,a,rfl,o,p,d,c,g,l⟩
 ·obtain rfl:m=0:=by omega
  exact .inl ⟨rfl,rfl⟩
 ·refine .inr ⟨b,cap,a, ?_,o,p,Nat.le_trans i d,c,g, ?_⟩
  ·show Value.slice (if cap=0 then _ else Option.map _ _) (m - 0) (cap - 0)=_
   have j:(if cap=0 then some (⟨b,0,none⟩:Addr) else (some (⟨b,0,none⟩:Addr)).map (·.add (0*sz)))=some ⟨b,0,none⟩:=by
    split
    ·rfl
    ·simp [add_lit]
   rw [j];rfl
  ·rw [← l,take_take,Nat.min_eq_left f]
def Ri (sz k:Nat) (cs:List (List Value)):Prop:=cs.length=k∧∀c ∈ cs,c.length=sz
theorem Ri.len {sz k:Nat} {cs:List (List Value)} (h:Ri sz k cs):cs.flatten.length=k*sz:=by
 obtain ⟨rfl,h⟩:=h
 induction cs with
 |nil=>simp
 |cons c cs ih=>
  rw [flatten_cons,length_append,ih fun x a=>h x (mem_cons_of_mem _ a),h c (by simp),length_cons,Nat.succ_mul];omega
theorem Ri.take {sz k m:Nat} {cs:List (List Value)} (h:Ri sz (k+m) cs):Ri sz k (cs.take k):=⟨by rw [length_take,h.1];omega,fun c a=>h.2 c (mem_of_mem_take a)⟩
theorem Ri.at {sz k:Nat}:∀{cs:List (List Value)},Ri sz k cs→∀{j:Nat} (a:j<cs.length) {i:Nat},i<sz→cs.flatten[j*sz+i]? =cs[j][i]?
 |[],_,j,a,_,_=>by cases a
 |c::cs,h,0,_,i,hi=>by
  rw [flatten_cons,Nat.zero_mul,Nat.zero_add,getElem?_append_left (by rw [h.2 c (by simp)];exact hi)];rfl
 |c::cs,h,j+1,a,i,hi=>by
  have b:=h.2 c (by simp)
  have:Ri sz cs.length cs:=⟨rfl,fun x d=>h.2 x (mem_cons_of_mem _ d)⟩
  rw [flatten_cons,getElem?_append_right (by rw [b,Nat.succ_mul];omega),b,show (j+1)*sz+i - sz=j*sz+i by rw [Nat.succ_mul];omega,this.at (by simpa using a) hi];rfl
theorem Ri.cells {sz k:Nat} {cs:List (List Value)} (h:Ri sz k cs) {j:Nat} (a:j<cs.length):∀i,i<sz→∃q,cs[j][i]? =some q∧cs.flatten[j*sz+i]? =some q:=fun i b=>by
 have c:=h.2 _ (getElem_mem a)
 exact ⟨cs[j][i]'(by omega),getElem?_eq_getElem _,by rw [h.at a b];exact getElem?_eq_getElem _⟩
structure H4 (B:Nat) (I:TypeId) (Φ:Int→World→List Value→Prop):Prop where
 of:∀{n:Int} {w w' :World} {c:List Value} {S:Nat→Prop},Φ n w c→FG S w w' →(∀b,S b→b<B∨∃T cs,AM w b T cs∧T≠I)→Φ n w' c
theorem H4.chg {B:Nat} {I:TypeId} {Φ:Int→World→List Value→Prop} (h:H4 B I Φ) {n:Int} {w w' :World} {c:List Value} {S:Nat→Prop} (d:Φ n w c) (g:FG S w w') (a:∀b,S b→b<B):Φ n w' c:=h.of d g fun b e=> .inl (a b e)
theorem H4.bs {B:Nat} {I:TypeId} {Φ:Int→World→List Value→Prop} (h:H4 B I Φ) {n:Int} {w w' :World} {c:List Value} (a:Φ n w c) (g:Below w.heap.size w w'):Φ n w' c:=h.of a (S:=fun _=>False) (FG.of_below g) (fun _ h=>h.elim)
structure Ny (Φ:Int→World→List Value→Prop) (sz:Nat) (n:Int) (w:World) (k:Nat) (cs:List (List Value)):Prop where
 els:Ri sz k cs
 each:∀c ∈ cs,Φ n w c
theorem Ny.chg {Φ:Int→World→List Value→Prop} {B sz k:Nat} {I:TypeId} {n:Int} {w w' :World} {S:Nat→Prop} {cs:List (List Value)} (h:Ny Φ sz n w k cs) (st:H4 B I Φ) (g:FG S w w') (a:∀b,S b→b<B):Ny Φ sz n w' k cs:=⟨h.els,fun c d=>st.chg (h.each c d) g a⟩
theorem Ny.bs {Φ:Int→World→List Value→Prop} {B sz k:Nat} {I:TypeId} {n:Int} {w w' :World} {cs:List (List Value)} (h:Ny Φ sz n w k cs) (st:H4 B I Φ) (g:Below w.heap.size w w'):Ny Φ sz n w' k cs:=⟨h.els,fun c a=>st.bs (h.each c a) g⟩
theorem Ny.by {Φ:Int→World→List Value→Prop} {B sz k:Nat} {I:TypeId} {n:Int} {w w' :World} {g:Option Nat} {cs:List (List Value)} (h:Ny Φ sz n w k cs) (st:H4 B I Φ) (d:w.grownBy w' g) (a:∀b,g=some b→b<B∨∃T cs,AM w b T cs∧T≠I):Ny Φ sz n w' k cs:=
 ⟨h.els,fun c f=>st.of (h.each c f) (S:=fun b=>g=some b) ((FG.refl _ _).grown d fun b e=> .inl e) a⟩
theorem Ny.take {Φ:Int→World→List Value→Prop} {sz k m:Nat} {n:Int} {w:World} {cs:List (List Value)} (h:Ny Φ sz n w (k+m) cs):Ny Φ sz n w k (cs.take k):=⟨h.els.take,fun c a=>h.each c (mem_of_mem_take a)⟩
def M4 (w:World) (base:Nat) (E:TypeId) (sz:Nat) (Φ:Int→World→List Value→Prop) (hs:List Hd):Prop:=∀h ∈ hs,∃cs,Ny Φ sz h.n w h.k cs∧AS w base E sz h.v h.k cs.flatten
theorem M4.chg {w w' :World} {base sz B:Nat} {E I:TypeId} {Φ:Int→World→List Value→Prop} {a:List Hd} {S:Nat→Prop} (h:M4 w base E sz Φ a) (st:H4 B I Φ) (g:FG S w w') (j:∀b,S b→b<B) (f:∀b,IS a b→¬S b):M4 w' base E sz Φ a:=fun x c=>by
 obtain ⟨cs,i,d⟩:=h x c
 exact ⟨cs,i.chg st g j,d.chg g fun b e=>f b ⟨x,c,e⟩⟩
theorem M4.blk {w:World} {base sz:Nat} {E:TypeId} {Φ:Int→World→List Value→Prop} {a:List Hd} (h:M4 w base E sz Φ a) {b:Nat} (d:IS a b):base≤b∧b<w.heap.size:=by
 obtain ⟨x,f,e⟩:=d
 obtain ⟨_,_,c⟩:=h x f
 exact c.lt b e
structure KK (w:World) (sz:Nat) (Φ:Int→World→List Value→Prop) (h:Hd):Prop where
 l:∃cs,Ny Φ sz h.n w h.k cs∧Sl w sz h.v h.k cs.flatten
 g:∃cs,Ny Φ sz h.n w (h.k+40) cs∧Sl w sz h.g (h.k+40) cs.flatten
theorem KK.chg {w w' :World} {sz B:Nat} {I:TypeId} {Φ:Int→World→List Value→Prop} {h:Hd} {S:Nat→Prop} (t:KK w sz Φ h) (st:H4 B I Φ) (g:FG S w w') (a:∀b,S b→b<B) (i:∀b,h.v.ownBlock=some b→b<w.heap.size→¬S b) (d:∀b,h.g.ownBlock=some b→b<w.heap.size→¬S b):KK w' sz Φ h:=by
 obtain ⟨⟨cs,f,k⟩,⟨ds,j,c⟩⟩:=t
 exact ⟨⟨cs,f.chg st g a,k.chg g i⟩,⟨ds,j.chg st g a,c.chg g d⟩⟩
theorem KK.bs {w w' :World} {sz B:Nat} {I:TypeId} {Φ:Int→World→List Value→Prop} {h:Hd} (t:KK w sz Φ h) (st:H4 B I Φ) (g:Below w.heap.size w w'):KK w' sz Φ h:=by
 obtain ⟨⟨cs,b,d⟩,⟨ds,c,a⟩⟩:=t
 exact ⟨⟨cs,b.bs st g,d.bs g⟩,⟨ds,c.bs st g,a.bs g⟩⟩
theorem AZ {w:World} {b:Nat} {T U:TypeId} {cs ds:List Value} (h:AM w b T cs) (k:AM w b U ds):T=U:=by
 unfold AM at h k
 rw [h] at k
 cases k;rfl
end Go.Dd

namespace Go.Proofs.YtblbopcaflaldaaGreatDoor
open Go Go.Dd Go.RowKit List Go.Proofs.Tryz
set_option maxRecDepth 100000
structure M9 (w w' :World) (v y:Value):Prop where
 g:w.grownBy w' v.ownBlock
 c:y.ownBlock=v.ownBlock∨∀b,y.ownBlock=some b→w.heap.size≤b
theorem Fh (w:World) (v:Value):M9 w w v v:=⟨AX (Below.refl _ _) _, .inl rfl⟩
theorem M9.bs {w a b:World} {v y:Value} (h:M9 w a v y) (g:Below a.heap.size a b):M9 w b v y:=⟨AP h.g (AX g _),h.c⟩
theorem M9.app {w d j:World} {v y i:Value} (h:M9 w d v y) (g:d.grownBy j y.ownBlock) (c:i.ownBlock=y.ownBlock∨∀b,i.ownBlock=some b→d.heap.size≤b):M9 w j v i:=by
 have z:=h.g.size
 refine ⟨⟨g.os.trans h.g.os,g.tape.trans h.g.tape,g.output.trans h.g.output,Nat.le_trans z g.size,fun b k a=> ?_⟩, ?_⟩
 ·refine (g.block b (Nat.lt_of_lt_of_le k z) fun e=> ?_).trans (h.g.block b k a)
  rcases h.c with f|f
  ·exact a (by rw [e,f])
  ·have:=f b e.symm;omega
 ·rcases c with c|c
  ·rw [c];exact h.c
  ·exact .inr fun b e=>Nat.le_trans z (c b e)
theorem EE (v u:Value) (b:List (BitVec 8)) (l:List Int) (W w:World) (H:Below W.heap.size W w) (h:w.ownsRow W.heap.size 5 1 v b.length (b.map b8)) (D:AY (Value.int .i64) W u l) (V:b.length+l.length+1≤16777216):
  AO prog 42 [v,u] w (fun r w' =>Below W.heap.size W w' ∧w'.ownsRow W.heap.size 5 1 r (b++AU l).length ((b++AU l).map b8)∧M9 w w' v r):=by
 have a:=Fh w v
 have L:=D.bs H
 refine A6 (n:=26) func42 O<|Ai<|Ab O<|Ay<|Ad O<|Ad O<|Aa (Au AG O ‹_›) O ?_
 refine Aa (Ea L8 GP O) O<|An (B5 (vs:=[BitVec.ofInt 8 (l.length:Int)].map b8) AJ CO O O O O O) O ?_
 rintro q T ⟨d, -,A, -⟩
 have h:=AF h A
 have s:=bt H A
 have a:=a.bs A
 refine An (Bz (base:=W.heap.size) AJ CO O (by decide) O O h (AH d) (BB (fun _=>rfl) _) (by omega) (by omega) s.size) O ?_
 rintro J Y ⟨k,f,B,F⟩
 have a:=a.app B (F.imp id fun e b o=>by rw [e] at o;cases o;omega)
 have x:=s.trans f
 have C:=D.bs x
 have I:b.map b8++[BitVec.ofInt 8 (l.length:Int)].map b8=(b++EA l 0).map b8:=by rw [← map_append];rfl
 have N:b.length+1=(b++EA l 0).length:=by rw [length_append];rfl
 rw [I,N] at k
 clear h d L A
 refine Ab O<|A9<|Ad O<|Aa (Au AG O ‹_›) O ?_
 refine Ad O<|Ak<|As ?_
 refine B1 (S:=(Nat×Value)) (fun z=>[(0,z.2),(13,u),(14, .int .i64 (l.length:Int)),(15, .int .i64 (z.1:Int))]) (fun z w' =>z.1≤l.length∧Below W.heap.size W w' ∧w'.ownsRow W.heap.size 5 1 z.2 (b++EA l z.1).length ((b++EA l z.1).map b8)∧M9 w w' v z.2) (fun z=>l.length - z.1) ((0,J)) ⟨rfl,rfl,rfl,rfl,trivial⟩ ?_ ?_
 ·exact ⟨Nat.zero_le _,x,k,a⟩
 clear k C a
 rintro ⟨i,y⟩ U ⟨G,j,p,a⟩
 dsimp only at G j p a ⊢
 have M:=D.bs j
 refine Ai<|B6 O<|Ak<|Aq<|Al O ?_ ?_
 ·intro g
  have c:i<l.length:=by have:=AE g;omega
  have o:(b++EA l i).length+1=(b++EA l (i+1)).length:=by rw [length_append,length_append,I6 G,I6 c];rfl
  have X:(b++EA l (i+1)).length=b.length+(i+2):=by rw [length_append,I6 c]
  have Q:(b++EA l i)++[BitVec.ofInt 8 (l.getD i default)]=b++EA l (i+1):=by rw [Ng c,append_assoc]
  refine B4<|Aq<|As<|Ai<|Aa (Ba AG O O ‹_› _ O (by omega)) O ?_
  refine Aa (Bf (BI _) O ‹_› (by omega)) O ?_
  refine Ab O<|Ak<|Az<|Ad O<|Ad O<|Aa (Ea L8 GP O) O<|An (B5 (vs:=[BitVec.ofInt 8 (l.getD i default)].map b8) AJ CO O O O O O) O ?_
  rintro q R ⟨d, -,m, -⟩
  have p:=AF p m
  have f:=bt j m
  have a:=a.bs m
  refine An (Bz (base:=W.heap.size) AJ CO O (by decide) O O p (AH d) (BB (fun _=>rfl) _) (by omega) (by omega) f.size) O ?_
  rintro K Z ⟨t,E,B,F⟩
  have a:=a.app B (F.imp id fun e b o=>by rw [e] at o;cases o;omega)
  rw [← map_append,Q,o] at t
  refine Ab O<|A7<|A8<|Cs<|Cd O (by omega)<|Ad O<|A7 ?_
  exact A4 (Bu ((i+1,K)) ⟨rfl,rfl,rfl,rfl,trivial⟩ (⟨c,f.trans E,t,a⟩) (by simp only;omega))
 intro g
 have c:i=l.length:=by have:=AD g;omega
 subst c
 rw [OR] at p
 exact Bt<|Ax<|Ax<|Bg<|Cf<|Ad rfl<|Ab rfl<|Av<|Ao rfl rfl<|⟨j,p,a⟩
def ES (ls:List N5) (ws:List T4):Bool:=(FX ls).isSome && (decide ((F2 ls).length=ws.length) && Oa (ws.map pv) (F2 ls))
theorem GN.ad {w:World} {v:Value} {ls:List N5} (h:GN w v ls) {i:Nat} (d:i<ls.length):∃ad c k,v= .slice (some ad) c k:=by
 obtain ⟨_,a,cap,rfl,_,_,b,_⟩:=h.sl
 cases a with
 |none=>have:=b rfl;omega
 |some ad=>exact ⟨_,_,_,rfl⟩
theorem GN.cell {w:World} {v:Value} {ls:List N5} (h:GN w v ls) {i:Nat} (a:i<ls.length):(Ib N5.cells ls)[i*5+0]? =some (b8 ls[i].k)∧(Ib N5.cells ls)[i*5+2]? =some ls[i].y:=by
 obtain ⟨q,e,c⟩:=h.cells a 0 (by decide)
 obtain ⟨r,g,d⟩:=h.cells a 2 (by decide)
 have b:b8 ls[i].k=q:=Option.some.inj e
 have f:ls[i].y=r:=Option.some.inj g
 exact ⟨by rw [b];exact c,by rw [f];exact d⟩
theorem Te (v u:Value) (A i:Nat) (ls:List N5) (t:T4) (W:World) (f:AM W A 27 [v,u]) (h:GN W v ls) (j:i<ls.length) (e:t.at W):
  AO prog 142 [.int .i64 (i:Int),t.v, .pointer (some ⟨A,0,none⟩)] W (fun r w' =>r= .bool (Kk (pv t) ls[i].s)∧Below W.heap.size W w'):=by
 have k:=Below.refl W.heap.size W
 have o:=h.ad j
 have m:=(h.cell j).2
 have l:=(h.each _ (getElem_mem j)).s
 refine A6 (n:=20) func142 O<|Ai<|C2 (cs:=[t.x,t.y]) O O O ?_
 rintro y w p s d -
 have k:=k.bs d
 have h:=h.bs d
 have e:=e.bs d
 have f:=f.bs d
 have l:=l.bs d
 refine Ab O<|Ak<|Aq ?_
 rename World=>b
 refine Cw.any mixed (fun z c _=> ?_)
 refine Dg (fun w' =>Below b.heap.size b w') (fun C=> ?_) (c)
 refine Ca (Am Bj)<|Aj 0 O (fun b a=>Cc (KJ _) (Ks _) O O (AM.bs ‹_› a)) O<|Bv ?_
 refine AR.only ‹_› (i:=1) (by kernel_rfl) O ?_
 refine Af O O (PA t.x t.y t.s t.l z (e.bs c).1 (e.bs c).2) ?_
 rintro _ x ⟨rfl,d⟩
 have c:=bt c d
 refine AR.back<|Ca (Am Bj)<|Aj 2 O (fun b a=>Bq O) O<|Bv ?_
 refine AR.part 8 O ?_ ?_
 ·intro g
  refine De (i:=3) (dj:=8) (Am Bj) O O O (by kernel_rfl) (by kernel_rfl) (by kernel_rfl) (fun b a=>Cr underlying75 O (BT _)) O<|De (i:=4) (dj:=8) (Am Bj) O O O (by kernel_rfl) (by kernel_rfl) (by kernel_rfl) (fun b a=>Ap (BF _) O (AM.bs ‹_› a) O) O<|De (i:=5) (dj:=8) (Am Bj) O O O (by kernel_rfl) (by kernel_rfl) (by kernel_rfl) (fun b a=>Cr underlying27 O (CK _)) O<|De (i:=6) (dj:=8) (Am Bj) O O O (by kernel_rfl) (by kernel_rfl) (by kernel_rfl) (fun b a=>Cr underlying24 O (CB _)) O<|De (i:=7) (dj:=8) (Am Bj) O O O (by kernel_rfl) (by kernel_rfl) (by kernel_rfl) (fun b a=>Ap (EB _) O (AM.bs ‹_› a) O) O<|De (i:=8) (dj:=8) (Am Bj) O O O (by kernel_rfl) (by kernel_rfl) (by kernel_rfl) (fun b a=>Bq O) O<|De (i:=9) (dj:=8) (Am Bj) O O O (by kernel_rfl) (by kernel_rfl) (by kernel_rfl) (fun b a=>Dy CH O O (h.sl.bs a) i O j) O<|De (i:=10) (dj:=8) (Am Bj) O O O (by kernel_rfl) (by kernel_rfl) (by kernel_rfl) (fun b a=>Ej (q:=0) underlying79 O (BT _) O o) O<|De (i:=11) (dj:=8) (Am Bj) O O O (by kernel_rfl) (by kernel_rfl) (by kernel_rfl) (fun b a=>Ex.ld (BF _) O (h.sl.bs a) m) O<|AR.only ‹_› (i:=12) (by kernel_rfl) O ?_
  refine Ah (dj:=8) O O<|Af O O (Hc t.x ls[i].y t.s ls[i].s x (e.bs c).1 (l.bs c)) ?_
  rintro _ B ⟨rfl,d⟩
  have c:=bt c d
  refine AR.back<|Ca (Am Bj)<|Aj 13 O (fun b a=>Dj O O) O<|Aj 14 O (fun b a=>Br O) O<|Bv<|AR.done ‹_› (by kernel_rfl) ?_
  refine A4<|Ch<|Er<|Ao O O ?_
  exact ⟨cngA Value.bool (show decide (t.s=ls[i].s)=(MG t.s t.l && decide (t.s=ls[i].s)) by rw [g];rfl),bt k c⟩
 intro g
 refine C8 (i:=3) (dj:=8) (Am Bj) O O O O (by kernel_rfl) (by kernel_rfl) (by kernel_rfl) O<|C8 (i:=4) (dj:=8) (Am Bj) O O O O (by kernel_rfl) (by kernel_rfl) (by kernel_rfl) O<|C8 (i:=5) (dj:=8) (Am Bj) O O O O (by kernel_rfl) (by kernel_rfl) (by kernel_rfl) O<|C8 (i:=6) (dj:=8) (Am Bj) O O O O (by kernel_rfl) (by kernel_rfl) (by kernel_rfl) O<|C8 (i:=7) (dj:=8) (Am Bj) O O O O (by kernel_rfl) (by kernel_rfl) (by kernel_rfl) O<|C8 (i:=8) (dj:=8) (Am Bj) O O O O (by kernel_rfl) (by kernel_rfl) (by kernel_rfl) O<|C8 (i:=9) (dj:=8) (Am Bj) O O O O (by kernel_rfl) (by kernel_rfl) (by kernel_rfl) O<|C8 (i:=10) (dj:=8) (Am Bj) O O O O (by kernel_rfl) (by kernel_rfl) (by kernel_rfl) O<|C8 (i:=11) (dj:=8) (Am Bj) O O O O (by kernel_rfl) (by kernel_rfl) (by kernel_rfl) O<|C8 (i:=12) (dj:=8) (Am Bj) O O O O (by kernel_rfl) (by kernel_rfl) (by kernel_rfl) O<|Ca (Am Bj)<|Aj 13 O (fun b a=>D3 O O) O<|Aj 14 O (fun b a=>Br O) O<|Bv<|AR.done ‹_› (by kernel_rfl) ?_
 refine A4<|Ch<|Er<|Ao O O ?_
 exact ⟨cngA Value.bool (show false=(MG t.s t.l && decide (t.s=ls[i].s)) by rw [g];rfl),bt k c⟩
theorem Up (q u:Value) (b:List Int) (ws:List T4) (f:FuncId) (cap:List Value) (P:Nat→Bool) (w:World) (D:AY (Value.int .i64) w q b) (z:GG w u ws)
  (L:∀i w',i<b.length→∀(h:i<ws.length),Below w.heap.size w w' →AO prog f ([]++[.int .i64 (b.getD i default),ws[i].v]++cap) w' (fun r A=>r= .bool (P i)∧Below w'.heap.size w' A)):
  AO prog 141 [q,u, .func (.func f) #[] cap.toArray] w (fun r w' =>r= .bool (decide (b.length=ws.length) && (List.range b.length).all P)∧Below w.heap.size w w'):=by
 have G:=D.le
 have H:=z.1
 refine A6 (n:=32) func141 O<|Ai<|Ab O<|A9<|Ad O<|Aa (Au AG O ‹_›) O ?_
 refine Ad O<|Aa (Au GB O ‹_›) O ?_
 refine Aa (Cv O O) O<|Ak<|Al O ?_ ?_
 ·intro g
  have g:¬b.length=ws.length:=fun e=>by rw [e] at g;simp at g
  refine Ai<|Ab O<|Bw<|Ao O O ?_
  exact ⟨by rw [decide_eq_false g];rfl,Below.refl _ _⟩
 intro g
 have g:b.length=ws.length:=by simp at g;omega
 rw [decide_eq_true g,Bool.true_and]
 refine B4<|Aq<|Ai<|Ad O<|Aa (Au AG O ‹_›) O ?_
 refine Ad O<|Ak<|As ?_
 refine B1 (S:=Nat) (fun i=>[(1,u),(2, .func (.func f) #[] cap.toArray),(15,q),(16, .int .i64 (b.length:Int)),(17, .int .i64 (i:Int))]) (fun i w' =>i≤b.length∧(∀j,j<i→P j=true)∧Below w.heap.size w w') (fun i=>b.length - i) (0) ⟨rfl,rfl,rfl,rfl,rfl,trivial⟩ ?_ ?_
 ·exact ⟨Nat.zero_le _,fun _ h=>by omega,Below.refl _ _⟩
 rintro i U ⟨W,hall,o⟩
 have F:=D.bs o
 have k:=(z.bs o).1
 refine Ai<|B6 O<|Ak<|Aq<|Al O ?_ ?_
 ·intro C
  have c:i<b.length:=by have:=AE C;omega
  have y:i<ws.length:=by omega
  obtain ⟨a,R,t,J,K⟩:=N6 y
  have v:=(z.bs o).2 a t
  refine B4<|Aq<|As<|Ai<|Ad O<|Aa (Ba AG O O ‹_› _ O (by omega)) O ?_
  refine Aa (Bf (BI _) O ‹_› (by omega)) O ?_
  refine Ab O<|Ab O<|Ay<|Ad O<|Ad O<|Aa (Dy GB O O k i O y) O<|Aa (Es (cs:=[a.x,a.y]) (KJ _) (Ks _) O k O (by decide) (Iv J K)) O<|Cx (cs:=[a.x,a.y]) JF O O O O (fun _=>rfl) (v.one) ?_
  rintro M T E N Q I
  have l:=bt o Q
  have m:=L i T c y l
  rw [← R] at m
  refine Ay<|Ad O<|Ad O<|Aa (Cc (KJ _) (Ks _) O O ‹_›) O ?_
  refine D8 (p:=[]) (q:=cap) O O O (m) ?_
  rintro _ V ⟨rfl,x⟩
  have s:=bt l x
  refine Aa (Cy O) O<|Ak<|Al O ?_ ?_
  ·intro d
   have d:P i=false:=by simpa using d
   refine Ai<|Ab O<|Av<|Bh<|A0<|A0<|Bh<|A0<|Ao O O ?_
   refine ⟨?_,s⟩
   congr 1
   exact (List.all_eq_false.2 ⟨i,List.mem_range.2 c,by rw [d];decide⟩).symm
  intro d
  have d:P i=true:=by simpa using d
  refine Cj<|A8<|Cs<|Cd O (by omega)<|Ad O<|A7 ?_
  exact A4 (Bu (i+1) ⟨rfl,rfl,rfl,rfl,rfl,trivial⟩ (⟨c,fun j B=>(Nat.lt_succ_iff_lt_or_eq.1 B).elim (hall j) (fun e=>by rw [e];exact d),s⟩) (by omega))
 intro C
 have c:i=b.length:=by have:=AD C;omega
 refine Bt<|Ax<|Ax<|Bg<|Cf<|Ab O<|Av<|Ao O O ?_
 refine ⟨?_,o⟩
 congr 1
 exact (List.all_eq_true.2 fun j B=>hall j (by rw [c];exact List.mem_range.1 B)).symm
theorem Ss (v u:Value) (ls:List N5) (ws:List T4) (W:World) (h:GN W v ls) (d:GG W u ws):
  AO prog 41 [.agg [v,u].toArray] W (fun r w' =>r= .bool (ES ls ws)∧Below W.heap.size W w'):=by
 have f:=Below.refl W.heap.size W
 refine A6 (n:=16) func41 O<|Ai<|C2 (cs:=[v,u]) O O O ?_
 rintro m w y b a -
 have f:=f.bs a
 have h:=h.bs a
 have d:=d.bs a
 refine Ab O<|A9<|Bc underlying27 O (CK _)<|Aa (Fv (ds:=[v]) (Im _) (CK _) O O ‹_› rfl) O ?_
 refine Af O O (JI v ls w h) ?_
 rintro _ w ⟨a,rfl⟩
 have f:=f.bs a
 have h:=h.bs a
 have d:=d.bs a
 have b:=b.bs a
 refine Aa (Cy O) O<|Ak<|Al O ?_ ?_
 ·intro g
  have g:(FX ls).isSome=false:=by simpa using g
  refine Ai<|Ab O<|Bw<|Ao O O ?_
  exact ⟨by unfold ES;rw [g];rfl,f⟩
 intro g
 obtain ⟨p,o⟩:∃p,FX ls=some p:=by
  cases e:FX ls with
  |none=>rw [e] at g;cases g
  |some p=>exact ⟨p,rfl⟩
 have x:=Ll o
 refine B8<|Bc underlying27 O (CK _)<|Aa (Fv (ds:=[v]) (Im _) (CK _) O O ‹_› rfl) O ?_
 refine Af O O (Ni v ls w h (by omega)) ?_
 rintro q w ⟨a,t⟩
 have f:=f.bs a
 have h:=h.bs a
 have d:=d.bs a
 have b:=b.bs a
 have D:∀j w',j<(DB ls).length→∀(k:j<ws.length),Below w.heap.size w w' →AO prog 142 ([]++[.int .i64 ((DB ls).getD j default),ws[j].v]++[.pointer (some ⟨m,0,none⟩)]) w' (fun r w'' =>r= .bool (Kk ((ws.map pv).getD j ([],[])) ((F2 ls).getD j default).s)∧Below w'.heap.size w' w''):=by
  intro j w' G k a
  obtain ⟨i,c,B,z,E⟩:=Pr G
  have:=Te v u m i ls ws[j] w' (b.bs a) (h.bs a) c ((d.bs a).2 _ (getElem_mem k))
  have F:(ws.map pv).getD j ([],[])=pv ws[j]:=by rw [getD_eq_getElem?_getD,getElem?_map,getElem?_eq_getElem k];rfl
  have C:((F2 ls).getD j default).s=ls[i].s:=by
   rw [getD_eq_getElem?_getD,getElem?_eq_getElem z,Option.getD_some,E,getD_eq_getElem?_getD,getElem?_eq_getElem c];rfl
  rw [B,F,C]
  exact this
 refine Ab O<|Ay<|Ad O<|Bc underlying27 O (FH _)<|Aa (Ap (JT _) O ‹_› rfl) O ?_
 refine Aa (Ep (vs:=[]) O O) O<|Af O O (Up q u (DB ls) ws 142 [.pointer (some ⟨m,0,none⟩)] (fun j=>Kk ((ws.map pv).getD j ([],[])) ((F2 ls).getD j default).s) w t d D) ?_
 rintro _ w ⟨rfl,a⟩
 refine Ab O<|Av<|Ao O O ?_
 refine ⟨?_,bt f a⟩
 have A:(DB ls).length=(F2 ls).length:=by rw [← KN,length_map]
 unfold ES
 rw [o,A]
 congr 1
 show _=(true && _)
 rw [Bool.true_and]
 by_cases hl:(F2 ls).length=ws.length
 ·rw [decide_eq_true hl,Bool.true_and,Bool.true_and,Bool.eq_iff_iff,GI (by rw [length_map,hl]),all_eq_true]
  constructor
  ·intro s i c
   have:=s i (List.mem_range.2 c)
   rwa [getD_eq_getElem?_getD (l:=F2 ls),getElem?_eq_getElem c] at this
  ·intro s i c
   have c:=List.mem_range.1 c
   have:=s i c
   rw [getD_eq_getElem?_getD (l:=F2 ls),getElem?_eq_getElem c]
   exact this
 ·rw [decide_eq_false hl];rfl

-- dd: text
theorem Hk (v u:Value) (d:List (List UInt8)) (a:List Int) (W w:World) (Y:IU W) (L:Below W.heap.size W w) (h:w.ownsRow W.heap.size 9 1 v d.length (d.map st)) (Q:∀w',Below W.heap.size W w' →w.grownBy w' v.ownBlock→AY (Value.int .i64) w' u a) (Z:∀n ∈ a, -9223372036854775808≤n∧n≤9223372036854775807) (hl:d.length+a.length≤1000000):
  AO prog 119 [v,u] w (fun r w' =>Below W.heap.size W w' ∧w'.ownsRow W.heap.size 9 1 r (d++a.map Lib.itoa).length ((d++a.map Lib.itoa).map st)∧M9 w w' v r):=by
 have X:=Q w L (Fh w v).g
 refine A6 (n:=20) func119 O<|Ai<|Ab O<|A9<|Ad O<|Aa (Au AG O ‹_›) O ?_
 refine Ad O<|Ak<|As ?_
 refine B1 (S:=(Nat×Value)) (fun z=>[(0,z.2),(7,u),(8, .int .i64 (a.length:Int)),(9, .int .i64 (z.1:Int))]) (fun z w' =>z.1≤a.length∧Below W.heap.size W w' ∧w'.ownsRow W.heap.size 9 1 z.2 (d++(a.take z.1).map Lib.itoa).length ((d++(a.take z.1).map Lib.itoa).map st)∧M9 w w' v z.2) (fun z=>a.length - z.1) ((0,v)) ⟨rfl,rfl,rfl,rfl,trivial⟩ ?_ ?_
 ·exact ⟨Nat.zero_le _,L,by simpa using h,Fh w v⟩
 rintro ⟨i,y⟩ s ⟨V,l,m,o⟩
 dsimp only at V m o ⊢
 have T:=Q s l o.g
 have K:IU s:=Y.bs l
 have zB:=l.size
 refine Ai<|B6 O<|Ak<|Aq<|Al O ?_ ?_
 ·intro g
  have c:i<a.length:=by have:=AE g;omega
  have H:=Z (a.getD i default) (by rw [getD_eq_getElem?_getD,getElem?_eq_getElem c];exact getElem_mem c)
  obtain ⟨x,t⟩:∃x,x=a.getD i default:=⟨_,rfl⟩
  rw [← t] at H
  have N:(a.take (i+1)).map Lib.itoa=(a.take i).map Lib.itoa++[Lib.itoa x]:=by
   rw [take_succ_eq_append_getElem c,map_append,t,getD_eq_getElem?_getD,getElem?_eq_getElem c];rfl
  refine B4<|Aq<|As<|Ai<|Aa (Ba AG O O ‹_› _ O (by omega)) O ?_
  refine Aa (Bf (BI _) O ‹_› (by omega)) O ?_
  refine Ab O<|Ak<|Az<|Ad O<|Ad O ?_
  rw [← t]
  refine Af O O (Tk x s K H.1 H.2) ?_
  rintro _ w2 ⟨rfl,j⟩
  have z2:=j.size
  have I:=AF m j
  have J:=o.bs j
  refine An (B5 (vs:=[Lib.itoa x].map st) BU Kj O O O O O) O ?_
  rintro q w3 ⟨F, -,f, -⟩
  have z3:=f.size
  have A:=AF I f
  have C:=J.bs f
  refine An (Bz (base:=W.heap.size) BU Kj O (by decide) O O A (AH F) (Jm _) (by simp;omega) (by simp;omega) (by omega)) O ?_
  rintro M w4 ⟨k,p,B,G⟩
  have E:=C.app B (G.imp id fun e b (U:M.ownBlock=some b)=>Nat.le_of_eq (Option.some.inj (e.symm.trans U)))
  have D:=((l.trans (j.mono (by omega))).trans (f.mono (by omega))).trans p
  have R:(d++(a.take i).map Lib.itoa).map st++[Lib.itoa x].map st=(d++(a.take (i+1)).map Lib.itoa).map st:=by rw [N,← map_append,append_assoc]
  have e1:(d++(a.take i).map Lib.itoa).length+1=(d++(a.take (i+1)).map Lib.itoa).length:=by rw [N,← append_assoc,length_append (bs:=[_])];rfl
  rw [R,e1] at k
  refine Ab O<|A7<|A8<|Cs<|Cd O (by omega)<|Ad O<|A7 ?_
  exact A4 (Bu ((i+1,M)) ⟨rfl,rfl,rfl,rfl,trivial⟩ (⟨c,D,k,E⟩) (by simp only;omega))
 intro g
 have c:i=a.length:=by have:=AD g;omega
 subst c
 rw [take_length] at m
 exact Bt<|Ax<|Ax<|Bg<|Cf<|Ad rfl<|Ab rfl<|Av<|Ao rfl rfl<|⟨l,m,o⟩
def Rw.shaped (r:Rw):Bool:=decide (r.least=0)||decide (r.nxt=[116,111])
theorem LF (r:Rw) (w:World):AO prog 120 [.agg r.cells.toArray] w (fun v w' =>v= .bool r.shaped∧Below w.heap.size w w'):=by
 have a:=Below.refl w.heap.size w
 refine A6 (n:=11) func120 O<|Ai<|C2 (cs:=r.cells) O O O ?_
 rintro d w b c f -
 have a:=a.bs f
 refine Ab O<|Ay<|Bc underlying125 O (CA _)<|Aa (Ap (BI _) O ‹_› rfl) O ?_
 refine Aa (Cp O O) O<|Ad O ?_
 refine B7 6 O ?_ ?_
 ·intro g
  have g:r.least=0:=by have:=AE g;omega
  refine Ae (dj:=6) O O O O<|Ae (dj:=6) O O O O<|Ae (dj:=6) O O O O<|Bn O<|Ab O<|Av<|Ao O O ?_
  exact ⟨by unfold Rw.shaped;rw [decide_eq_true g];rfl,a⟩
 intro g
 have g:¬r.least=0:=fun e=>by have:=AD g;omega
 refine Ah (dj:=6) O O<|Bc underlying125 O (HF _)<|Ah (dj:=6) O O<|Aa (Ap (GA _) O ‹_› rfl) O ?_
 refine Ah (dj:=6) O O<|Aa (Ew O O) O<|Ci O<|Ab O<|Av<|Ao O O ?_
 exact ⟨by unfold Rw.shaped;rw [decide_eq_false g];rfl,a⟩
end Go.Proofs.YtblbopcaflaldaaGreatDoor

namespace Go.Proofs.YtblbopcaflaldaaGreatDoor
open Go Go.Dd Go.RowKit List
set_option maxRecDepth 100000



def cn (i:Int):List Int→Nat
 |[]=>0
 |x::l=>(if x=i then 1 else 0)+cn i l
def fl (m:Int):List Int→Nat
 |[]=>0
 |x::l=>(if 0≤x∧x<m then 1 else 0)+fl m l
theorem KG (i:Int):∀a b:List Int,cn i (a++b)=cn i a+cn i b
 |[],b=>by simp [cn]
 |x::a,b=>by simp only [cons_append,cn];rw [KG i a b];omega
theorem Ns {i:Int}:∀{l:List Int},i ∈ l→1≤cn i l
 |x::l,h=>by
  simp only [cn]
  rcases List.mem_cons.1 h with rfl|h
  ·rw [if_pos rfl];omega
  ·have:=Ns h;omega
theorem IZ (m:Nat):∀l:List Int,fl ((m+1:Nat):Int) l=fl (m:Int) l+cn (m:Int) l
 |[]=>rfl
 |x::l=>by
  simp only [fl,cn]
  rw [IZ m l]
  split<;>split<;>split<;>omega
theorem NS:∀l:List Int,fl 0 l=0
 |[]=>rfl
 |x::l=>by
  simp only [fl]
  rw [NS l,if_neg (by omega)]
theorem QF (m:Int):∀l:List Int,fl m l≤l.length
 |[]=>AT _
 |x::l=>by
  have:=QF m l
  simp only [fl,length_cons]
  split<;>omega
theorem QG {m:Int}:∀{l:List Int},fl m l=l.length→∀x ∈ l,0≤x∧x<m
 |[],_,x,a=>by simp at a
 |y::l,h,x,a=>by
  have:=QF m l
  simp only [fl,length_cons] at h
  by_cases g:0≤y∧y<m
  ·rw [if_pos g] at h
   rcases List.mem_cons.1 a with rfl|a
   ·exact g
   ·exact QG (by omega) x a
  ·rw [if_neg g] at h;omega
theorem T1 {l:List Int} (h:∀i:Nat,i<l.length→cn (i:Int) l=1):Hz l=true:=by
 have e:∀m:Nat,m≤l.length→fl (m:Int) l=m:=fun m=>by
  induction m with
  |zero=>intro _;exact NS l
  |succ m ih=>intro d;rw [IZ,ih (by omega),h m (by omega)]
 have a:=QG (e l.length (AT _))
 refine I0.2 fun j b=> ?_
 have d:l.getD j default ∈ l:=by simp [b]
 have c:=a _ d
 unfold Qe
 rw [decide_eq_true c.1,decide_eq_true c.2]
 cases hc:(l.take j).contains (l.getD j default) with
 |false=>rfl
 |true=>
  have f:l.getD j default ∈ l.take j:=by simpa using hc
  have o:=Ns f
  have k:cn (l.getD j default) (l.drop j)=1+cn (l.getD j default) (l.drop (j+1)):=by
   rw [drop_eq_getElem_cons b]
   simp [cn,b]
  have n:cn (l.getD j default) l=cn (l.getD j default) (l.take j)+cn (l.getD j default) (l.drop j):=by rw [← KG,take_append_drop]
  have g:=h (l.getD j default).toNat (by omega)
  rw [Int.toNat_of_nonneg c.1] at g
  omega
theorem KA (i:Nat):∀n,Q3 (fun x=>if x=i then 1 else 0) n=if i<n then 1 else 0
 |0=>rfl
 |n+1=>by
  simp only [Q3]
  rw [KA i n]
  split<;>split<;>split<;>omega
theorem NW (i:Nat):∀{l:List Int},(∀x ∈ l,0≤x)→(cn (i:Int) l:Int)=HS (fun x=>if x=i then 1 else 0) (SY l)
 |[],_=>rfl
 |x::l,h=>by
  have c:=h x (by simp)
  have a:=NW i (l:=l) fun y b=>h y (by simp [b])
  simp only [SY] at a ⊢
  simp only [map_cons,HS,cn]
  rw [← a]
  by_cases g:x=(i:Int)
  ·rw [if_pos g,if_pos (by omega)];omega
  ·rw [if_neg g,if_neg (by omega)];omega
theorem SX {l:List Int} (h:Hz l=true) (b:l.length≤4) {i:Nat} (d:i<l.length):cn (i:Int) l=1:=by
 have c:∀x ∈ l,0≤x:=fun x f=>by
  obtain ⟨j,a,e⟩:=getElem_of_mem f
  have:=(Iz h a).1
  rwa [show l.getD j default=x by simp [a,e]] at this
 have e:=NW i c
 rw [O9 (Qd h b),J7,KA,if_pos d] at e
 omega
end Go.Proofs.YtblbopcaflaldaaGreatDoor

namespace Go.Dd
open Go Go.RowKit
open List hiding get
section
variable {P : Program} {Q : BC} {n : Nat} {E : BP} {w : World} {ty t s e : TypeId} {x y : Operand} {a b : ByteArray} {u v z : Value}
theorem Pw.ret3 {d:Func} {R:Value→World→Prop} {p q r:Nat} (i:d.results= #[.tmp p, .tmp q, .tmp r]) (f:get E p=some u) (g:get E q=some v) (j:get E r=some z) (h:R (.tuple #[u,v,z]) w):Pw n E (Pq P d R .ret) w:=fun a c=>
 bodyPost_ret (v:= .tuple #[u,v,z]) (by rw [results_tmp3 i];simp [Array.getD_eq_getD_getElem?,c.has _ _ f,c.has _ _ g,c.has _ _ j]) c.dfr ⟨_,rfl,h⟩
theorem Js {j:Func} {p q r:Tmp} {c:TypeId} (h:j.results= #[.cell p c, .tmp q, .tmp r]) (tmps:Array Value) (w:World) (g:Nat) (i:TypeId) (cs:Array Value) (k:Nat×Nat) (d:TypeDesc)
  (m:tmps.getD p undef= .pointer (some ⟨g,0,none⟩)) (A:w.heap[g]? =some (.cells cs i k))
  (o:P.underlying c=some d) (l:(match d with| .struct _| .array _ _=>true|_=>false)=true) (B:(P.info? c).map (·.size)=some cs.size):
  (results j tmps).run P w= .ok (.tuple #[.agg cs,tmps.getD q undef,tmps.getD r undef]) w:=by
 have f:tmps[p]?.getD undef= .pointer (some ⟨g,0,none⟩):=by simpa using m
 simp [results,h,f,asAddr,run_loadVar_row w g i c cs k d A o l B]
theorem En {f:Func} {R:Value→World→Prop} {p q r b k:Nat} {T:TypeId} {cs:List Value} {d:TypeDesc} (m:f.results= #[.cell p e, .tmp q, .tmp r]) (i:get E p=some (.pointer (some ⟨b,0,none⟩))) (l:get E q=some u) (C:get E r=some v) (A:AM w b T cs)
  (o:P.underlying e=some d) (g:(match d with| .struct _| .array _ _=>true|_=>false)=true) (B:(P.info? e).map (·.size)=some k) (j:cs.length=k) (h:R (.tuple #[.agg cs.toArray,u,v]) w):Pw n E (Pq P f R .ret) w:=fun a c=>by
 subst j
 have:=Js m a.tmps w b T cs.toArray (0,0) d (by simp [Array.getD_eq_getD_getElem?,c.has _ _ i]) A o g (by simpa using B)
 rw [show a.tmps.getD q undef=u by simp [Array.getD_eq_getD_getElem?,c.has _ _ l],show a.tmps.getD r undef=v by simp [Array.getD_eq_getD_getElem?,c.has _ _ C]] at this
 exact bodyPost_ret this c.dfr ⟨_,rfl,h⟩
end
end Go.Dd

namespace Go.Proofs.YtblbopcaflaldaaGreatDoor
open Go Go.Dd Go.RowKit List
set_option maxRecDepth 100000
theorem Sy {l:List Int}:∀m:Nat,(∀i:Nat,i<m→1≤cn (i:Int) l)→m≤fl (m:Int) l
 |0,_=>Nat.zero_le _
 |m+1,h=>by
  have:=Sy m fun i a=>h i (by omega)
  have:=h m (by omega)
  rw [IZ];omega
theorem Sx {l:List Int} {j:Nat} (a:2≤cn (j:Int) l):∀m:Nat,j<m→(∀i:Nat,i<m→1≤cn (i:Int) l)→m+1≤fl (m:Int) l
 |0,h,_=>by omega
 |m+1,h,hh=>by
  rw [IZ]
  by_cases e:j=m
  ·have:=Sy m fun i b=>hh i (by omega)
   rw [← e] at this ⊢;omega
  ·have:=Sx a m (by omega) fun i b=>hh i (by omega)
   have:=hh m (by omega)
   omega
theorem NV {i:Int}:∀{l:List Int},i ∉ l→cn i l=0
 |[],_=>rfl
 |x::l,h=>by
  simp only [cn]
  rw [NV fun a=>h (mem_cons_of_mem _ a),if_neg fun e=>h (by rw [e];simp)]
theorem JH (s:List Int):IR s=(decide (s.length≤4) && Hz s):=by
 unfold IR
 by_cases h4:s.length≤4
 ·rw [decide_eq_true h4,Bool.and_true,Bool.true_and,Bool.eq_iff_iff]
  constructor
  ·intro c
   have d:∀i:Nat,i<s.length→1≤cn (i:Int) s:=fun i a=>Ns (by simpa using Ie.1 c i a)
   refine T1 fun i a=> ?_
   have h:=d i a
   by_cases e:2≤cn (i:Int) s
   ·have:=Sx e s.length a d
    have:=QF (s.length:Int) s
    omega
   ·omega
  ·intro f
   refine Ie.2 fun j g=> ?_
   have:=SX f h4 g
   cases c:s.contains (j:Int) with
   |true=>rfl
   |false=>
    exfalso
    have b:(j:Int) ∉ s:=by simpa using c
    have k:cn (j:Int) s=0:=NV b
    omega
 ·rw [decide_eq_false h4];simp

def BV (k:BitVec 8):Rw:=(HC.find? fun r=>decide (r.k=k.toNat)).getD ⟨0,[],0,0,[],[]⟩
def EK (r:Rw) (x:N5):List (List UInt8):=
 [r.word]++x.i.map Lib.itoa++(if r.nxt=[] then [] else [r.nxt])++(if r.shaped then x.s.map Lib.itoa else if r.nxt=[] then [] else [Lib.itoa x.n])++(if r.last=[] then [] else [r.last,Lib.itoa x.p])
def JA (x:N5):List UInt8:=Lib.join (EK (BV x.k) x) [32]++[10]
def CQ (ls:List N5):List UInt8:=(ls.map JA).flatten
def Kr (ls:List N5):Int:=if (FX ls).isSome then 0 else 1
def Kq (ls:List N5):List UInt8:=if (FX ls).isSome then CQ ls else []
theorem R0:∀k:BitVec 8,(CM k).isSome=true→BV k ∈ HC∧((BV k).k:Int)=(k.toNat:Int):=by decide+kernel
theorem LJ:∀r ∈ HC,∀q ∈ HC,r.k=q.k→r=q:=by decide+kernel
theorem PP {k:BitVec 8} (h:(CM k).isSome=true):RD (b8 k) (.agg (BV k).cells.toArray)∧∀v,RD (b8 k) v→v= .agg (BV k).cells.toArray:=by
 obtain ⟨a,d⟩:=R0 k h
 refine ⟨⟨BV k,a,by rw [d],rfl⟩,fun v ⟨q,b,c,e⟩=> ?_⟩
 have:(k.toNat:Int)=(q.k:Int):=by injection c
 rw [e,LJ (BV k) a q b (by omega)]
structure ID (x:N5):Prop where
 kd:(CM x.k).isSome=true
 ii:∀j ∈ x.i,0≤j∧j≤65536
 ss:∀d ∈ x.s,0≤d∧d≤65536
 nn:0≤x.n∧x.n≤64
 pp:0≤x.p∧x.p≤64
 il:((BV x.k).least:Int)≤x.i.length∧x.i.length≤4
 sl:x.s.length≤4
 s0:(BV x.k).shaped=false→x.s=[]
 n0:((BV x.k).nxt=[]∨(BV x.k).shaped=true)→x.n=0
 p0:(BV x.k).last=[]→x.p=0
 im:(x.i.length:Int)≤(BV x.k).most
theorem R8 {s:List Int} (h:Hz s=true) (c:s.length≤4):∀d ∈ s,0≤d∧d≤65536:=fun d b=>by
 obtain ⟨j,a,rfl⟩:=List.mem_iff_getElem.1 b
 have:=Iz h a
 rw [getD_eq_getElem?_getD,getElem?_eq_getElem a] at this
 simp only [Option.getD_some] at this
 omega
theorem SQ:∀k:BitVec 8,(match CM k with
  |some [a,b,c,d,e,f]=>decide (((BV k).least:Int)=a) && decide (b≤(BV k).most) && decide (b≤4) && decide (0≤c) && decide (d≤64) && decide (e≤64) && (decide (f=0)||(BV k).shaped) && (!(decide ((BV k).nxt=[])||(BV k).shaped)||(decide (c=0) && decide (d=0))) && (!decide ((BV k).last=[])||decide (e=0))
  |_=>true)=true:=by decide+kernel
theorem RH {x:N5} (h:DA x.k x.i x.s x.n x.p=true) (s:∀j ∈ x.i,0≤j∧j≤65536):ID x:=by
 unfold DA at h
 have l:=SQ x.k
 cases i:CM x.k with
 |none=>rw [i] at h;cases h
 |some r=>
  obtain ⟨_,_,t⟩:=IY i
  obtain ⟨a,b,c,d,e,f,rfl⟩:=MO t
  rw [i] at h l
  simp only [Bool.and_eq_true,Bool.or_eq_true,Bool.not_eq_true',decide_eq_true_eq] at l
  obtain ⟨⟨⟨⟨⟨⟨⟨⟨u,E⟩,w⟩,F⟩,z⟩,D⟩,o⟩,n⟩,p⟩:=l
  obtain ⟨⟨y,G,A,C,B,v⟩,g⟩:=FK.1 h
  refine ⟨by rw [i];rfl,s, ?_,by omega,by omega,by omega, ?_,fun m=> ?_,fun k=> ?_,fun q=> ?_,by omega⟩
  ·split at g
   ·intro d i
    rw [eq_nil_of_length_eq_zero (AE g)] at i
    cases i
   ·split at g
    ·intro d i
     have:=((Shapes.ok_iff _).1 g).2.1 d i
     omega
    ·rw [JH,Bool.and_eq_true,decide_eq_true_eq] at g
     exact R8 g.2 g.1
  ·split at g
   ·have:=AE g
    omega
   ·split at g
    ·exact ((Shapes.ok_iff _).1 g).1.2
    ·rw [JH,Bool.and_eq_true,decide_eq_true_eq] at g
     exact g.1
  ·rcases o with e|e
   ·rw [if_pos e] at g
    exact eq_nil_of_length_eq_zero (AE g)
   ·rw [e] at m;cases m
  ·rcases n with e|e
   ·simp only [Bool.or_eq_false_iff,decide_eq_false_iff_not] at e
    rcases k with k|k
    ·exact absurd k e.1
    ·rw [e.2] at k;cases k
   ·omega
  ·rcases p with e|e
   ·exact absurd q (by simpa using e)
   ·omega
end Go.Proofs.YtblbopcaflaldaaGreatDoor

namespace Go.Dd
open Go Go.RowKit
open List hiding get
def Ir (P:Program) (f:FuncId) (args:List Value) (w:World) (pv:Value) (R:Value→World→Prop) (K:World→Prop):Prop:=
 (∃ fn, P.funcs[f]? = some fn ∧ (fn.name == "runtime.NumGoroutine") = false ∧ fn.body.isSome = true) ∧ Calls P f args.toArray w (fun e w' => (∃ v, e = .returned v ∧ R v w') ∨ (e = .panicked [{ v := pv, recovered := false }] ∧ K w'))
def Nx (P:Program) (fn:Func) (pv:Value) (R:Value→World→Prop) (K:World→Prop):BC:=bodyPost P fn (fun e w' =>(∃v,e= .returned v∧R v w')∨(e= .panicked [{v:=pv,recovered:=false}]∧K w'))
section
variable {P : Program} {Q : BC} {n : Nat} {E : BP} {w : World} {l0 rest : List Oper} {ty : TypeId} {pos : String} {af : Array Edge} {x : Operand} {pv : Value}
theorem Ir.mono {f:FuncId} {args:List Value} {R c:Value→World→Prop} {K d:World→Prop} (h:Ir P f args w pv R K) (g:∀v w',R v w' →c v w') (e:∀w',K w' →d w'):Ir P f args w pv c d:=
 ⟨h.1,h.2.mono fun _ _ q=>q.imp (fun ⟨v,b,a⟩=>⟨v,b,g _ _ a⟩) (fun ⟨b,a⟩=>⟨b,e _ a⟩)⟩
theorem Dl {f : FuncId} {b : Func} {c : Code} {args : List Value} {R : Value → World → Prop} {K : World → Prop} (g : P.funcs[f]? = some b) (a : (b.name == "runtime.NumGoroutine") = false) (j : b.body = some c)
  (m:b.ntmps=n) (l:Nat.ble args.length n=true) (h:Cw P (Nx P b pv R K) n c (params 0 args) w):Ir P f args w pv R K:=by
 refine ⟨⟨b,g,a,by simp [j]⟩,calls_of_wp g j (h _ ⟨rfl, ?_,fun i v k=> ?_⟩)⟩
 ·have:args.length≤n:=Nat.le_of_ble_eq_true l
  simp [m];omega
 ·have e:=(CV args 0 i v k).2
  simp only [Nat.sub_zero] at e
  have d:i<args.length:=by
   rcases Nat.lt_or_ge i args.length with h|h
   ·exact h
   ·simp [getElem?_eq_none h] at e
  rw [Array.getElem?_append]
  simp only [size_toArray,d,if_true,getElem?_toArray]
  exact e
theorem Fc {c:Func} {R:Value→World→Prop} {K:World→Prop} {t:Nat} {v:Value} (e:c.results= #[.tmp t]) (d:get E t=some v) (h:R v w):Pw n E (Nx P c pv R K .ret) w:=fun a b=>
 bodyPost_ret (v:=v) (by rw [results_tmp e];simp [Array.getD_eq_getD_getElem?,b.has _ _ d]) b.dfr (.inl ⟨v,rfl,h⟩)
theorem Pw.ret0q {a:Func} {R:Value→World→Prop} {K:World→Prop} (c:a.results= #[]) (h:R (.tuple #[]) w):Pw n E (Nx P a pv R K .ret) w:=fun _ b=>
 bodyPost_ret (v:= .tuple #[]) (by rw [results_none c]) b.dfr (.inl ⟨_,rfl,h⟩)
theorem Fy {a:Func} {R:Value→World→Prop} {K:World→Prop} (c:a.results= #[]) (h:R (.tuple #[]) w):Pw n E (Nx P a pv R K .normal) w:=fun _ b=>
 bodyPost_end (v:= .tuple #[]) (by rw [results_none c]) b.dfr (.inl ⟨_,rfl,h⟩)
theorem Cq {b:Func} {R:Value→World→Prop} {K:World→Prop} (h:K w):Pw n E (Nx P b pv R K (.panic [{v:=pv,recovered:=false}])) w:=fun _ a=>⟨a.dfr, .inr ⟨rfl,h⟩⟩
theorem Di {b:Func} {R:Value→World→Prop} {K:World→Prop}:AI (Nx P b pv R K):=fun _ a _ o v h=>by
 cases o with
 |none=>exact h
 |some d=>exact h
theorem Be {K:Act→World→Prop} {c:List PanicEntry} (h:Pw n E (Q (.panic c)) w):Pw n E (BO K Q (.panic c)) w:=h
theorem C4 {a:Nat} {c:List PanicEntry} (h:Pw n E (Q (.panic c)) w):Pw n E (Hj a Q (.panic c)) w:=h
theorem Lw.callQ {d:Nat} {i:Op} {f:FuncId} {vs:List Value} {R:Value→World→Prop} {K:World→Prop} (h:Xc P n E i ty w f vs) (j:Nat.blt d n=true) (l:Ir P f vs w pv R K)
  (m:∀w',K w' →Pw n E (Q (.panic [{v:=pv,recovered:=false}])) w') (k:∀v w',R v w' →Lw P l0 Q n rest ((d,v)::E) w'):Lw P l0 Q n (⟨some d,i,ty,pos,af,none⟩::rest) E w:=
 fun a c=>wpList_plain rfl fun o g=>by
  unfold Oper.wp
  rw [h a c]
  refine l.2.mono fun e w' q=> ?_
  rcases q with ⟨v,rfl,b⟩|⟨rfl,b⟩
  ·exact g _ _ (k v w' b _ (c.put v j))
  ·exact m w' b a c
theorem Cn {d:Nat} {f:FuncId} {xs:List Operand} {vs:List Value} {ts:Array TypeId} {R:Value→World→Prop} {K:World→Prop} (c:evs E xs=some vs) (b:Nat.blt d n=true) (a:Ir P f vs w pv R K)
  (e:∀w',K w' →Pw n E (Q (.panic [{v:=pv,recovered:=false}])) w') (k:∀v w',R v w' →Lw P l0 Q n rest ((d,v)::E) w'):Lw P l0 Q n (⟨some d, .call {callee:= .value (.func f),args:=xs.toArray,argTypes:=ts},ty,pos,af,none⟩::rest) E w:=
 Lw.callQ (Xc.mk a.1 c) b a e k
theorem Dx {T:TypeId} {d:Array Field} {v:Value} (c:P.underlying T=some (.struct d)) (e:ev E x=some v):Ex P n E (.makeInterface T x) ty w (.iface T v):=fun a b _ _ _ _=>by
 simp [execOp,b.ev e,Instr.makeInterface,run_underlying c]
theorem D7 {d:Option Nat} {T:TypeId} {v:Value} (c:ev E x=some (.iface T v)) (h:Pw n E (Q (.panic [{v:= .iface T v,recovered:=false}])) w):Lw P l0 Q n (⟨d, .panic x,ty,pos,af,none⟩::rest) E w:=
 fun a b=>wpList_plain rfl fun f _=>by
  unfold Oper.wp
  have e:(execOp a.eval ⟨d, .panic x,ty,pos,af,none⟩).run P w= .halt (.panic (.iface T v)) w:=by simp [execOp,b.ev c,Instr.panic]
  rw [e]
  exact h a b
end
end Go.Dd

namespace Go.Proofs.YtblbopcaflaldaaGreatDoor
open Go Go.Dd Go.RowKit List Go.Proofs.Tryz
set_option maxRecDepth 100000
def Nu:Value:= .iface 106 (.agg #[])
structure KL (W w:World) (A:Nat) (v:Value) (l:List (BitVec 8)):Prop where
 sl:AY b8 W v l
 bel:Below W.heap.size W w
 lo:W.heap.size≤A
 cell:AM w A 99 [v]
theorem KX (W w:World) (A n:Nat) (v:Value) (l:List (BitVec 8)) (i:KL W w A v l):
  Ir prog 57 [.pointer (some ⟨A,0,none⟩), .int .i64 (n:Int)] w Nu
   (fun r w' =>n≤l.length∧w.grownBy w' (some A)∧w'.heap.size=w.heap.size∧AY b8 W r (l.take n)∧∃v',KL W w' A v' (l.drop n)) (fun w' =>l.length<n∧w' =w):=by
 obtain ⟨a,e,d,b⟩:=i
 have h:=a.bs e
 refine Dl (n:=31) func57 (by kernel_rfl) O O O<|Ai<|Ab O<|A9<|Ad O<|Ad O<|Aa (Ck O) O<|Bc underlying99 O (Ku _)<|Aa (Ap (H2 _) O ‹_› rfl) O ?_
 refine Aa (Au AJ O ‹_›) O ?_
 refine Aa (C1 O O) O<|Ak<|Al O ?_ ?_
 ·intro g
  have g:=AE g
  refine Az<|Aa (Bl (vs:=[]) (cs:=[]) O (by kernel_rfl)) O<|Aa (Dx underlying106 O) O ?_
  refine D7 O (Be (Cq (⟨by omega,rfl⟩)))
 intro g
 have g:=AD g
 have c:n≤l.length:=by omega
 refine B8<|Ad O<|Aa (Ck O) O<|Bc underlying99 O (Ku _)<|Aa (Ap (H2 _) O ‹_› rfl) O ?_
 refine Ad O<|Aa (Ey AJ O O ‹_› (by omega)) O ?_
 refine Ab O<|Ay<|Ad O<|Ad O<|Aa (Ck O) O<|Bc underlying99 O (Ku _)<|Aa (Ap (H2 _) O ‹_› rfl) O ?_
 refine Ad O<|Aa (Fl AJ O O ‹_› (by omega)) O ?_
 refine Aa (Ck O) O<|Bc underlying99 O (Ku _)<|A5 (Ce (Ku _) O O (a.drop c).one' b (show 0<1 by omega)) ?_
 rintro w ⟨b,f,j⟩
 refine Ay<|Ad O<|Ab O<|Av<|Fc O O ?_
 exact ⟨c,f,j,a.take c,_,⟨a.drop c,e.grown f (AA e) (by rintro _ ⟨⟩;omega),d,b⟩⟩
theorem KL.le {W w:World} {A:Nat} {v:Value} {l:List (BitVec 8)} (h:KL W w A v l):l.length≤9223372036854775807:=h.sl.le
theorem PQ (W w:World) (A:Nat) (v:Value) (l:List (BitVec 8)) (g:KL W w A v l):
  Ir prog 52 [.pointer (some ⟨A,0,none⟩)] w Nu
   (fun r w' =>1≤l.length∧w.grownBy w' (some A)∧w'.heap.size=w.heap.size∧r= .int .i64 ((l.getD 0 default).toNat:Int)∧∃v',KL W w' A v' (l.drop 1)) (fun w' =>l.length<1∧w' =w):=by
 refine Dl (n:=8) func52 (by kernel_rfl) O O O<|Ai<|Ab O<|Ay<|Ad O<|Cn O O (KX W w A 1 v l g) (fun w' h=>Be (Cq (h))) ?_
 rintro r k ⟨f,i,j,d,v',c⟩
 have e:=d.bs c.bel
 have a:0<(l.take 1).length:=by rw [length_take];omega
 have a:0<(l.take 1).length:=by rw [length_take];omega
 refine Aa (Ee AJ O O e.shp 0 O a) O<|Aa (Bf (IB _) O ‹_› (by omega)) O ?_
 refine Aa (F1 Oi Hr O) O<|Ab O<|Av<|Fc O O ?_
 refine ⟨f,i,j, ?_,v',c⟩
 cases l with
 |nil=>simp at f
 |cons b t=>rfl
def CT (t:List (BitVec 8)):List Int:=t.map fun b=>(b.toNat:Int)
theorem I5 (t:List (BitVec 8)):(CT t).length=t.length:=length_map ..
theorem Nf {t:List (BitVec 8)} {i:Nat} (a:i<t.length):CT (t.take (i+1))=CT (t.take i)++[((t.getD i default).toNat:Int)]:=by
 unfold CT
 rw [take_succ_eq_append_getElem a,map_append,getD_eq_getElem?_getD,getElem?_eq_getElem a]
 rfl
set_option maxHeartbeats 1000000 in
theorem Rz (W w:World) (A:Nat) (v:Value) (l:List (BitVec 8)) (Y:KL W w A v l):
  Ir prog 53 [.pointer (some ⟨A,0,none⟩)] w Nu
   (fun r w' =>1≤l.length∧(l.getD 0 default).toNat≤(l.drop 1).length∧w.grownBy w' (some A)∧
    AS w' w.heap.size 3 1 r (CT ((l.drop 1).take (l.getD 0 default).toNat)).length ((CT ((l.drop 1).take (l.getD 0 default).toNat)).map (Value.int .i64))∧
    ∃v',KL W w' A v' ((l.drop 1).drop (l.getD 0 default).toNat))
   (fun w' =>(l.length<1∨(l.drop 1).length<(l.getD 0 default).toNat)∧w.grownBy w' (some A)):=by
 obtain ⟨n,B⟩:∃n,n=(l.getD 0 default).toNat:=⟨_,rfl⟩
 have J:n<256:=by rw [B];exact (l.getD 0 default).isLt
 rw [← B]
 refine Dl (n:=22) func53 (by kernel_rfl) O O O<|Ai<|Ab O<|A9<|Ad O<|Ad O<|Cn O O (PQ W w A v l Y) (fun w' k=>Be (Be (Cq (⟨.inl k.1,k.2 ▸ AX (Below.refl _ _) _⟩)))) ?_
 rintro _ G ⟨L,m,M,rfl,N,D⟩
 rw [← B]
 refine Cn O O (KX W G A n N _ D) (fun w' k=>Be (Be (Cq (⟨.inr k.1,k.2 ▸ m⟩)))) ?_
 rintro r s ⟨H,u,U,p,V,a⟩
 obtain ⟨t,E⟩:∃t,t=(l.drop 1).take n:=⟨_,rfl⟩
 rw [← E] at p ⊢
 have K:=AP m u
 have T:s.heap.size=w.heap.size:=by omega
 have f:=p.bs a.bel
 have lt:t.length≤255:=by rw [E,length_take];omega
 refine Aa (Au AJ O ‹_›) O ?_
 refine Ad O<|Ak<|As ?_
 refine B1 (S:=(Nat×Value)) (fun z=>[(0, .pointer (some ⟨A,0,none⟩)),(2,z.2),(8,r),(9, .int .i64 (t.length:Int)),(10, .int .i64 (z.1:Int))]) (fun z w' =>z.1≤t.length∧Below s.heap.size s w' ∧w'.ownsRow s.heap.size 3 1 z.2 (CT (t.take z.1)).length ((CT (t.take z.1)).map (Value.int .i64))) (fun z=>t.length - z.1) ((0, .slice none 0 0)) ⟨rfl,rfl,rfl,rfl,rfl,trivial⟩ ?_ ?_
 ·exact ⟨Nat.zero_le _,Below.refl _ _,World.ownsRow_nil _ _ _ _⟩
 rintro ⟨i,y⟩ I ⟨X,b,e⟩
 dsimp only at X b e ⊢
 have f:=f.bs b
 refine Ai<|B6 O<|Ak<|Aq<|Al O ?_ ?_
 ·intro g
  have c:i<t.length:=by have:=AE g;omega
  have R:(CT (t.take i)).length+1=(CT (t.take (i+1))).length:=by rw [I5,I5,length_take,length_take];omega
  have Z:(CT (t.take i)).length=i:=by rw [I5,length_take];omega
  refine B4<|Aq<|As<|Ai<|Aa (Ee AJ O O f.shp i O c) O<|Aa (Bf (IB _) O ‹_› (by omega)) O ?_
  refine Ab O<|Ak<|Az<|Ad O<|Ad O<|Aa (F1 Oi Hr O) O<|An (B5 (vs:=[((t.getD i default).toNat:Int)].map (Value.int .i64)) AG DY O O O O O) O ?_
  rintro q F ⟨x, -,h, -⟩
  have e:=AF e h
  have o:=bt b h
  refine An (C5 (base:=s.heap.size) AG DY O (by decide) O O e (AH x) (BB (fun _=>rfl) _) (by omega) (by omega) o.size) O ?_
  rintro Q w5 ⟨j,C, -⟩
  rw [← map_append,← Nf c,R] at j
  refine Ab O<|A7<|A8<|Cs<|Cd O (by omega)<|Ad O<|A7 ?_
  exact A4 (Bu ((i+1,Q)) ⟨rfl,rfl,rfl,rfl,rfl,trivial⟩ (⟨c,o.trans C,j⟩) (by simp only;omega))
 intro g
 have c:i=t.length:=by have:=AD g;omega
 subst c
 rw [take_length] at e
 refine Bt<|Ax<|Ax<|Bg<|Cf<|Ad O<|Af O O (JP y (CT t) I (AK e)) ?_
 rintro _ F ⟨rfl,d⟩
 refine Ab O<|Av<|Fc O O ?_
 refine ⟨L,H,AP K (AX (bt b d) _), ?_,V, ?_⟩
 ·rw [← T];exact (AS.clip e).bs d
 ·exact ⟨a.sl,a.bel.trans ((bt b d).mono (AA a.bel)),a.lo,a.cell.bs (bt b d)⟩
end Go.Proofs.YtblbopcaflaldaaGreatDoor

namespace Go.Proofs.YtblbopcaflaldaaGreatDoor
open Go Go.Dd Go.RowKit List
set_option maxRecDepth 100000
abbrev Bs:=List (BitVec 8)
abbrev PN:=BitVec 8×List Int×List Int×Int×Int
def pn (a:N5):PN:=(a.k,a.i,a.s,a.n,a.p)
def un (p:PN):N5:=⟨p.1, .slice none 0 0, .slice none 0 0,p.2.1,p.2.2.1,p.2.2.2.1,p.2.2.2.2⟩
def GE:Bs→Option (BitVec 8×Bs)
 |[]=>none
 |b::t=>some (b,t)
def GC (l:Bs):Option (List Int×Bs):=match GE l with
 |none=>none
 |some (b,t)=>if b.toNat≤t.length then some (CT (t.take b.toNat),t.drop b.toNat) else none
def DG (l:Bs):Option (PN×Bs):=match GE l with
 |none=>none
 |some (k,l)=>match GC l with
  |none=>none
  |some (i,l)=>match GC l with
   |none=>none
   |some (s,l)=>match GE l with
    |none=>none
    |some (n,l)=>match GE l with
     |none=>none
     |some (p,l)=>some ((k,i,s,(n.toNat:Int),(p.toNat:Int)),l)
def BW:Nat→Bs→Option (List PN×Bs)
 |0,l=>some ([],l)
 |n+1,l=>match DG l with
  |none=>none
  |some (x,l)=>(BW n l).map fun q=>(x::q.1,q.2)
def M5 (s:List Int) (l:Bs):Option (PV×Bs):=
 if Shapes.ok s=true∧4*(Shapes.size s).toNat≤l.length then some ((s,nums (l.take (4*(Shapes.size s).toNat))),l.drop (4*(Shapes.size s).toNat)) else none
def DE:List (List Int)→Bs→Option (List PV×Bs)
 |[],l=>some ([],l)
 |s::ss,l=>match M5 s l with
  |none=>none
  |some (x,l)=>(DE ss l).map fun q=>(x::q.1,q.2)
def JX (ns:List PN):List (List Int):=(ns.filter fun a=>decide (a.1=2#8)).map fun a=>a.2.2.1
def CR (l:Bs):Option (List PN×List PV×Bs):=match GE l with
 |none=>none
 |some (b,l)=>match BW b.toNat l with
  |none=>none
  |some (ns,l)=>(DE (JX ns) l).map fun q=>(ns,q.1,q.2)
def Nj (ns:List PN):Option (List (List Int)):=FX (ns.map un)
def EZ (l:Bs):Option (List PN×List PV):=match CR l with
 |none=>none
 |some (ns,ws,r)=>if r=[]∧(Nj ns).isSome=true then some (ns,ws) else none
def EL (b:Bs):Int:=if b.length<4 then 5 else if gf (b.drop (b.length - 4))≠Crc.of (b.take (b.length - 4)) then 11 else if (EZ (b.take (b.length - 4))).isSome then 0 else 4
def HY (b:Bs):Option (List PN×List PV):=if b.length<4 then none else if gf (b.drop (b.length - 4))≠Crc.of (b.take (b.length - 4)) then none else EZ (b.take (b.length - 4))
theorem NQ:∀(ls:List N5) (a:List (List Int)),EF a (ls.map fun x=>un (pn x))=EF a ls
 |[],_=>rfl
 |x::ls,a=>by
  show (match Ly a x with|some s=>EF (a++[s]) (ls.map fun x=>un (pn x))|none=>none)=match Ly a x with|some s=>EF (a++[s]) ls|none=>none
  cases Ly a x with
  |none=>rfl
  |some s=>exact NQ ls _
theorem QN (k:BitVec 8):∀ls:List N5,((ls.map fun x=>un (pn x)).filter fun a=>decide (a.k=k)).length=(ls.filter fun a=>decide (a.k=k)).length
 |[]=>rfl
 |x::ls=>by
  have b:=QN k ls
  rw [map_cons,filter_cons,filter_cons,show (un (pn x)).k=x.k from rfl]
  split
  ·rw [length_cons,length_cons,b]
  ·exact b
theorem Hq (ls:List N5):Nj (ls.map pn)=FX ls:=by
 unfold Nj
 rw [map_map]
 show FX (ls.map fun x=>un (pn x))=FX ls
 unfold FX
 have b:FC (ls.map fun x=>un (pn x))=FC ls:=QN _ ls
 have a:((ls.map fun x=>un (pn x)).getD (ls.length - 1) default).k=(ls.getD (ls.length - 1) default).k:=by
  rw [getD_eq_getElem?_getD,getD_eq_getElem?_getD,getElem?_map]
  cases ls[ls.length - 1]? <;>rfl
 rw [length_map,NQ,b,a]
theorem KO (ls:List N5):JX (ls.map pn)=(F2 ls).map (·.s):=by
 unfold JX F2
 rw [filter_map,map_map]
 rfl
theorem Oy {l:Bs}:GE l=none↔l.length<1:=by cases l<;>simp [GE]
theorem K2 {l:Bs} (h:1≤l.length):GE l=some (l.getD 0 default,l.drop 1):=by
 cases l with
 |nil=>simp at h
 |cons b t=>rfl
theorem MM {l:Bs}:GC l=none↔(l.length<1∨(l.drop 1).length<(l.getD 0 default).toNat):=by
 cases l with
 |nil=>simp [GC,GE]
 |cons b t=>
  simp only [GC,GE]
  split
  ·rename_i h;simp;omega
  ·rename_i h;simp;omega
theorem ML {l:Bs} (a:1≤l.length) (b:(l.getD 0 default).toNat≤(l.drop 1).length):GC l=some (CT ((l.drop 1).take (l.getD 0 default).toNat),(l.drop 1).drop (l.getD 0 default).toNat):=by
 unfold GC
 rw [K2 a]
 exact if_pos b
theorem L3:∀{a:List (List Int)} {l r:Bs} {ws:List PV},DE a l=some (ws,r)→ws.map Prod.fst=a∧∀p ∈ ws,MG p.1 p.2=true
 |[],l,r,ws,h=>by cases h;exact ⟨rfl,fun _ h=>by cases h⟩
 |s::a,l,r,ws,h=>by
  unfold DE at h
  cases h1:M5 s l with
  |none=>rw [h1] at h;cases h
  |some q=>
   obtain ⟨x,f⟩:=q
   rw [h1] at h
   simp only at h
   cases h2:DE a f with
   |none=>rw [h2] at h;cases h
   |some q2=>
    obtain ⟨g,j⟩:=q2
    rw [h2] at h
    cases h
    obtain ⟨d,i⟩:=L3 h2
    unfold M5 at h1
    split at h1
    ·rename_i c
     cases h1
     refine ⟨by rw [map_cons,d],fun p b=> ?_⟩
     rcases List.mem_cons.1 b with rfl|b
     ·have:=Shapes.size_le s
      have e:=LQ (Shapes.size s).toNat (l.take (4*(Shapes.size s).toNat)) (by rw [length_take];omega)
      unfold MG
      rw [c.1,e,Bool.true_and,decide_eq_true_eq]
      show ((Shapes.size s).toNat:Int)=Shapes.size s
      omega
     ·exact i p b
    ·cases h1
theorem LY {ls:List N5} {ts:List T4} {l r:Bs} (h:DE (JX (ls.map pn)) l=some (ts.map pv,r)):ES ls ts=(FX ls).isSome:=by
 obtain ⟨b,g⟩:=L3 h
 rw [KO,map_map] at b
 have d:(F2 ls).length=ts.length:=by have:=cngA length b;simpa using this.symm
 have j:Oa (ts.map pv) (F2 ls)=true:=by
  refine (GI (by rw [length_map,d])).2 fun i f=> ?_
  have a:i<ts.length:=by omega
  rw [getD_eq_getElem?_getD,getElem?_map,getElem?_eq_getElem a]
  show Kk (pv ts[i]) _=true
  have e:=g (pv ts[i]) (mem_map_of_mem (getElem_mem a))
  have c:(ts.map (Prod.fst∘pv))[i]? =((F2 ls).map (·.s))[i]? :=by rw [b]
  rw [getElem?_map,getElem?_map,getElem?_eq_getElem a,getElem?_eq_getElem f] at c
  unfold Kk
  rw [e,Bool.true_and,decide_eq_true_eq]
  exact Option.some.inj c
 unfold ES
 rw [d,j,decide_eq_true rfl,Bool.true_and,Bool.and_true]
theorem LU {n:Nat} {b l c:Bs} {a:List PN} {x:PN} {m:Nat} (h:BW m b=(BW (n+1) l).map fun q=>(a++q.1,q.2)) (d:DG l=some (x,c)):BW m b=(BW n c).map fun q=>(a++[x]++q.1,q.2):=by
 rw [h]
 show ((match DG l with|none=>none|some (x,l)=>(BW n l).map fun q=>(x::q.1,q.2)):Option _).map _=_
 rw [d]
 simp only [Option.map_map]
 congr 1
 funext q
 simp
theorem O5 {n:Nat} {b l:Bs} {a:List PN} {m:Nat} (h:BW m b=(BW (n+1) l).map fun q=>(a++q.1,q.2)) (c:DG l=none):BW m b=none:=by
 rw [h]
 show ((match DG l with|none=>none|some (x,l)=>(BW n l).map fun q=>(x::q.1,q.2)):Option _).map _=_
 rw [c];rfl
theorem Oc {c b:List (List Int)} {s:List Int} {d l e:Bs} {a:List PV} {x:PV} (h:DE b d=(DE (s::c) l).map fun q=>(a++q.1,q.2)) (f:M5 s l=some (x,e)):DE b d=(DE c e).map fun q=>(a++[x]++q.1,q.2):=by
 rw [h]
 show ((match M5 s l with|none=>none|some (x,l)=>(DE c l).map fun q=>(x::q.1,q.2)):Option _).map _=_
 rw [f]
 simp only [Option.map_map]
 congr 1
 funext q
 simp
theorem Rl {d a:List (List Int)} {s:List Int} {c l:Bs} {b:List PV} (h:DE a c=(DE (s::d) l).map fun q=>(b++q.1,q.2)) (e:M5 s l=none):DE a c=none:=by
 rw [h]
 show ((match M5 s l with|none=>none|some (x,l)=>(DE d l).map fun q=>(x::q.1,q.2)):Option _).map _=_
 rw [e];rfl
theorem L4 {s:List Int} {l:Bs} (h:Shapes.ok s=false∨l.length<4*(Shapes.size s).toNat):M5 s l=none:=by
 unfold M5
 refine if_neg fun a=> ?_
 rcases h with h|h
 ·rw [h] at a;cases a.1
 ·omega
theorem Ps {s:List Int} {l:Bs} (h:Shapes.ok s=true) (a:4*(Shapes.size s).toNat≤l.length):M5 s l=some ((s,nums (l.take (4*(Shapes.size s).toNat))),l.drop (4*(Shapes.size s).toNat)):=if_pos ⟨h,a⟩

def HJ (a:Nat) (s:List UInt8):Nat:=s.foldl (fun a c=>10*a+(c.toNat - 48)) a
def No (s:List UInt8):Bool:=s.all fun c=>decide (48≤c.toNat) && decide (c.toNat≤57)
def GF (s:List UInt8):Option Int:=if (decide (1≤s.length) && decide (s.length≤9) && (decide (s.length=1)|| !decide (s.headD 0=48)) && No s)=true then some (HJ 0 s:Int) else none
theorem Ja {d:Nat} (h:d<10):(UInt8.ofNat (48+d)).toNat=48+d:=by
 rw [UInt8.toNat_ofNat'];omega
theorem QK {c:UInt8} (h:48≤c.toNat∧c.toNat≤57):UInt8.ofNat (48+(c.toNat - 48))=c:=by
 apply UInt8.toNat_inj.1
 rw [Ja (by omega)]
 omega
theorem Kx (s:List UInt8) (c:UInt8):HJ 0 (s++[c])=10*HJ 0 s+(c.toNat - 48):=by simp [HJ]
theorem Mt (u:Nat):No (Lib.decDigits u)=true∧HJ 0 (Lib.decDigits u)=u∧(0<u→(Lib.decDigits u).headD 0≠48)∧Lib.decDigits u≠[]:=by
 induction u using Nat.strongRecOn with
 |_ u ih=>
  rw [Lib.decDigits]
  split
  ·rename_i h
   have e:=Ja h
   refine ⟨by simp only [No,all_cons,all_nil,e];simp;omega,by simp only [HJ,foldl_cons,List.foldl_nil,e];omega,fun i b=> ?_,by simp⟩
   have b:UInt8.ofNat (48+u)=48:=b
   rw [b] at e
   have e:48=48+u:=e
   omega
  ·rename_i h
   obtain ⟨c,f,d,g⟩:=ih (u / 10) (by omega)
   have e:=Ja (show u % 10<10 by omega)
   refine ⟨?_, ?_,fun _=> ?_,by simp⟩
   ·unfold No at c ⊢
    rw [List.all_append,c,Bool.true_and,all_cons,all_nil,e];simp;omega
   ·rw [Kx,f,e];omega
   ·cases hd:Lib.decDigits (u / 10) with
    |nil=>exact absurd hd g
    |cons a l=>rw [hd] at d;exact d (by omega)
theorem QJ:∀(n:Nat) (s:List UInt8),s.length=n→s≠[]→No s=true→s.headD 0≠48→Lib.decDigits (HJ 0 s)=s∧0<HJ 0 s:=by
 intro n
 induction n with
 |zero=>intro s h d;exact absurd (eq_nil_of_length_eq_zero h) d
 |succ n ih=>
  intro s p d b i
  obtain ⟨l,c,rfl⟩:∃l c,s=l++[c]:=⟨s.dropLast,s.getLast d,(List.dropLast_concat_getLast d).symm⟩
  have g:No l=true∧48≤c.toNat∧c.toNat≤57:=by
   unfold No at b ⊢
   rw [List.all_append,Bool.and_eq_true] at b
   refine ⟨b.1, ?_⟩
   have:=b.2
   simp only [all_cons,all_nil,Bool.and_true,Bool.and_eq_true,decide_eq_true_eq] at this
   exact this
  obtain ⟨o,k⟩:=g
  rw [Kx]
  cases hl:l with
  |nil=>
   subst hl
   have q:c≠48:=i
   have:c.toNat≠48:=fun e=>q (UInt8.toNat_inj.1 e)
   rw [show HJ 0 []=0 from rfl,Nat.mul_zero,Nat.zero_add,Lib.decDigits_one (by omega),QK k]
   exact ⟨rfl,by omega⟩
  |cons a t=>
   have f:l≠[]:=by rw [hl];simp
   have j:l.headD 0≠48:=by rw [hl] at i ⊢;exact i
   obtain ⟨m,r⟩:=ih l (by simp at p;omega) f o j
   rw [← hl,Lib.decDigits,dif_neg (by omega),show (10*HJ 0 l+(c.toNat - 48)) / 10=HJ 0 l by omega,show (10*HJ 0 l+(c.toNat - 48)) % 10=c.toNat - 48 by omega,m,QK k]
   exact ⟨rfl,by omega⟩
theorem KF {u:Nat} (h:(Lib.decDigits u).length≤9):u<1000000000:=by
 have a:=Lib.lt_pow_nDigits u
 rw [Lib.decDigits_length] at h
 have b:10 ^ Lib.nDigits u≤10 ^ 9:=Nat.pow_le_pow_right (by decide) h
 have:(10:Nat) ^ 9=1000000000:=by decide
 omega
theorem J1 {s:List UInt8} {n:Int}:GF s=some n↔∃u:Nat,n=(u:Int)∧Lib.decDigits u=s∧s.length≤9:=by
 unfold GF
 constructor
 ·intro h
  split at h
  ·rename_i g
   simp only [Bool.and_eq_true,Bool.or_eq_true,decide_eq_true_eq,Bool.not_eq_true',decide_eq_false_iff_not] at g
   obtain ⟨⟨⟨f,j⟩,b⟩,i⟩:=g
   refine ⟨HJ 0 s,(Option.some.inj h).symm, ?_,j⟩
   have d:s≠[]:=fun e=>by rw [e] at f;exact absurd f (by decide)
   by_cases a:s.headD 0=48
   ·rcases b with b|b
    ·obtain ⟨c,rfl⟩:=List.length_eq_one_iff.1 b
     have a:c=48:=a
     subst a
     rw [show HJ 0 [48]=0 from rfl,Lib.decDigits_one (by omega)]
     rfl
    ·exact absurd a b
   ·exact (QJ _ s rfl d i a).1
  ·cases h
 ·rintro ⟨u,rfl,rfl,k⟩
  obtain ⟨o,l,p,m⟩:=Mt u
  rw [if_pos,l]
  simp only [Bool.and_eq_true,Bool.or_eq_true,decide_eq_true_eq,Bool.not_eq_true',decide_eq_false_iff_not]
  refine ⟨⟨⟨?_,k⟩, ?_⟩,o⟩
  ·exact List.length_pos_iff.2 m
  by_cases hu:u<10
  ·left;rw [Lib.decDigits_one hu];rfl
  ·exact .inr (p (by omega))
theorem ON {s:List UInt8} {n:Int} (h:GF s=some n):Lib.itoa n=s∧0≤n∧n≤999999999:=by
 obtain ⟨u,rfl,rfl,a⟩:=J1.1 h
 have:=KF a
 exact ⟨Lib.itoa_nonneg u,by omega,by omega⟩
theorem PT (M:Nat):∀(l r:List UInt8) (a:Nat),Lib.parseUintM M a (l++r)=match Lib.parseUintM M a l with
  | .ok v=>Lib.parseUintM M v r
  |x=>x
 |[],r,a=>by simp only [Lib.parseUintM,nil_append]
 |c::l,r,a=>by
  simp only [cons_append,Lib.parseUintM]
  split
  ·split
   ·rfl
   ·split
    ·rfl
    ·exact PT M l r _
  ·rfl
theorem SR (u:Nat):u≤4294967295→Lib.parseUintM 4294967295 0 (Lib.decDigits u)= .ok u:=by
 have b:∀a d,d<10→a<1844674407370955162→a*10+d≤4294967295→Lib.parseUintM 4294967295 a [UInt8.ofNat (48+d)]= .ok (a*10+d):=by
  intro a d e g f
  unfold Lib.parseUintM
  rw [Ja e,if_pos (by omega),if_neg (by omega),if_neg (by omega)]
  unfold Lib.parseUintM
  rw [show 48+d - 48=d by omega]
 induction u using Nat.strongRecOn with
 |_ u ih=>
  intro h
  rw [Lib.decDigits]
  split
  ·rename_i c
   have:=b 0 u c (by omega) (by omega)
   rwa [show 0*10+u=u by omega] at this
  ·rename_i c
   rw [PT,ih (u / 10) (by omega) (by omega)]
   simp only
   rw [b (u / 10) (u % 10) (by omega) (by omega) (by omega)]
   congr 1
   omega
theorem O4 (s:List UInt8):GF s=match Lib.parseUintB 32 s with
  | .ok u=>if s.length≤9∧Lib.decDigits u=s then some (u:Int) else none
  |_=>none:=by
 cases hn:GF s with
 |some n=>
  obtain ⟨u,rfl,rfl,a⟩:=J1.1 hn
  have b:Lib.parseUintB 32 (Lib.decDigits u)= .ok u:=by
   unfold Lib.parseUintB
   rw [if_neg (Mt u).2.2.2]
   exact SR u (by have:=KF a;omega)
  rw [b]
  simp only
  simp [a]
 |none=>
  cases b:Lib.parseUintB 32 s with
  |ok u=>
   simp only
   rw [if_neg]
   rintro ⟨c,d⟩
   rw [J1.2 ⟨u,rfl,d,c⟩] at hn
   cases hn
  |_=>rfl
def DF:Nat→List (List UInt8)→List Int×List (List UInt8)
 |0,l=>([],l)
 |_+1,[]=>([],[])
 |m+1,w::l=>match GF w with
  |some n=>(n::(DF m l).1,(DF m l).2)
  |none=>([],w::l)
theorem K3:∀(m:Nat) (l:List (List UInt8)),(DF m l).1.map Lib.itoa++(DF m l).2=l∧(DF m l).1.length≤m∧∀n ∈ (DF m l).1,0≤n∧n≤999999999
 |0,l=>⟨rfl,AT _,fun n a=>by cases a⟩
 |_+1,[]=>⟨rfl,Nat.zero_le _,fun n a=>by cases a⟩
 |m+1,w::l=>by
  cases h:GF w with
  |none=>simp only [DF,h];exact ⟨rfl,Nat.zero_le _,fun n a=>by cases a⟩
  |some n=>
   obtain ⟨e,g,f⟩:=K3 m l
   obtain ⟨c,d⟩:=ON h
   simp only [DF,h]
   refine ⟨by rw [map_cons,cons_append,e,c],by rw [length_cons];omega,fun x b=> ?_⟩
   rcases List.mem_cons.1 b with rfl|b
   ·exact d
   ·exact f x b
def EV (s:List UInt8) (l:List (List UInt8)):Option (List (List UInt8)):=if s=[] then some l else match l with
 |[]=>none
 |x::r=>if x=s then some r else none
def Pp (least most:Nat) (l:List (List UInt8)):Option (List Int×List (List UInt8)):=if (DF most l).1.length<least then none else some (DF most l)
def DS (s:List UInt8):BitVec 8:=((HC.find? fun r=>decide (r.word=s)).map fun r=>BitVec.ofNat 8 r.k).getD 0#8
def Ki (r:Rw) (l:List (List UInt8)):Option (List Int×Int×List (List UInt8)):=if r.shaped=true then (Pp 1 65536 l).map fun q=>(q.1,0,q.2) else if r.nxt=[] then some ([],0,l) else (Pp 1 1 l).map fun q=>([],q.1.headD 0,q.2)
def Nn (r:Rw) (l:List (List UInt8)):Option (Int×List (List UInt8)):=if r.last=[] then some (0,l) else (EV r.last l).bind fun l5=>(Pp 1 1 l5).map fun q=>(q.1.headD 0,q.2)
def DH (l:List (List UInt8)):Option PN:=
 if (BV (DS (l.headD []))).word=[] then none else
 (EV (BV (DS (l.headD []))).word l).bind fun l1=>(Pp (BV (DS (l.headD []))).least (BV (DS (l.headD []))).most l1).bind fun q=>
 (EV (BV (DS (l.headD []))).nxt q.2).bind fun l3=>(Ki (BV (DS (l.headD []))) l3).bind fun t=>(Nn (BV (DS (l.headD []))) t.2.2).bind fun e=>
 if e.2=[] then some (DS (l.headD []),q.1,t.1,t.2.1,e.1) else none
theorem Iu {s:List UInt8} {l r:List (List UInt8)} (h:EV s l=some r):l=(if s=[] then [] else [s])++r:=by
 unfold EV at h
 split at h
 ·rename_i e;rw [if_pos e];exact Option.some.inj h
 ·rename_i e
  rw [if_neg e]
  split at h
  ·cases h
  ·split at h
   ·rename_i a;rw [a,Option.some.inj h];rfl
   ·cases h
theorem Ij {a b:Nat} {l:List (List UInt8)} {q:List Int×List (List UInt8)} (h:Pp a b l=some q):l=q.1.map Lib.itoa++q.2∧a≤q.1.length∧q.1.length≤b∧∀n ∈ q.1,0≤n∧n≤999999999:=by
 unfold Pp at h
 split at h
 ·cases h
 ·rename_i e
  cases h
  obtain ⟨d,c,f⟩:=K3 b l
  exact ⟨d.symm,by omega,c,f⟩
theorem Qg {l:List (List UInt8)} {q:List Int×List (List UInt8)} (h:Pp 1 1 l=some q):l=[Lib.itoa (q.1.headD 0)]++q.2:=by
 obtain ⟨a,b,c, -⟩:=Ij h
 obtain ⟨n,e⟩:=List.length_eq_one_iff.1 (show q.1.length=1 by omega)
 rw [a,e];rfl
theorem Qo {r:Rw} {l:List (List UInt8)} {t:List Int×Int×List (List UInt8)} (h:Ki r l=some t):l=(if r.shaped then t.1.map Lib.itoa else if r.nxt=[] then [] else [Lib.itoa t.2.1])++t.2.2:=by
 unfold Ki at h
 split at h
 ·rename_i e
  rw [if_pos e]
  obtain ⟨q,a,rfl⟩:=Option.map_eq_some_iff.1 h
  exact (Ij a).1
 ·rename_i e
  rw [if_neg e]
  split at h
  ·rename_i b;rw [if_pos b];cases h;rfl
  ·rename_i b
   rw [if_neg b]
   obtain ⟨q,a,rfl⟩:=Option.map_eq_some_iff.1 h
   exact Qg a
end Go.Proofs.YtblbopcaflaldaaGreatDoor

namespace Go.Dd
open Go Go.RowKit List
def dfr (f:FuncId) (caps:List Value):Deferred:={target:= .fn (.func f) caps.toArray,args:= #[]}
def TC (P:Program) (fn:Func) (R:Value→World→Prop):BC:=bodyPostD P fn (fun e w' =>∃v,e= .returned v∧R v w')
section
variable {P : Program} {Q : BC} {n : Nat} {E : BP} {w w2 : World} {D : List Deferred} {l0 rest : List Oper} {ty : TypeId} {pos : String} {af : Array Edge} {f : FuncId} {caps : List Value} {fn : Func} {R : Value → World → Prop} {pv : Value}
theorem G7 {f : FuncId} {c : Code} {args : List Value} (e : P.funcs[f]? = some fn) (a : (fn.name == "runtime.NumGoroutine") = false) (g : fn.body = some c)
  (l:fn.ntmps=n) (k:Nat.ble args.length n=true) (h:Cg none [] P (TC P fn R) n c (params 0 args) w):AO P f args w R:=by
 refine ⟨⟨fn,e,a,by simp [g]⟩,calls_of_wp_defers e g ((wpIn_wide (n:=9)).1 (h _ ⟨rfl, ?_,fun i v j=> ?_⟩))⟩
 ·have:args.length≤n:=Nat.le_of_ble_eq_true k
  simp [l];omega
 ·have d:=(CV args 0 i v j).2
  simp only [Nat.sub_zero] at d
  have b:i<args.length:=by
   rcases Nat.lt_or_ge i args.length with h|h
   ·exact h
   ·simp [getElem?_eq_none h] at d
  rw [Array.getElem?_append]
  simp only [size_toArray,b,if_true,getElem?_toArray]
  exact d
theorem Lg.defer {y:Operand} {ts:Array TypeId} (c:ev E y=some (.func (.func f) #[] caps.toArray)) (k:Lg none (dfr f caps::D) P l0 Q n rest E w):
  Lg none D P l0 Q n (⟨none, .defer {callee:= .value y,args:= #[],argTypes:=ts},ty,pos,af,none⟩::rest) E w:=fun a b=>wpListIn_plain rfl fun K e=>by
 refine ⟨fun _ _=>trivial, ?_⟩
 have d:(execOp a.eval ⟨none, .defer {callee:= .value y,args:= #[],argTypes:=ts},ty,pos,af,none⟩).run P w= .ok (.defer (dfr f caps)) w:=by
  simp [execOp,resolve,b.ev c,Deferred.ofValue,dfr]
 rw [show (rnd none).round=none from rfl,Oper.semAt_none,d]
 exact e _ _ (k _ ⟨by show dfr f caps::a.defers=_;rw [b.dfr],b.size,b.has⟩)
theorem Pg.retD (j:(invoke (.fn (.func f) caps.toArray) #[]).run P w= .ok (.enter f caps.toArray) w) (g:CallsD P f caps.toArray .returning w fun e d w' =>e= .returned (.tuple #[])∧d= .returning∧w' =w)
  (b:∀a,BQ [dfr f caps] n E a→∃v,(results fn a.tmps).run P w= .ok v w∧R v w):Pg [dfr f caps] n E (TC P fn R .ret) w:=fun a c=>by
 show Leaves P fn a.tmps _ a.defers .returning w
 rw [c.dfr]
 refine leaves_cons (by simp) j (g.mono ?_)
 rintro e d w' ⟨rfl,rfl,rfl⟩
 obtain ⟨v,i,h⟩:=b a c
 exact ⟨v,i,v,rfl,h⟩
theorem Pg.panD {g:World→Prop} (l:(invoke (.fn (.func f) caps.toArray) #[]).run P w= .ok (.enter f caps.toArray) w) (i:CallsD P f caps.toArray (.panicking [{v:=pv,recovered:=false}]) w fun e d w' =>e= .returned (.tuple #[])∧d= .panicking [{v:=pv,recovered:=true}]∧g w')
  (b:∀w2,g w2→∀a,BQ [dfr f caps] n E a→∃v,(results fn a.tmps).run P w2= .ok v w2∧R v w2):Pg [dfr f caps] n E (TC P fn R (.panic [{v:=pv,recovered:=false}])) w:=fun a c=>by
 show Leaves P fn a.tmps _ a.defers (.panicking _) w
 rw [c.dfr]
 refine leaves_cons (by simp) l (i.mono ?_)
 rintro e d w' ⟨rfl,rfl,h⟩
 obtain ⟨v,k,j⟩:=b w' h a c
 exact ⟨v,k,v,rfl,j⟩
theorem Pg.thenP {K:Act→World→Prop} {c:List PanicEntry} (h:Pg D n E (Q (.panic c)) w):Pg D n E (BO K Q (.panic c)) w:=h
theorem Pg.lowP {c:List PanicEntry} (h:Pg D n E (Q (.panic c)) w):Pw n E (Hw D Q (.panic c)) w:=fun a b=>h _ (b.g D)
theorem Lw.callVQ {d:Nat} {y:Operand} {ts:Array TypeId} {K:World→Prop} (j:ev E y=some (.func (.func f) #[] caps.toArray)) (i:Nat.blt d n=true) (h:Ir P f caps w pv R K)
  (m:∀w',K w' →Pw n E (Q (.panic [{v:=pv,recovered:=false}])) w') (k:∀v w',R v w' →Lw P l0 Q n rest ((d,v)::E) w'):Lw P l0 Q n (⟨some d, .call {callee:= .value y,args:= #[],argTypes:=ts},ty,pos,af,none⟩::rest) E w:=
 fun a c=>wpList_plain rfl fun o g=>by
  unfold Oper.wp
  have l:(execOp a.eval ⟨some d, .call {callee:= .value y,args:= #[],argTypes:=ts},ty,pos,af,none⟩).run P w= .ok (.enter f caps.toArray) w:=by
   simp [execOp,resolve,c.ev j,Deferred.ofValue,invoke,DC (P:=P) (w:=w) h.1]
  rw [l]
  refine h.2.mono fun e w' q=> ?_
  rcases q with ⟨v,rfl,b⟩|⟨rfl,b⟩
  ·exact g _ _ (k v w' b _ (c.put v i))
  ·exact m w' b a c
def TA (P:Program) (fn:Func) (c₀:Frame) (cs:List Frame) (u:FrameMode) (R:Ending→FrameMode→World→Prop):BC:=fun e a w=>bodyPostS P fn c₀ cs R e a ({c₀ with mode:=u}::cs) w
theorem Gr {a:Frame} {cs:List Frame} {u:FrameMode} {R:Ending→FrameMode→World→Prop} (c:fn.results= #[]) (h:R (.returned (.tuple #[])) u w):Pw n E (TA P fn a cs u R .normal) w:=fun _ b=>
 ⟨b.dfr,u,rfl, .tuple #[],by rw [results_none c],h⟩
theorem Mx {f:FuncId} {args:List Value} {R:Ending→FrameMode→World→Prop} {l d:Nat} {c:Call} {rest:Code} {v:Value} {a:List PanicEntry} (m:P.funcs[f]? =some fn)
  (t:fn.body=some (.seq (.region l #[⟨some d, .call c,ty,pos, #[],none⟩] false) rest)) (u:∀(ρ:Operand→Value),(execOp ρ ⟨some d, .call c,ty,pos, #[],none⟩).run P w= .ok .recover w) (x:fn.ntmps=n) (p:Nat.ble args.length n=true) (k:Nat.blt d n=true)
  (h:∀e cs,Cw P (TA P fn e cs (.panicking ({v,recovered:=true}::a)) R) n rest ((d,v)::params 0 args) w):CallsD P f args.toArray (.panicking ({v,recovered:=false}::a)) w R:=by
 refine callsD_of_wpS m t fun e cs s=>wpS_seq (wpS_region ?_)
 have b:BE n (params 0 args) {tmps:=args.toArray++Array.replicate (fn.ntmps - args.toArray.size) undef,defers:=[]}:=by
  refine ⟨rfl, ?_,fun i v o=> ?_⟩
  ·have:args.length≤n:=Nat.le_of_ble_eq_true p
   simp [x];omega
  ·have j:=(CV args 0 i v o).2
   simp only [Nat.sub_zero] at j
   have g:i<args.length:=by
    rcases Nat.lt_or_ge i args.length with h|h
    ·exact h
    ·simp [getElem?_eq_none h] at j
   rw [Array.getElem?_append]
   simp only [size_toArray,g,if_true,getElem?_toArray]
   exact j
 have r:=h e cs _ (b.put v k)
 have q:=wpS_of_wp (cs:={e with mode:= .panicking ({v,recovered:=true}::a)}::cs) (Q:=bodyPostS P fn e cs R) r
 simp only [size_toArray,length_cons,length_nil]
 show wpOpsS P _ _ [0] _ _ _
 simp only [wpOpsS,getElem?_toArray,getElem?_cons_zero,Region.wanted,u,recoverD,s]
 exact q
theorem Mw {f:FuncId} {args:List Value} {R:Ending→FrameMode→World→Prop} {o d:Nat} {c:Call} {rest:Code} (p:P.funcs[f]? =some fn)
  (t:fn.body=some (.seq (.region o #[⟨some d, .call c,ty,pos, #[],none⟩] false) rest)) (u:∀(ρ:Operand→Value),(execOp ρ ⟨some d, .call c,ty,pos, #[],none⟩).run P w= .ok .recover w) (x:fn.ntmps=n) (r:Nat.ble args.length n=true) (m:Nat.blt d n=true)
  (h:∀a cs,Cw P (TA P fn a cs .returning R) n rest ((d, .nilIface)::params 0 args) w):CallsD P f args.toArray .returning w R:=by
 refine callsD_of_wpS p t fun a cs k=>wpS_seq (wpS_region ?_)
 have b:BE n (params 0 args) {tmps:=args.toArray++Array.replicate (fn.ntmps - args.toArray.size) undef,defers:=[]}:=by
  refine ⟨rfl, ?_,fun i v q=> ?_⟩
  ·have:args.length≤n:=Nat.le_of_ble_eq_true r
   simp [x];omega
  ·have j:=(CV args 0 i v q).2
   simp only [Nat.sub_zero] at j
   have g:i<args.length:=by
    rcases Nat.lt_or_ge i args.length with h|h
    ·exact h
    ·simp [getElem?_eq_none h] at j
   rw [Array.getElem?_append]
   simp only [size_toArray,g,if_true,getElem?_toArray]
   exact j
 have e:({a with mode:= .returning}:Frame)=a:=by cases a;simp only at k;rw [k]
 have s:=h a cs _ (b.put .nilIface m)
 have l:=wpS_of_wp (cs:={a with mode:= .returning}::cs) (Q:=bodyPostS P fn a cs R) s
 rw [e] at l
 show wpOpsS P _ _ [0] _ _ _
 simp only [wpOpsS,getElem?_toArray,getElem?_cons_zero,Region.wanted,u,recoverD,k]
 exact l
theorem Hy {p b:Nat} {T:TypeId} {v:Value} {d:TypeDesc} (h:fn.results= #[.cell p ty]) (j:AM w b T [v]) (i:P.underlying ty=some d) (c:(match d with| .struct _| .array _ _=>true|_=>false)=false) {a:Act} (e:a.tmps[p]? =some (.pointer (some ⟨b,0,none⟩))):
  (results fn a.tmps).run P w= .ok v w:=by
 have k:w.cell? ⟨b,0,none⟩=some v:=by simp [World.cell?,show w.heap[b]? =_ from j]
 have g:(isAgg ty).run P w= .ok false w:=by
  simp [isAgg,run_underlying i]
  revert c
  cases d<;>simp
 simp [results,h,e,asAddr,loadVar,g,go_sem,k]
theorem Gc {x:Operand} {t s:TypeId} (c:P.underlying t=some (.interface (P.methodsAt t))) (d:ev E x=some .nilIface):Ex P n E (.binOp .eql t x (.const .nilIface) s) ty w (.bool true):=fun a b _ _ _ _=>by
 simp only [execOp,b.ev d,show a.eval (.const .nilIface)= .nilIface from rfl,eqGuard_nil_constR]
 simp [run_eql_nil_nil w t c]
theorem Gd {x:Operand} {t s T:TypeId} {u:Value} (c:P.underlying t=some (.interface (P.methodsAt t))) (d:ev E x=some (.iface T u)):Ex P n E (.binOp .eql t x (.const .nilIface) s) ty w (.bool false):=fun a b _ _ _ _=>by
 simp only [execOp,b.ev d,show a.eval (.const .nilIface)= .nilIface from rfl,show ∀(p q:Operand),eqGuard .eql t p q (.iface T u) .nilIface=pure () from fun _ _=>rfl]
 simp [run_eql_held_nil w t T u c]
theorem G1 {x:Operand} {t T:TypeId} {u:Value} (c:∀w,(Instr.typeAssert (.iface T u) t T true).run P w= .ok (.tuple #[u, .bool true]) w) (d:ev E x=some (.iface T u)):Ex P n E (.typeAssert x t T true) ty w (.tuple #[u, .bool true]):=fun a b _ _ _ _=>by
 simp [execOp,b.ev d,c w]
end
end Go.Dd

namespace Go.Proofs.YtblbopcaflaldaaGreatDoor
open Go Go.Dd Go.RowKit Go.Proofs.Tryz
open List hiding range
set_option maxRecDepth 100000
-- dd: text
theorem Rx (i:Nat) (h:i<100) (w:World):AO prog 278 [.int .i64 (i:Int)] w (fun r w' =>r=st (Lib.decDigits i)∧w' =w):=
 FZ func278 (by kernel_rfl) (by kernel_rfl) ((D4 i h w).mono fun e w' ⟨b,a⟩=>⟨_,b,rfl,a⟩)
theorem LR (u:Nat) (b:1≤u) (a:u<18446744073709551616) (w:World) (h:IU w):AO prog 279 [.int .u64 (u:Int)] w (fun r w' =>r= .int .i64 (Lib.nDigits u:Int)∧w' =w):=
 FZ func279 (by kernel_rfl) (by kernel_rfl) ((Dv u b a w h.tab).mono fun e w' ⟨b,a⟩=>⟨_,b,rfl,a⟩)
def Ms (b:UInt8):Value:= .int .u8 (b.toNat:Int)
theorem Lm {w:World} {g n:Nat} (d:Array UInt8):w.grownBy ((Sort.putRow Ms w g 0 d).drewN n) (some g):=by
 refine ⟨rfl,rfl,rfl,by show w.heap.size≤(Sort.putRow Ms w g 0 d).heap.size;simp,fun k b a=> ?_⟩
 have:g≠k:=fun e=>a (by rw [e])
 show (Sort.putRow Ms w g 0 d).heap[k]? =_
 simp [Sort.putRow,Sort.mapBlock,Array.getElem?_modify,this]
theorem Nl (b u:Nat) (T:TypeId) (cs:List Value) (w:World) (m:AM w b T cs) (v:∀j,j<Lib.nDigits u→cs[j]? =some (.int .u8 0)) (B:u<1000000000000) (y:Lib.nDigits u≤24):
  AO prog 280 [.slice (some ⟨b,0,none⟩) (Lib.nDigits u) 24, .int .u64 (u:Int)] w (fun r w' =>w.grownBy w' (some b)∧∃l,AY b8 w' (.slice (some ⟨b,0,none⟩) (Lib.nDigits u) 24) l∧l.map UInt8.ofBitVec=Lib.decDigits u):=by
 have o:Sort.Holds Ms w b 0 (Array.replicate (Lib.nDigits u) (0:UInt8)):=fun j d=>by
  have i:j<Lib.nDigits u:=by simpa using d
  refine ⟨?_, ?_⟩
  ·rw [Nat.zero_add,m.cell,v j i,getElem!_pos _ j d]
   simp [Ms]
  ·have k:w.heap[b]? =some (.cells cs.toArray T (0,0)):=m
   simp [World.frozen?,k]
 have g:(Array.replicate (Lib.nDigits u) (0:UInt8)).size=Lib.nDigits u:=by simp
 have q:=Dk b 0 24 u (Array.replicate (Lib.nDigits u) (0:UInt8)) w o (by rw [g];exact Lib.lt_pow_nDigits u) (by omega) (by rw [g];omega)
 rw [g] at q
 refine FZ func280 (by kernel_rfl) (by kernel_rfl) (q.mono ?_)
 rintro e w' ⟨z,n,v',c,rfl,f⟩
 have s:c.toList=Lib.decDigits u:=by
  refine ext_getElem (by rw [Array.length_toList,f.size,Lib.decDigits_length]) fun j A t=> ?_
  rw [Lib.row_is_numeral f j t,Array.getElem_toList,getElem!_pos]
 refine ⟨_,z,Lm c,c.toList.map UInt8.toBitVec,⟨by rw [length_map,Nat.mul_one],some ⟨b,0,none⟩,24, ?_,by rw [length_map,Array.length_toList,f.size];exact y,by decide,(fun h=>by cases h), ?_⟩, ?_⟩
 ·rw [length_map,Array.length_toList,f.size]
 ·rintro a ⟨⟩ j x p
  have d:j<c.size:=by
   have:=(List.getElem?_eq_some_iff.1 p).1
   simpa using this
  have:=Sort.cell?_putRow Ms w b 0 _ c o (by rw [f.size,g]) j d
  rw [add_lit]
  show (Sort.putRow Ms w b 0 c).cell? _=_
  rw [this,← p,getElem!_pos c j d]
  simp [Ms,d]
 ·rw [map_map,← s]
  refine (map_congr_left fun a _=> ?_).trans (List.map_id _)
  rfl
theorem Tl:GH prog 324 [.int .u8 0, .int .u8 0, .int .u8 0, .int .u8 0, .int .u8 0, .int .u8 0, .int .u8 0, .int .u8 0, .int .u8 0, .int .u8 0, .int .u8 0, .int .u8 0, .int .u8 0, .int .u8 0, .int .u8 0, .int .u8 0, .int .u8 0, .int .u8 0, .int .u8 0, .int .u8 0, .int .u8 0, .int .u8 0, .int .u8 0, .int .u8 0] 24:=⟨⟨_,(show Tryz.prog.info? 324=some Tryz.t324 by kernel_rfl),rfl,rfl,_,rfl,rfl⟩⟩
theorem MX {u:Nat} (h:u<1000000000000):Lib.nDigits u≤24:=by
 have:=Lib.itoa_length_le (u:Int) (by omega) (by omega)
 rw [Lib.itoa_nonneg,Lib.decDigits_length] at this
 omega
theorem OQ (u:Nat) (w:World) (h:IU w) (k:u<1000000000000):AO prog 289 [.int .u64 (u:Int), .int .i64 10] w (fun r w' =>r=st (Lib.decDigits u)∧Below w.heap.size w w'):=by
 have b:=Below.refl w.heap.size w
 refine A6 (n:=32) func289 O<|Ai<|Ab O<|A9<|Ad O<|Aa (Cp O O) O<|Ak<|Cm O true (rfl)<|Aq<|Ai<|Ad O<|B6 O<|Ak<|Al O ?_ ?_
 ·intro g
  have g:u<100:=by have:=AE g;omega
  refine Ai<|Ad O<|Aa (Dz ME Hr O (by omega)) O<|Af O O (Rx u g w) ?_
  rintro _ i ⟨rfl,rfl⟩
  exact Ab rfl<|Bw<|A0<|Ao rfl rfl<|⟨rfl,b⟩
 intro g
 have g:100≤u:=by have:=AD g;omega
 refine B8<|Dc Tl O ?_
 rintro c i m d e p
 have y:=e.size
 replace b:=bt b e
 have f:=h.bs e
 refine Ay<|Ad O<|Af O O (LR u (by omega) (by omega) i f) ?_
 rintro _ t ⟨rfl,rfl⟩
 have a:=MX k
 refine Ab O<|Ay<|Ad O<|Aa (Ex.arrH underlying324 Rs O O a) O<|Ad O ?_
 refine Af O O (Nl c u _ _ t d (fun j x=>by show (replicate 24 (Value.int .u8 0))[j]? =_;rw [List.getElem?_replicate,if_pos (by omega)]) k a) ?_
 rintro _ v ⟨o,l,s,q⟩
 refine Ay<|Ad O<|Aa (Ex.arrH underlying324 Rs O O a) O<|Aa (Ex.as (Ex.strOf AJ GP LA O s) (by unfold SO;rw [q])) O<|Ab O<|Bw<|Ao O O ?_
 exact ⟨rfl,b.grown o (AA b) (by rintro _ ⟨⟩;omega)⟩
theorem QD (u:Nat) (w:World) (h:IU w) (a:u<1000000000000):AO prog 274 [.int .u64 (u:Int), .int .i64 10] w (fun r w' =>r=st (Lib.decDigits u)∧Below w.heap.size w w'):=by
 refine A6 (n:=8) func274 O<|Ai<|Ab O<|Ay<|Ad O<|Ad O<|Af O O (OQ u w h a) ?_
 rintro _ c ⟨rfl,b⟩
 exact Ab rfl<|Av<|Ao rfl rfl<|⟨rfl,b⟩
theorem Nt (w:World) (T:TypeId) (s:ByteArray):Below w.heap.size w (Lib.bytesWorld w T s):=by
 exact ⟨rfl,rfl,rfl,by rw [Lib.bytesWorld_size];omega,fun k a=>Lib.bytesWorld_at_old w T s k a⟩
theorem LN (s:List UInt8) (w:World) (h:IU w) (l:s.length≤281474976710656):AO prog 273 [st s, .int .i64 10, .int .i64 32] w (fun r w' =>Below w.heap.size w w' ∧((∃u:Nat,Lib.parseUintB 32 s= .ok u∧u≤4294967295∧r= .tuple #[.int .u64 (u:Int), .nilIface])∨((∀u,Lib.parseUintB 32 s≠ .ok u)∧∃v T x,0≤v∧v≤4294967295∧r= .tuple #[.int .u64 v, .iface T x]))):=by
 refine FZ func273 (by kernel_rfl) (by kernel_rfl) ?_
 have e:(ba s).data.toList=s:=EG s
 have z:(ba s).size=s.length:=Je s
 obtain ⟨k,j,f⟩:=h.es
 obtain ⟨m,i,g⟩:=h.er
 cases hp:Lib.parseUintB 32 s with
 |ok u=>
  refine (Dm (ba s) (by rw [z];omega) u (by rw [e];exact hp) w).mono ?_
  rintro e w' ⟨a,d⟩
  refine ⟨_,a, ?_, .inl ⟨u,rfl,Lib.parseUintB_le hp,rfl⟩⟩
  rcases d with rfl|rfl
  ·exact Below.refl _ _
  ·exact Nt _ _ _
 |range=>
  refine (Df (ba s) (by rw [z];omega) (by rw [e];exact hp) _ w g (.inr ⟨_,_,rfl⟩)).mono ?_
  rintro e w' ⟨N,a, -, -,c⟩
  exact ⟨_,a,c, .inr ⟨(fun u b=>by cases b),_,_,_,(by decide),(by decide),rfl⟩⟩
 |_=>
  refine (Da (ba s) (by rw [z];omega) (by rw [e];exact hp) _ w f (.inr ⟨_,_,rfl⟩)).mono ?_
  rintro e w' ⟨N,a, -, -,c⟩
  exact ⟨_,a,c, .inr ⟨(fun u b=>by cases b),_,_,_,(by decide),(by decide),rfl⟩⟩
theorem Qk (s:List UInt8) (w:World) (h:IU w) (m:s.length≤281474976710656):AO prog 246 [st s] w (fun r w' =>Below w.heap.size w w' ∧∃v,r= .tuple #[v, .bool (GF s).isSome]∧∀n,GF s=some n→v= .int .i64 n):=by
 have b:=O4 s
 refine A6 (n:=26) func246 O<|Ai<|Ab O<|Ab O<|Ay<|Ad O<|Af O O (LN s w h m) ?_
 rintro _ f ⟨c,⟨u,e,o,rfl⟩|⟨d,v,T,x,j,l,rfl⟩⟩
 ·rw [e] at b
  simp only at b
  refine Ad O<|Aa (Ar (i:=0) O O) O<|Aa (Ar (i:=1) O O) O<|Ab O<|Ab O<|Ay<|Ad O<|Aa (Dz ME Hr O (by omega)) O<|Ad O<|Aa (Gc (by kernel_rfl) O) O<|Ad O<|Cl 15 (v' := .bool true) O (cngA Value.bool (rfl))<|Ah (dj:=15) O O<|Ad O<|Ah (dj:=15) O O<|Aa (Gb LA O) O<|Ah (dj:=15) O O<|Aa (D9 O O) O<|Bn O<|Ad O ?_
  refine B7 20 O ?_ ?_
  ·intro g
   have g:s.length≤9:=by have:=AE g;omega
   refine Ah (dj:=20) O O<|Ad O<|Ah (dj:=20) O O<|Af O O (QD u f (h.bs c) (by omega)) ?_
   rintro _ p ⟨rfl,a⟩
   refine Ah (dj:=20) O O<|Ad O<|Ah (dj:=20) O O<|Aa (Ew O O) O<|Bn O<|Ab O<|Ab O<|Av<|Bp O O O ?_
   refine ⟨bt c a, .int .i64 (u:Int), ?_,fun n a=> ?_⟩
   ·rw [b]
    by_cases e2:Lib.decDigits u=s
    ·rw [decide_eq_true e2,if_pos ⟨g,e2⟩];rfl
    ·rw [decide_eq_false e2,if_neg fun k=>e2 k.2];rfl
   ·rw [b] at a
    split at a
    ·cases a;rfl
    ·cases a
  intro g
  have g:¬s.length≤9:=by have:=AD g;omega
  rw [if_neg fun k=>g k.1] at b
  refine Ae (dj:=20) O O O O<|Ae (dj:=20) O O O O<|Ae (dj:=20) O O O O<|Ae (dj:=20) O O O O<|Ci O<|Ab O<|Ab O<|Av<|Bp O O O ?_
  exact ⟨c,_,(by rw [b];rfl),fun n a=>by rw [b] at a;cases a⟩
 have b:GF s=none:=by
  rw [b]
  cases hq:Lib.parseUintB 32 s with
  |ok u=>exact absurd hq (d u)
  |_=>rfl
 refine Ad O<|Aa (Ar (i:=0) O O) O<|Aa (Ar (i:=1) O O) O<|Ab O<|Ab O<|Ay<|Ad O<|Aa (Dz ME Hr O (by omega)) O<|Ad O<|Aa (Gd (by kernel_rfl) O) O<|Ad O<|Cl 15 (v' := .bool false) O (cngA Value.bool (rfl))<|Ae (dj:=15) O O O O<|Ae (dj:=15) O O O O<|Ae (dj:=15) O O O O<|Ci O<|Ad O<|Ae (dj:=20) O O O O<|Ae (dj:=20) O O O O<|Ae (dj:=20) O O O O<|Ae (dj:=20) O O O O<|Ci O<|Ab O<|Ab O<|Av<|Bp O O O ?_
 exact ⟨c,_,(by rw [b];rfl),fun n a=>by rw [b] at a;cases a⟩
end Go.Proofs.YtblbopcaflaldaaGreatDoor

namespace Go.Proofs.YtblbopcaflaldaaGreatDoor
open Go Go.Dd Go.RowKit List
set_option maxRecDepth 100000
abbrev S0:TypeId:=55

structure Bk (w:World) (lo A:Nat) (n:Int) (hb hi hn:List Hd) (ub ui un:Value):Prop where
 box:AM w A S0 [.int .i64 n,ub,ui,un, .slice none 0 0, .slice none 0 0, .slice none 0 0, .slice none 0 0, .slice none 0 0, .slice none 0 0, .slice none 0 0, .slice none 0 0, .slice none 0 0, .slice none 0 0, .slice none 0 0, .slice none 0 0]
 ob:w.ownsRow lo 179 3 ub hb.length (CP hb)
 oi:w.ownsRow lo 182 3 ui hi.length (CP hi)
 on:w.ownsRow lo 185 3 un hn.length (CP hn)
 loA:lo≤A
 ab:ub.ownBlock≠some A
 ai:ui.ownBlock≠some A
 an:un.ownBlock≠some A
 bi:IQ ub ui
 bn:IQ ub un
 nn:IQ ui un
 many:hb.length+hi.length+hn.length≤900
 num:0≤n∧n≤900
theorem Bk.size {w:World} {a A:Nat} {n:Int} {d e f:List Hd} {b c un:Value} (h:Bk w a A n d e f b c un):a<w.heap.size:=Nat.lt_of_le_of_lt h.loA (BA h.box)
theorem Bk.bs {w w' :World} {d A:Nat} {n:Int} {c e f:List Hd} {a b un:Value} (h:Bk w d A n c e f a b un) (g:Below w.heap.size w w'):Bk w' d A n c e f a b un:=
 ⟨h.box.bs g,AF h.ob g,AF h.oi g,AF h.on g,h.loA,h.ab,h.ai,h.an,h.bi,h.bn,h.nn,h.many,h.num⟩
theorem Bk.low {w w' :World} {a A:Nat} {n:Int} {i k l:List Hd} {c g un u:Value} (h:Bk w a A n i k l c g un) (f:∀b,u.ownBlock=some b→a≤b) (j:FG (fun b=>b=A∨u.ownBlock=some b) w w'):Below a w w' :=j.to_below (fun b d=>by
 rcases d with rfl|e
 ·exact h.loA
 ·exact f b e) (Nat.le_of_lt h.size)

theorem _root_.Go.Dd.Twn.own {α:Type} {w:World} {base:Nat} {T:TypeId} {enc:α→Value} {a v:Value} {l:List α} (h:Twn w base T enc a v l):w.ownsRow base T 1 v l.length (l.map enc):=by
 obtain ⟨b,cap,rfl,c⟩:=h
 exact Hm c (by simp)

structure FF (w:World) (lo hi:Nat) (c:T4):Prop where
 rx:AS w lo 3 1 c.x c.s.length (c.s.map (Value.int .i64))
 ry:AS w lo 21 1 c.y c.l.length (c.l.map i32)
 bx:∀b,c.x.ownBlock=some b→lo≤b∧b<hi
 by' :∀b,c.y.ownBlock=some b→lo≤b∧b<hi
 apart:IQ c.y c.x
theorem FF.bs {w w' :World} {a b:Nat} {c:T4} (h:FF w a b c) (g:Below w.heap.size w w'):FF w' a b c:=⟨h.rx.bs g,h.ry.bs g,h.bx,h.by',h.apart⟩
theorem FF.below {w w' :World} {d a B:Nat} {c:T4} (h:FF w d a c) (g:Below B w w') (f:a≤B):FF w' d a c:=
 ⟨h.rx.heap fun b e=>g.block b (by have:=h.bx b e;omega),h.ry.heap fun b e=>g.block b (by have:=h.by' b e;omega),h.bx,h.by',h.apart⟩
theorem FF.at {w:World} {a b:Nat} {c:T4} (h:FF w a b c):c.at w:=⟨h.rx.slT,h.ry.slT⟩
theorem FF.wide {w:World} {g i a d:Nat} {c:T4} (h:FF w g i c) (f:a≤g) (j:i≤d):FF w a d c:=
 ⟨h.rx.mono f,h.ry.mono f,fun b e=>by have:=h.bx b e;omega,fun b e=>by have:=h.by' b e;omega,h.apart⟩
theorem H5.held {W w:World} {x y:Value} {s:List Int} {l:List (BitVec 32)} (h:H5 W w x y s l):FF w W.heap.size w.heap.size ⟨x,y,s,l⟩:=
 ⟨h.row, .inl h.own,h.row.lt,AB h.own,h.apart⟩
def AV (w:World):Nat→Nat→List T4→Prop
 |base,top,[]=>base≤top
 |base,top,c::cs=>∃lo hi,base≤lo∧lo≤hi∧FF w lo hi c∧AV w hi top cs
theorem AV.le:∀{w:World} {cs:List T4} {base a:Nat},AV w base a cs→base≤a
 |_,[],_,_,h=>h
 |_,_::_,_,_,⟨_,_,h1,h2,_,h3⟩=>by have:=h3.le;omega
theorem AV.bs {w w' :World} (g:Below w.heap.size w w'):∀{cs:List T4} {base a:Nat},AV w base a cs→AV w' base a cs
 |[],_,_,h=>h
 |_::_,_,_,⟨lo,hi,h1,h2,h3,h4⟩=>⟨lo,hi,h1,h2,h3.bs g,AV.bs g h4⟩
theorem AV.each:∀{w:World} {cs:List T4} {base b:Nat},AV w base b cs→∀c ∈ cs,FF w base b c
 |_,[],_,_,_=>fun c a=>by cases a
 |_,d::ds,_,_,⟨lo,hi,h1,h2,h3,h4⟩=>fun c a=>by
  have:=h4.le
  rcases List.mem_cons.1 a with rfl|a
  ·exact h3.wide h1 (by omega)
  ·exact (h4.each c a).wide (by omega) (AT _)
structure KM (w:World) (base top:Nat) (hi hn:List Hd):Prop where
 ki:JV w base 3 1 hi
 kn:JV w base 21 1 hn
 li:∀b,IS hi b→b<top
 ln:∀b,IS hn b→b<top
 xin:∀b,IS hi b→¬IS hn b
theorem KM.bs {w w' :World} {base a:Nat} {b c:List Hd} (h:KM w base a b c) (g:Below w.heap.size w w'):KM w' base a b c:=⟨h.ki.bs g,h.kn.bs g,h.li,h.ln,h.xin⟩
theorem KM.below {w w' :World} {base a:Nat} {d f:List Hd} (h:KM w base a d f) (g:Below a w w'):KM w' base a d f:=
 ⟨⟨h.ki.toKOk,fun x c=>(h.ki.own x c).heap fun b e=>g.block b (h.li b ⟨x,c,e⟩)⟩,⟨h.kn.toKOk,fun x c=>(h.kn.own x c).heap fun b e=>g.block b (h.ln b ⟨x,c,e⟩)⟩,h.li,h.ln,h.xin⟩
structure JU (w:World) (lo hi:Nat) (x y:Value) (a:T4):Prop where
 held:FF w lo hi ⟨x,y,a.s,a.l⟩
 tx:Twn w lo 3 (Value.int .i64) (Value.int .i64 (77)) x a.s
 ty:Twn w lo 21 i32 (i32 (77#32)) y a.l
theorem JU.bs {w w' :World} {b c:Nat} {x y:Value} {a:T4} (h:JU w b c x y a) (g:Below w.heap.size w w'):JU w' b c x y a:=⟨h.held.bs g,h.tx.bs g,h.ty.bs g⟩
theorem Twn.mono {α:Type} {w:World} {B c:Nat} {T:TypeId} {enc:α→Value} {a v:Value} {l:List α} (h:Twn w B T enc a v l) (e:c≤B):Twn w c T enc a v l:=by
 obtain ⟨b,cap,rfl,d⟩:=h
 exact ⟨b,cap,rfl,CL d e⟩
theorem Twn.by {α:Type} {w w' :World} {B r:Nat} {T:TypeId} {enc:α→Value} {a v:Value} {l:List α} (h:Twn w B T enc a v l) (d:w.grownBy w' (some r)) (f:r<B):Twn w' B T enc a v l:=by
 obtain ⟨b,cap,rfl,c⟩:=h
 exact ⟨b,cap,rfl,c.kept d (.inr fun e=>by have:=(AB c r e).1;omega)⟩

structure NK (w:World) (lo hi:Nat) (c:N5):Prop where
 rx:AS w lo 3 1 c.x c.i.length (c.i.map (Value.int .i64))
 ry:AS w lo 3 1 c.y c.s.length (c.s.map (Value.int .i64))
 bx:∀b,c.x.ownBlock=some b→lo≤b∧b<hi
 by' :∀b,c.y.ownBlock=some b→lo≤b∧b<hi
 apart:IQ c.x c.y
theorem NK.bs {w w' :World} {a b:Nat} {c:N5} (h:NK w a b c) (g:Below w.heap.size w w'):NK w' a b c:=⟨h.rx.bs g,h.ry.bs g,h.bx,h.by',h.apart⟩
theorem NK.below {w w' :World} {d a B:Nat} {c:N5} (h:NK w d a c) (g:Below B w w') (f:a≤B):NK w' d a c:=
 ⟨h.rx.heap fun b e=>g.block b (by have:=h.bx b e;omega),h.ry.heap fun b e=>g.block b (by have:=h.by' b e;omega),h.bx,h.by',h.apart⟩
theorem AC {w w' :World} {a sz k:Nat} {E T:TypeId} {v:Value} {xs:List Value} {r:Option Nat} (h:AS w a E sz v k xs) (g:w.grownBy w' r) (f:∀b,r=some b→∃cs,AM w b T cs) (i:E≠T):AS w' a E sz v k xs:=
 h.heap fun b e=>g.block b (h.lt b e).2 fun j=>by
  obtain ⟨cs,c⟩:=f b j.symm
  obtain ⟨ds,d⟩:=h.ty e
  exact i (AZ d c)
theorem NK.other {w w' :World} {e f:Nat} {T:TypeId} {c:N5} {r:Option Nat} (h:NK w e f c) (g:w.grownBy w' r) (a:∀b,r=some b→∃cs,AM w b T cs) (d:3≠T):NK w' e f c:=
 ⟨AC h.rx g a d,AC h.ry g a d,h.bx,h.by',h.apart⟩
theorem NK.wide {w:World} {g i a d:Nat} {c:N5} (h:NK w g i c) (f:a≤g) (j:i≤d):NK w a d c:=
 ⟨h.rx.mono f,h.ry.mono f,fun b e=>by have:=h.bx b e;omega,fun b e=>by have:=h.by' b e;omega,h.apart⟩
theorem NK.at {w:World} {a b:Nat} {c:N5} (h:NK w a b c):N5.at w c:=⟨h.rx.slT,h.ry.slT⟩
def FQ (w:World):Nat→Nat→List N5→Prop
 |base,top,[]=>base≤top
 |base,top,c::cs=>∃lo hi,base≤lo∧lo≤hi∧NK w lo hi c∧FQ w hi top cs
theorem FQ.le:∀{w:World} {cs:List N5} {base a:Nat},FQ w base a cs→base≤a
 |_,[],_,_,h=>h
 |_,_::_,_,_,⟨_,_,h1,h2,_,h3⟩=>by have:=h3.le;omega
theorem FQ.bs {w w' :World} (g:Below w.heap.size w w'):∀{cs:List N5} {base a:Nat},FQ w base a cs→FQ w' base a cs
 |[],_,_,h=>h
 |_::_,_,_,⟨lo,hi,h1,h2,h3,h4⟩=>⟨lo,hi,h1,h2,h3.bs g,FQ.bs g h4⟩
theorem FQ.below {w w' :World} {B:Nat} (g:Below B w w'):∀{cs:List N5} {base a:Nat},FQ w base a cs→a≤B→FQ w' base a cs
 |[],_,_,h,_=>h
 |_::_,_,_,⟨lo,hi,h1,h2,h3,h4⟩,hB=>⟨lo,hi,h1,h2,h3.below g (Nat.le_trans h4.le hB),FQ.below g h4 hB⟩
theorem FQ.other {w w' :World} {T:TypeId} {r:Option Nat} (g:w.grownBy w' r) (c:∀b,r=some b→∃cs,AM w b T cs) (d:3≠T):∀{cs:List N5} {base a:Nat},FQ w base a cs→FQ w' base a cs
 |[],_,_,h=>h
 |_::_,_,_,⟨lo,hi,q1,q2,q3,q4⟩=>⟨lo,hi,q1,q2,q3.other g c d,FQ.other g c d q4⟩
theorem FQ.snoc {w:World} {c:N5} {b d:Nat} (f:NK w b d c) (e:b≤d):∀{cs:List N5} {base a:Nat},FQ w base a cs→a≤b→FQ w base d (cs++[c])
 |[],_,_,h,ht=>⟨b,d,Nat.le_trans h ht,e,f,AT _⟩
 |_::_,_,_,⟨l1,h1,q1,q2,q3,q4⟩,ht=>⟨l1,h1,q1,q2,q3,FQ.snoc f e q4 ht⟩
theorem FQ.top {w:World} {b:Nat}:∀{cs:List N5} {base a:Nat},FQ w base a cs→a≤b→FQ w base b cs
 |[],_,_,h,ht=>Nat.le_trans h ht
 |_::_,_,_,⟨l1,h1,q1,q2,q3,q4⟩,ht=>⟨l1,h1,q1,q2,q3,FQ.top q4 ht⟩
theorem FQ.each:∀{w:World} {cs:List N5} {base b:Nat},FQ w base b cs→∀c ∈ cs,NK w base b c
 |_,[],_,_,_=>fun c a=>by cases a
 |_,d::ds,_,_,⟨lo,hi,h1,h2,h3,h4⟩=>fun c a=>by
  have:=h4.le
  rcases List.mem_cons.1 a with rfl|a
  ·exact h3.wide h1 (by omega)
  ·exact (h4.each c a).wide (by omega) (AT _)
theorem FQ.low {w:World} {cs:List N5} {base a b:Nat} (h:FQ w base b cs) (d:a≤base):FQ w a b cs:=by
 cases cs with
 |nil=>exact Nat.le_trans d h
 |cons c cs=>
  obtain ⟨g,i,f,e⟩:=h
  exact ⟨g,i,Nat.le_trans d f,e⟩
theorem FQ.gn {w:World} {cs:List N5} {base b e:Nat} {v:Value} (h:FQ w base b cs) (c:AS w e 79 5 v cs.length (Ib N5.cells cs)):GN w v cs:=⟨c.sl,fun a d=>(h.each a d).at⟩
theorem FF.other {w w' :World} {d e:Nat} {T:TypeId} {c:T4} {r:Option Nat} (h:FF w d e c) (g:w.grownBy w' r) (a:∀b,r=some b→∃cs,AM w b T cs) (i:3≠T) (f:21≠T):FF w' d e c:=
 ⟨AC h.rx g a i,AC h.ry g a f,h.bx,h.by',h.apart⟩
theorem AV.other {w w' :World} {T:TypeId} {r:Option Nat} (g:w.grownBy w' r) (d:∀b,r=some b→∃cs,AM w b T cs) (e:3≠T) (c:21≠T):∀{cs:List T4} {base a:Nat},AV w base a cs→AV w' base a cs
 |[],_,_,h=>h
 |_::_,_,_,⟨lo,hi,q1,q2,q3,q4⟩=>⟨lo,hi,q1,q2,q3.other g d e c,AV.other g d e c q4⟩
theorem AV.snocM {w:World} {c:T4} {b d:Nat} (f:FF w b d c) (e:b≤d):∀{cs:List T4} {base a:Nat},AV w base a cs→a≤b→AV w base d (cs++[c])
 |[],_,_,h,ht=>⟨b,d,Nat.le_trans h ht,e,f,AT _⟩
 |_::_,_,_,⟨l1,h1,q1,q2,q3,q4⟩,ht=>⟨l1,h1,q1,q2,q3,AV.snocM f e q4 ht⟩
theorem AV.topM {w:World} {b:Nat}:∀{cs:List T4} {base a:Nat},AV w base a cs→a≤b→AV w base b cs
 |[],_,_,h,ht=>Nat.le_trans h ht
 |_::_,_,_,⟨l1,h1,q1,q2,q3,q4⟩,ht=>⟨l1,h1,q1,q2,q3,AV.topM q4 ht⟩
structure Kl (w:World) (lo hi:Nat) (v u:Value) (ls:List N5) (ts:List T4):Prop where
 nodes:∃mid,FQ w lo mid ls∧AV w mid hi ts
 nv:AS w lo 79 5 v ls.length (Ib N5.cells ls)
 wv:AS w lo 75 2 u ts.length (cellsOf ts)
end Go.Proofs.YtblbopcaflaldaaGreatDoor

namespace Go.Proofs.YtblbopcaflaldaaGreatDoor
open Go Go.Dd Go.RowKit List Go.Proofs.Tryz
set_option maxRecDepth 100000
theorem Sb (v:Value) (w:World) (e:v.cells=[v].toArray):AO prog 157 [v, .int .i64 4] w (fun r w' =>Below w.heap.size w w' ∧∃p q,r= .func (.func 231) #[] #[.pointer (some ⟨p,0,none⟩), .pointer (some ⟨q,0,none⟩)]∧w.heap.size≤p∧p<q∧AM w' p 28 [v]∧AM w' q 3 [.int .i64 4]):=by
 refine A6 (n:=9) func157 O<|Ai<|An (Xw.box (cs:=[v]) O e) O ?_
 rintro _ j ⟨rfl,c,a,g⟩
 refine An (Xw.box (cs:=[.int .i64 4]) O O) O ?_
 rintro _ k ⟨rfl,i,b,d⟩
 have c:=c.bs b
 have f:=a.size
 have h:=a.trans (b.mono f)
 refine Ab O<|A9<|Aa (Ap (BI _) O ‹_› rfl) O ?_
 exact B6 rfl<|Ak<|Cm rfl false (rfl)<|B8<|Aa (Ep (vs:=[]) rfl rfl) rfl<|Ab rfl<|Av<|Ao rfl rfl<|⟨h,_,_,rfl,AT _,by omega,c,i⟩
theorem RX {v:Value} {c i j sz:Nat} (h:M6 v c) (e:i≤j) (f:j≤c):M6 (cut v sz i j) (j - i):=by
 obtain ⟨b,cap,rfl,k,g,d⟩:=h
 refine ⟨_,cap - i,rfl,by omega,by omega,fun a=> ?_⟩
 by_cases he:cap=i
 ·omega
 ·rw [if_neg he] at a
  cases b with
  |none=>have:=d rfl;omega
  |some _=>cases a
def parts (v:Value) (K:Nat):List Value:=(List.range K).map fun i=>cutp v 1 (4*i) (4*i+4)
theorem H7 (v:Value) (K:Nat):parts v (K+1)=parts v K++[cutp v 1 (4*K) (4*K+4)]:=by simp [parts,range_succ]
theorem Ov {v:Value} {k K:Nat} (h:k≤K):parts v k<+:parts v K:=by
  induction K with
  | zero => obtain rfl : k = 0 := by omega
            exact ⟨[],by simp⟩
  |succ K ih=>
    by_cases h1:k≤K
    · exact (ih h1).trans ⟨_,(H7 v K).symm⟩
    · obtain rfl:k=K+1:=by omega
      exact ⟨[],by simp⟩
theorem QP (p q K:Nat) (v:Value) (w:World) (d:AM w p 28 [v]) (a:AM w q 3 [.int .i64 4]) (r:M6 v (4*K)) (L:K≤100000):
  Sq prog 231 [] [.pointer (some ⟨p,0,none⟩), .pointer (some ⟨q,0,none⟩)] (fun x:Value=>[x]) (fun b=>b=p∨b=q) none (parts v K) w:=by
 intro A J W s F E e
 show AO prog 231 [.func (.yield A) #[] #[], .pointer (some ⟨p,0,none⟩), .pointer (some ⟨q,0,none⟩)] W (fun _ D=>J (parts v K) D)
 have d:=d.bs s
 have a:=a.bs s
 refine Fz (n:=31) func231 (by kernel_rfl) O O O<|Ds<|C6 (by kernel_rfl)<|Ab O ?_
 refine A7 (Pg.low ?_)
 refine C0 (Du ?_)
 refine Cg.block ?_
 refine Cg.loop (S:=Nat) (fun k=>[(0, .func (.yield A) #[] #[]),(1, .pointer (some ⟨p,0,none⟩)),(2, .pointer (some ⟨q,0,none⟩)),(4, .int .i64 ((4*k:Nat):Int))]) (fun k w' =>k≤K∧J (parts v k) w' ∧AM w' p 28 [v]∧AM w' q 3 [.int .i64 4]) (fun k=>K - k) (0) ⟨rfl,rfl,rfl,rfl,trivial⟩ ?_ ?_
 ·exact ⟨Nat.zero_le _,e,d,a⟩
 clear e d a s
 rintro k w ⟨I,e,d,l⟩
 refine Ds<|Ds<|C6 (by kernel_rfl)<|Ad O<|Aa (Ap (H2 _) O ‹_› rfl) O ?_
 refine Aa (Ed AJ O r) O<|B6 O ?_
 refine A7 (Pg.low ?_)
 refine C0 (Du ?_)
 refine Cg.cond O ?_ ?_
 ·intro g
  have c:k<K:=by have:=AE g;omega
  refine Cg.skip ?_
  refine C0 (Du ?_)
  refine Ds<|Cg.block<|Ds<|Cg.quiet mixed (by kernel_rfl) (by kernel_rfl)<|A3 (fun o a=>Ap (BI _) O (l.bs a) O) O<|A3 (fun o a=>Ap (H2 _) O (AM.bs ‹_› a) O) O ?_
  refine B9 O<|A3 (fun o a=>Fk (i:=4*k) AJ O O r (by omega)) O<|A3 (fun o a=>Ed AJ O (RX r (by omega) (AT _))) O<|A3 (fun o a=>Ex.as (Ex.min2 O O) (cngA (Value.int .i64) (show (if ((4*K - 4*k:Nat):Int)<4 then ((4*K - 4*k:Nat):Int) else 4)=4 by split<;>omega))) O<|Eh O ?_
  refine Dq (fun G a=>(Pg.low ?_))
  refine C0 (Du ?_)
  refine Ds ?_
  have f:=d.bs a
  have m:=l.bs a
  have u:=F _ _ _ e ⟨none,AX a none, .inl rfl⟩
  have h:parts v k++[cutp v 1 (4*k) (4*k+4)]<+:parts v K:=by rw [← H7];exact Ov c
  refine F4<|Lg.plain 10 (by kernel_rfl)<|Ad O<|Aa (Ap (H2 _) O ‹_› rfl) O ?_
  refine Ad O<|Ad O<|Ad O<|Aa (Ex.as (D0 O O (by omega)) (cngA (Value.int .i64) (show ((4*k:Nat):Int)+4=((4*k+4:Nat):Int) by omega))) O<|Ad O<|Ad O<|Aa (Ex.as (D0 O O (by omega)) (cngA (Value.int .i64) (show ((4*k:Nat):Int)+4=((4*k+4:Nat):Int) by omega))) O<|Aa (Ex.cutP (i:=4*k) (j:=4*k+4) AJ O O O O r (by omega) (by omega)) O ?_
  refine A7 (Pg.low (G6 ?_))
  refine Lg.yield O O O (E (parts v k) (cutp v 1 (4*k) (4*k+4)) G u h) ?_
  rintro _ H ⟨rfl,B,C⟩
  rw [← H7] at B
  have t:=f.keep (C.2 p (.inl rfl) (BA f))
  have y:=m.keep (C.2 q (.inr rfl) (BA m))
  refine Lg.plain 1 (by kernel_rfl)<|Aa (Cy O) O ?_
  refine A7 (Pg.low (G6 (Lg.nil ?_)))
  refine C0 (Du ?_)
  refine Cg.condB O false (rfl)<|Cg.skip<|Gj ?_
  refine C0 (Du ?_)
  refine C6 (by kernel_rfl)<|Ad O<|Aa (Ap (BI _) O ‹_› rfl) O ?_
  refine Cd O (by omega)<|Ab O ?_
  refine A7 (Pg.low ?_)
  exact C0 (Pg.next (k+1) ⟨rfl,rfl,rfl,(cngA (fun z=>some (Value.int .i64 z)) (by omega)),trivial⟩ (⟨c,B,t,y⟩) (by omega))
 intro g
 have c:k=K:=by have:=AD g;omega
 subst c
 exact Cg.exit<|Gs<|Gs<|Pg.blkHit<|Pg.closeE<|Pw.end0 rfl<|e
theorem Ox {v:Value} {c:Nat} (a:M6 v c) {K:Nat}:(parts v K).all (·.oneCell')=true:=List.all_eq_true.2 fun x b=>by
 obtain ⟨i, -,rfl⟩:=List.mem_map.1 b
 obtain ⟨d,cap,rfl, -⟩:=a
 exact QL ⟨_,_,_,rfl⟩
theorem Hl (v:Value) (K:Nat):(parts v K).length=K:=by simp [parts]
theorem NF {v:Value} {c K:Nat} {a:List Value} {x:Value} (b:M6 v c) (h:a++[x]<+:parts v K):[x].all (·.oneCell')=true:=by
 obtain ⟨t,h⟩:=h
 have:=Ox b (K:=K)
 rw [← h,List.all_append,List.all_append,Bool.and_eq_true,Bool.and_eq_true] at this
 exact this.1.2
theorem M0 (p q K:Nat) (v:Value) (W:World) (hp:AM W p 28 [v]) (hq:AM W q 3 [.int .i64 4]) (Y:M6 v (4*K)) (hK:K≤100000):
  AO prog 230 [.slice none 0 0, .func (.func 231) #[] #[.pointer (some ⟨p,0,none⟩), .pointer (some ⟨q,0,none⟩)]] W (fun r w' =>Below W.heap.size W w' ∧w'.ownsRow W.heap.size 28 1 r K (parts v K)):=by
 have f:=Below.refl W.heap.size W
 refine Fz (n:=13) func230 (by kernel_rfl) O O O<|Ds<|C6 (by kernel_rfl)<|An (Xw.box (cs:=[.slice none 0 0]) O O) O ?_
 rintro _ w ⟨rfl,a,t,hz⟩
 have f:=bt f t
 have I:=hp.bs t
 have V:=hq.bs t
 have yp:=BA hp
 have yq:=BA hq
 have ys:=BA a
 refine Ab O ?_
 refine A7 (Pg.low ?_)
 refine C0 (Du ?_)
 refine Ds<|Ds<|C6 (by kernel_rfl)<|Ad O ?_
 refine A7 (Pg.low ?_)
 refine C0 (Du ?_)
 refine Cg.block ?_
 refine Cg.range O ((QP p q K v w I V Y hK)) (fun i e=>by have e:i=p∨i=q:=e;omega) (fun _=>rfl) (by kernel_rfl) (fun (c:List (Value)) w' =>∃y,AM w' W.heap.size 166 [y]∧w'.ownsRow W.heap.size 28 1 y c.length c∧Below W.heap.size W w') (by rintro _ ⟨⟩) ?_ ?_ ?_ ?_ ?_
 ·exact ⟨_,a,World.ownsRow_nil _ _ _ _,f⟩
 ·rintro c A A' ⟨y,M,H,U⟩ B
  exact ⟨y,M.nc B,Lb H B,U.nc B (Nat.le_of_lt ys) (AT _)⟩
 ·rintro c A A' ⟨y,M,H,U⟩ B
  obtain ⟨r,g,T⟩:=B
  have T:r=none:=T.elim id id
  subst T
  have J:=DU g (AT _) fun _ e=>by cases e
  exact ⟨y,M.bs J,AF H J,bt U J⟩
 ·rintro lp c x w3 hl ⟨y,a,j,f⟩ m F
  have z3:=BA a
  refine C6 (by kernel_rfl)<|Ab O ?_
  refine A7 (Pg.low ?_)
  refine Pg.asg (KeepsFrom.refl _ _) (Kp.refl) ?_
  rintro w t hz F
  have a:=a.nc t
  have j:=Lb j t
  have f:=f.nc t (by omega) (AT _)
  have hlp:c.length<K:=by have:=m.length_le;rw [length_append,Hl] at this;simp at this;omega
  have el:c.length+1=(c++[x]).length:=by simp
  refine Cg.block<|C6 (by kernel_rfl)<|Aa (Ap (Ra _) O ‹_› rfl) O ?_
  refine Ad O<|An (B5 (vs:=[x]) FA Q2 O O O (NF Y m) O) O ?_
  rintro q3 w5 ⟨S, -,l, -⟩
  have a:=a.bs l
  have j:=AF j l
  have f:=bt f l
  have zB:=AA f
  refine An (Bz (base:=W.heap.size) FA Q2 O (by decide) O O j (AH S) (NF Y m) (by omega) (by omega) zB) O ?_
  rintro N w6 ⟨s,X,L, -⟩
  have ne:∀b,y.ownBlock=some b→b≠W.heap.size:=fun b e C=>by
   obtain ⟨ds,G⟩:=AS.ty (.inl j) e
   rw [C] at G
   exact absurd (AZ G a) (by decide)
  have o:=a.by L (fun e=>ne _ e.symm rfl)
  have Z:∀b,N.ownBlock=some b→b≠W.heap.size:=fun b e C=>by
   obtain ⟨ds,G⟩:=AS.ty (.inl s) e
   rw [C] at G
   exact absurd (AZ G o) (by decide)
  have D:=f.trans X
  rw [el] at s
  refine A5 (Ce (u:=N) (SK _) O O (AH s).one' o Nat.zero_lt_one) ?_
  rintro w7 ⟨E,z,hz7⟩
  have R:=AN s fun k e=>z.block k (AB s k e).2 fun C=>Z k e (Option.some.inj C)
  have Q:=D.grown z (AA D) (by rintro _ e;have:=Option.some.inj e;omega)
  refine A7 (Pg.low ?_)
  refine Gj ?_
  exact Pg.rnd ((((KeepsFrom.refl _ _).bs l).own j L).blk o z) (((Kp.refl.bs l).grown L (fun k e (h:k=p∨k=q)=>by have:=(AB j k e).1;omega)).grown z (fun k e (h:k=p∨k=q)=>by have:=Option.some.inj e;omega)) (⟨N,E,R,Q⟩)
 rintro d w hd ⟨y,a,j,f⟩ hD
 rw [Hl] at j
 have zB:=BA a
 refine Gj ?_
 refine C0 (Du ?_)
 refine Ds<|C6 (by kernel_rfl)<|Aa (Ap (Ra _) O ‹_› rfl) O ?_
 refine Ab O ?_
 refine A7 (Pg.low ?_)
 refine C0 (Du ?_)
 refine Cg.ret ?_
 refine Pg.close (hD) (fun w t _=> ?_)
 have j:=Lb j t
 have f:=f.nc t (by omega) (AT _)
 exact Ao rfl rfl<|⟨f,j⟩
theorem Pe (p q K:Nat) (v:Value) (W:World) (a:AM W p 28 [v]) (c:AM W q 3 [.int .i64 4]) (d:M6 v (4*K)) (e:K≤100000):
  AO prog 156 [.func (.func 231) #[] #[.pointer (some ⟨p,0,none⟩), .pointer (some ⟨q,0,none⟩)]] W (fun r w' =>Below W.heap.size W w' ∧w'.ownsRow W.heap.size 28 1 r K (parts v K)):=by
 refine A6 (n:=5) func156 O<|Ai<|Ab O<|Ay<|Ad O<|Af O O (M0 p q K v W a c d e) ?_
 rintro r w' ⟨f,b⟩
 exact Ab rfl<|Av<|Ao rfl rfl<|⟨f,b⟩
theorem LP:∀(i:Nat) (t:List (BitVec 8)),(nums t).drop i=nums (t.drop (4*i))
 |0,t=>by simp
 |i+1,t=>by
  by_cases h:4≤t.length
  ·rw [NR h,List.drop_succ_cons,LP i,drop_drop,show 4+4*i=4*(i+1) by omega]
  ·rw [Jy (show t.length<4 by omega),List.drop_nil,Jy (by rw [length_drop];omega)]
theorem Qi {i:Nat} {t:List (BitVec 8)} (h:4*i+4≤t.length):(nums t).getD i default=gf ((t.drop (4*i)).take 4):=by
 have e:=LP i t
 rw [NR (l:=t.drop (4*i)) (by rw [length_drop];omega)] at e
 have a:(nums t)[i]? =some (gf (t.drop (4*i))):=by
  have:((nums t).drop i)[0]? =some (gf (t.drop (4*i))):=by rw [e];rfl
  rwa [getElem?_drop] at this
 rw [getD_eq_getElem?_getD,a]
 simp [gf]
theorem PZ {v:Value} {K i:Nat} (h:i<K):(parts v K).getD i default=cutp v 1 (4*i) (4*i+4):=by
 simp [parts,h]
theorem PH {w:World} {v:Value} {t:List (BitVec 8)} {i:Nat} (h:AY b8 w v t) (b:4*i+4≤t.length):AY b8 w (cutp v 1 (4*i) (4*i+4)) ((t.drop (4*i)).take 4):=by
 have a:=Sl.cutp h (i:=4*i) (j:=4*i+4) (by omega) b
 have l:((t.drop (4*i)).take 4).length=4:=by rw [length_take,length_drop];omega
 unfold AY
 rw [l]
 rw [show 4*i+4 - 4*i=4 by omega,Nat.mul_one,Nat.mul_one,← map_drop,← map_take] at a
 exact a
theorem Ol (v:Value) (l:List (BitVec 8)) (w:World) (a:AY b8 w v l) (b:4≤l.length):AO prog 159 [v] w (fun r w' =>r=i32 (gf l)∧Below w.heap.size w w'):=by
 refine A6 (n:=6) func159 O<|Ai<|Aa (Br (show _=some (i32 (0#32)) from rfl)) O<|Ay<|Ad O<|Af O O (QC v l w a b) ?_
 rintro _ d ⟨rfl,c⟩
 exact Aa (F8 GO P0 rfl) rfl<|Ab rfl<|Av<|Ao rfl rfl<|⟨rfl,c⟩
theorem Sh (v q:Value) (t:List (BitVec 8)) (K:Nat) (w:World) (u:AY (fun x:Value=>x) w v (parts q K)) (I:AY b8 w q t) (G:t.length=4*K) (N:K≤4096):
  AO prog 158 [v, .func (.func 159) #[] #[]] w (fun r w' =>w'.ownsRow w.heap.size 21 1 r (nums t).length ((nums t).map i32)∧Below w.heap.size w w'):=by
 have C:=Hl q K
 have y:=LQ K t G
 obtain ⟨l,E⟩:∃l,l=nums t:=⟨_,rfl⟩
 rw [← E] at y ⊢
 have L:=u.le
 refine A6 (n:=26) func158 O<|Ai<|Ab O<|Ay<|Ad O<|Aa (Au FA O ‹_›) O ?_
 refine An (Fu GS Sv O O O (AT _) (by omega) (by omega)) O ?_
 rintro x B ⟨a, -,d, -⟩
 have f:=u.bs d
 obtain ⟨z,D⟩:∃z,z=replicate l.length 0#32:=⟨_,rfl⟩
 have m:l.length=z.length:=by rw [D,length_replicate]
 have F:(replicate (parts q K).length [Value.int .i32 0]).flatten=z.map i32:=by rw [D,C,← y];exact HL (enc:=i32) (z:=0#32) l.length
 rw [F] at a
 refine Ab O<|A9<|Ad O<|Aa (Au FA O ‹_›) O ?_
 refine Ad O<|Ak<|As ?_
 refine B1 (S:=Nat) (fun i=>[(1, .func (.func 159) #[] #[]),(5,x),(11,v),(12, .int .i64 ((parts q K).length:Int)),(13, .int .i64 (i:Int))]) (fun i w' =>i≤l.length∧w'.ownsRow w.heap.size 21 1 x l.length ((l.take i++z.drop i).map i32)∧Below w.heap.size w w') (fun i=>l.length - i) (0) ⟨rfl,rfl,rfl,rfl,rfl,trivial⟩ ?_ ?_
 ·exact ⟨by omega,by rw [N7,y,← C];exact a,d⟩
 clear a d f
 rintro i B ⟨R,a,d⟩
 have f:=u.bs d
 refine Ai<|B6 O<|Ak<|Aq<|Al O ?_ ?_
 ·intro h
  have c:i<l.length:=by simp at h;omega
  have o:i<K:=by omega
  have k:4*i+4≤t.length:=by omega
  have A:=PH (I.bs d) k
  have Q:((t.drop (4*i)).take 4).length=4:=by rw [length_take,length_drop];omega
  have J:gf ((t.drop (4*i)).take 4)=l.getD i default:=by rw [E];exact (Qi k).symm
  refine B4<|Aq<|As<|Ai<|Ad O<|Aa (Ba FA O O ‹_› _ O (by omega)) O ?_
  refine Aa (Ex.as (Bf (H2 _) O f (by omega)) (PZ o)) O<|Ab O<|Ab O<|Ak<|Az<|Ad O<|Ad O<|Ad O<|Ad O<|D8 (p:=[]) O O O (Ol (cutp q 1 (4*i) (4*i+4)) ((t.drop (4*i)).take 4) B A (by omega)) ?_
  rintro _ T ⟨rfl,g⟩
  rw [J]
  have a:=AF a g
  have s:=(AH a).shp
  refine Aa (Ee GS O O s i O c) O<|A5 (Fx (TT _) O O O a (by simp;omega)) ?_
  rintro M ⟨j,H, -⟩
  rw [← map_set,P8 m (by omega)] at j
  refine A7<|A8<|Cs<|Cd O (by omega)<|Ad O<|A7 ?_
  exact A4 (Bu (i+1) ⟨rfl,rfl,rfl,rfl,rfl,trivial⟩ (⟨c,j,(bt d g).grown H (AA (bt d g)) fun b e=>(AB a b e).1⟩) (by omega))
 intro h
 have c:i=l.length:=by simp at h;omega
 subst c
 rw [m,P9 m,← m] at a
 exact Bt<|Ax<|Ax<|Bg<|Cf<|Ad rfl<|Ab rfl<|Av<|Ao rfl rfl<|⟨a,d⟩
theorem Pc (v:Value) (n:BitVec 32) (t:List (BitVec 8)) (W:World) (h:AY b8 W v (Crc.four n++t)) (m:t.length=4*n.toNat) (f:n.toNat≤4096):
  AO prog 55 [v] W (fun r w' =>Below W.heap.size W w' ∧∃y e,r= .tuple #[y, .int .i64 e, .int .i64 0]∧w'.ownsRow W.heap.size 21 1 y (nums t).length ((nums t).map i32)):=by
 have A:=Below.refl W.heap.size W
 have lt:(Crc.four n++t).length=4+4*n.toNat:=by rw [length_append,m];rfl
 have I:gf (Crc.four n++t)=n:=JB n
 have C:¬(Crc.four n++t).length<4:=by omega
 refine A6 (n:=33) func55 O<|Ai<|Ab O<|Ab O<|Ab O<|Ay<|Ad O<|Af O O (KC v (Crc.four n++t) _ h) ?_
 rintro _ w ⟨rfl,d⟩
 rw [if_neg C,if_neg C,I]
 have A:=A.bs d
 have h:=h.bs d
 refine Ad O<|Aa (Ar (i:=0) O O) O<|Aa (Ar (i:=1) O O) O<|Ab O<|Ab O<|A9<|Ad O<|Aa (Cv O O) O<|Ak<|Cm O false (rfl)<|B4<|Aq<|Ai<|Ad O<|Aa (C1 O O) O<|Ak<|Al O ?_ ?_
 ·intro g
  have g:=AE g
  omega
 intro g
 clear g
 obtain ⟨T,H⟩:∃T,T=4+4*n.toNat:=⟨_,rfl⟩
 refine B4<|Aq<|Ai<|Ad O<|Aa (Gz GO Hr O) O<|Aa (Ev O O (by omega)) O<|Aa (Ex.as (D0 O O (by omega)) (cngA (Value.int .i64) (show 4+4*(n.toNat:Int)=(T:Int) by omega))) O<|Ab O<|Ay<|Ad O<|Ad O<|Aa (Au AJ O ‹_›) O ?_
 refine Aa (C1 O O) O<|Ak<|Al O ?_ ?_
 ·intro g
  have g:=AE g
  omega
 intro g
 clear g
 have a:AY b8 w (cut v 1 4 T) t:=by
  have:=AY.drop h (i:=4) (by omega)
  rw [lt,← H] at this
  exact this
 have sh:=a.shp
 rw [m] at sh
 refine B8<|Ad O<|Ad O<|Aa (Ex.cutLH (i:=4) (j:=T) AJ O O O h (by omega) (by omega)) O<|Af O O (Sb (cut v 1 4 T) w a.one) ?_
 rintro _ E ⟨d,p,q,rfl,J,F,l,z⟩
 have k:=bt A d
 have a:=a.bs d
 refine Af O O (Pe p q n.toNat (cut v 1 4 T) E l z sh (by omega)) ?_
 rintro r D ⟨c,s⟩
 have b:=bt k c
 have a:=a.bs c
 have B:AY (fun x:Value=>x) D r (parts (cut v 1 4 T) n.toNat):=by
  have:=AH s
  unfold AY
  rw [Hl,List.map_id']
  exact this
 have G:=AA b
 refine Ab O<|Ay<|Ad O<|Af O O (Sh r (cut v 1 4 T) t n.toNat D B a m f) ?_
 rintro y K ⟨u,o⟩
 exact Ad rfl<|Ab rfl<|Ab rfl<|Ab rfl<|Av<|Pw.ret3 rfl rfl rfl rfl<|⟨bt b o,y,_,rfl,CL u G⟩

def H1 (x:N5):List (BitVec 8):=x.k::(AU x.i++AU x.s++[BitVec.ofInt 8 x.n,BitVec.ofInt 8 x.p])
def CD (ls:List N5):List (BitVec 8):=(ls.map H1).flatten
def CZ (ws:List T4):List (BitVec 8):=(ws.map fun t=>BL t.l).flatten
def DD (ls:List N5) (ws:List T4):List (BitVec 8):=BitVec.ofInt 8 (ls.length:Int)::(CD ls++CZ ws)
def ER (ls:List N5) (ws:List T4):List (BitVec 8):=DD ls ws++Crc.four (Crc.of (DD ls ws))
def Kh (ls:List N5) (ws:List T4):Int:=if ES ls ws then 0 else 1
def I4 (ls:List N5) (ws:List T4):List (BitVec 8):=if ES ls ws then ER ls ws else []
theorem O8 (x:N5):(H1 x).length=x.i.length+x.s.length+5:=by simp [H1,AU];omega
theorem FW (s:List Int):(AU s).length=1+s.length:=by simp [AU];omega
theorem MV (a b:List N5):CD (a++b)=CD a++CD b:=by simp [CD]
theorem O3 (a b:List T4):CZ (a++b)=CZ a++CZ b:=by simp [CZ]
theorem MU (x:N5):CD [x]=H1 x:=by simp [CD]
theorem O2 (t:T4):CZ [t]=BL t.l:=by simp [CZ]
structure UE (ls:List N5) (ws:List T4):Prop where
 few:ls.length≤32
 node:∀x ∈ ls,x.i.length≤4∧x.s.length≤4
 wts:ws.length≤32
 nums:∀t ∈ ws,t.l.length≤4096
theorem I2:∀{ls:List N5},(∀x ∈ ls,x.i.length≤4∧x.s.length≤4)→(CD ls).length≤13*ls.length
 |[],_=>by simp [CD]
 |x::ls,h=>by
  have c:=h x (by simp)
  have b:=I2 (ls:=ls) fun y a=>h y (by simp [a])
  have e:CD (x::ls)=H1 x++CD ls:=rfl
  rw [e,length_append,O8,length_cons]
  omega
theorem J0:∀{ws:List T4},(∀t ∈ ws,t.l.length≤4096)→(CZ ws).length≤16384*ws.length
 |[],_=>by simp [CZ]
 |x::ls,h=>by
  have c:=h x (by simp)
  have b:=J0 (ws:=ls) fun y a=>h y (by simp [a])
  have e:CZ (x::ls)=BL x.l++CZ ls:=rfl
  rw [e,length_append,DM,length_cons]
  omega
theorem OL {k:BitVec 8} {i s:List Int} {n p:Int} (h:DA k i s n p=true):i.length≤4∧s.length≤4:=by
 unfold DA at h
 cases hk:CM k with
 |none=>rw [hk] at h;cases h
 |some r=>
  have l:=NL k (by rw [hk];rfl)
  have key:∀{a b c d e f:Int},CM k=some [a,b,c,d,e,f]→b≤4→i.length≤4∧s.length≤4:=fun {a b c d e f} j o=>by
   rw [j] at h
   obtain ⟨⟨_,m,_⟩,g⟩:=FK.1 h
   refine ⟨by omega, ?_⟩
   split at g
   ·have:=AE g;omega
   ·split at g
    ·exact ((Shapes.ok_iff s).1 g).1.2
    ·unfold IR at g;simp only [Bool.and_eq_true,decide_eq_true_eq] at g;omega
  rcases l with e|e|e|e|e|e|e|e|e|e|e|e|e
  ·exact key (by rw [e];exact Ul) (by decide)
  ·exact key (by rw [e];exact Uk) (by decide)
  ·exact key (by rw [e];exact Ti) (by decide)
  ·exact key (by rw [e];exact Th) (by decide)
  ·exact key (by rw [e];exact Uj) (by decide)
  ·exact key (by rw [e];exact Ui) (by decide)
  ·exact key (by rw [e];exact Tg) (by decide)
  ·exact key (by rw [e];exact Tf) (by decide)
  ·exact key (by rw [e];exact Uh) (by decide)
  ·exact key (by rw [e];exact Q1) (by decide)
  ·exact key (by rw [e];exact Q0) (by decide)
  ·exact key (by rw [e];exact Qz) (by decide)
  ·exact key (by rw [e];exact Qy) (by decide)
theorem LZ {ls:List N5} {ws:List T4} (h:ES ls ws=true):(∃b,FX ls=some b∧EF [] ls=some b)∧(F2 ls).length=ws.length∧Oa (ws.map pv) (F2 ls)=true:=by
 unfold ES at h
 simp only [Bool.and_eq_true,decide_eq_true_eq] at h
 obtain ⟨d,c,f⟩:=h
 obtain ⟨b,a⟩:=Option.isSome_iff_exists.1 d
 refine ⟨⟨b,a, ?_⟩,c,f⟩
 unfold FX at a
 split at a
 ·cases a
 ·split at a
  ·split at a
   ·rename_i e _;cases a;exact e
   ·cases a
  ·cases a
theorem Td {ls:List N5} {ws:List T4} (h:ES ls ws=true):UE ls ws:=by
 obtain ⟨⟨f,m,g⟩,e,l⟩:=LZ h
 have q:(F2 ls).length≤ls.length:=length_filter_le ..
 have b:=Ll m
 refine ⟨b,fun x o=>OL (HV ls [] f g x o),by omega,fun t k=> ?_⟩
 obtain ⟨i,n,rfl⟩:=List.mem_iff_getElem.1 k
 have a:=(GI (ws:=ws.map pv) (xs:=F2 ls) (by rw [length_map,e])).1 l i (by omega)
 rw [getD_eq_getElem?_getD,getElem?_map,getElem?_eq_getElem n] at a
 unfold Kk at a
 rw [Bool.and_eq_true] at a
 obtain ⟨p,c⟩:=P5 a.1
 have:=Shapes.size_le ws[i].s
 have c:(ws[i].l.length:Int)=Shapes.size ws[i].s:=by
  have:(pv ws[i]).2.length=(Shapes.size (pv ws[i]).1).toNat:=c
  have d:(pv ws[i]).2=ws[i].l:=rfl
  have j:(pv ws[i]).1=ws[i].s:=rfl
  rw [d,j] at this
  omega
 omega
theorem K0 (v:Value) (l:List (BitVec 8)) (n:BitVec 32) (W:World) (c:AY b8 W v l) (i:l.length≤4194304):
  AO prog 45 [v,u32 n] W (fun r w' =>Below W.heap.size W w' ∧w'.ownsRow W.heap.size 5 1 r (l++Crc.four n).length ((l++Crc.four n).map b8)):=by
 have b:=Below.refl W.heap.size W
 refine A6 (n:=9) func45 O<|Ai<|Ab O<|Ay<|Ad O<|Ad O<|An (B5 (vs:=[n].map u32) CN Mf O O O O O) O ?_
 rintro y w ⟨e, -,a, -⟩
 have d:=AK e
 have b:=b.bs a
 have c:=c.bs a
 clear a e
 refine Af O O (Sr v y l [n] w c d (by simp;omega)) ?_
 rintro r w' ⟨f,a⟩
 have h:=AA b
 have g:l++BL [n]=l++Crc.four n:=by rw [FY];simp [BL]
 rw [g] at f
 exact Ab rfl<|Av<|Ao rfl rfl<|⟨bt b a,CL f h⟩
theorem QB (n:BitVec 32) (l:List (BitVec 8)):(Crc.four n++l).drop 4=l:=rfl
set_option maxHeartbeats 1000000 in
theorem Tc (v u : Value) (ls : List N5) (ws : List T4) (W : World) (h : GN W v ls) (hw : GG W u ws) :
    AO prog 12 [.agg [v,u].toArray] W (fun r w' =>Below W.heap.size W w' ∧∃x,r= .tuple #[x, .int .i64 (Kh ls ws)]∧AS w' W.heap.size 5 1 x (I4 ls ws).length ((I4 ls ws).map b8)):=by
  have N:=Below.refl W.heap.size W
  refine A6 (n:=65) func12 O<|Ai<|C2 (cs:=[v,u]) O O O ?_
  rintro A_m w eA_m b_m C -
  have N:=N.bs C
  refine Ab O<|Ab O<|A9<|Aa (Cc (H3 _) (Hx _) O O ‹_›) O ?_
  have zA:=BA b_m
  refine Af O O (Ss v u ls ws w (h.bs N) (hw.bs N)) ?_
  rintro _ L ⟨rfl,C⟩
  have N:=N.bs C
  have b_m:=b_m.bs C
  refine Aa (Cy O) O<|Ak<|Al O ?_ ?_
  · intro g
    have g:ES ls ws=false:=by simpa using g
    refine Ai<|Ab O<|Ab O<|Bw<|Bp O O O ?_
    exact ⟨N, .slice none 0 0,by simp [Kh,g],by simp only [I4,g];exact .inl (World.ownsRow_nil _ _ _ _)⟩
  intro g
  have g:ES ls ws=true:=by simpa using g
  have S:=Td g
  have S1:=S.few
  have S2:=S.wts
  rw [show Kh ls ws=0 by simp [Kh,g],show I4 ls ws=ER ls ws by simp [I4,g]]
  clear g
  have X:=h.sl.bs N
  have z0:=AA N
  obtain ⟨E,hBB⟩:∃E:Nat→List (BitVec 8),E=fun i=>BitVec.ofInt 8 (ls.length:Int)::CD (ls.take i):=⟨_,rfl⟩
  have bb0:E 0=[BitVec.ofInt 8 (ls.length:Int)]:=by rw [hBB];rfl
  have bbl:∀i,i≤ls.length→(E i).length≤1+13*ls.length:=fun i hi=>by
    rw [hBB]
    have:=I2 (ls:=ls.take i) fun x hx=>S.node x (mem_of_mem_take hx)
    rw [length_take,Nat.min_eq_left hi] at this
    simp only [length_cons]
    omega
  refine B8<|Bc underlying27 O (CK _)<|Bc underlying24 O (CB _)<|Aa (Ap (EB _) O ‹_› rfl) O ?_
  refine Aa (Au CH O ‹_›) O ?_
  refine Aa (Ea L8 GP O) O<|An (B5 (vs:=[BitVec.ofInt 8 (ls.length:Int)].map b8) AJ CO O O O O O) O ?_
  rintro y T ⟨o_y, -,C, -⟩
  have hB1:=bt N C
  have b_m1:=b_m.bs C
  have X:=h.sl.bs hB1
  rw [← bb0] at o_y
  refine Ab O<|A9<|Bc underlying27 O (CK _)<|Bc underlying24 O (CB _)<|Aa (Ap (EB _) O ‹_› rfl) O ?_
  refine Aa (Au CH O ‹_›) O ?_
  refine Ad O<|Ak<|As ?_
  have o_y:T.ownsRow L.heap.size 5 1 y (E 0).length ((E 0).map b8):=by rw [show (E 0).length=1 by rw [bb0];rfl];exact o_y
  refine B1 (S:=(Nat×Value)) (fun z=>[(1, .pointer (some ⟨A_m,0,none⟩)),(4,z.2),(20,v),(21, .int .i64 (ls.length:Int)),(22, .int .i64 (z.1:Int))]) (fun z w' =>z.1≤ls.length∧Below L.heap.size L w' ∧w'.ownsRow L.heap.size 5 1 z.2 (E z.1).length ((E z.1).map b8)) (fun z=>ls.length - z.1) ((0,y)) ⟨rfl,rfl,rfl,rfl,rfl,trivial⟩ ?_ ?_
  · exact ⟨Nat.zero_le _,C,o_y⟩
  clear o_y X b_m1 hB1 C
  rintro ⟨i,y⟩ w2 ⟨hi,C,m⟩
  dsimp only at hi C m ⊢
  have V:=bt N C
  have X:=h.sl.bs V
  have b_m2:=b_m.bs C
  have z2:=C.size
  refine Ai<|B6 O<|Ak<|Aq<|Al O ?_ ?_
  · intro gi
    have K:i<ls.length:=by have:=AE gi;omega
    obtain ⟨x,hx⟩:∃x,x=ls[i]:=⟨_,rfl⟩
    have hxm:x ∈ ls:=hx ▸ getElem_mem K
    have Q:=h.each x hxm
    have hcl:=h.cells K
    rw [← hx] at hcl
    have hS:=S.node x hxm
    have hbl:=bbl i hi
    have Y:E (i+1)=E i++[x.k]++AU x.i++AU x.s++[BitVec.ofInt 8 x.n,BitVec.ofInt 8 x.p]:=by
      rw [hBB]
      simp only
      rw [take_succ_eq_append_getElem K,MV,← hx,MU]
      simp [H1]
    have zBB:(E (i+1)).length≤1+13*ls.length:=bbl (i+1) K
    have lx:=FW x.i
    have ly:=FW x.s
    have lBB:=cngA length Y
    simp only [length_append,length_cons,length_nil] at lBB
    refine B4<|Aq ?_
    refine D1 (St:=Value) (fun s=>[(1, .pointer (some ⟨A_m,0,none⟩)),(4,s),(20,v),(21, .int .i64 (ls.length:Int)),(22, .int .i64 (i:Int))]) (fun s w' =>Below L.heap.size L w' ∧w'.ownsRow L.heap.size 5 1 s (E (i+1)).length ((E (i+1)).map b8)) ?_ ?_
    · refine As<|Ai<|Aa (Dy CH O O X i O K) O<|Aa (Es (cs:=x.cells) (Ik _) (HG _) O X O (by decide) hcl) O<|Cx (cs:=x.cells) GY O O O O (fun _=>rfl) ((Q.bs V).ones) ?_
      rintro A_x w0 eA_x a M zhn3
      have o:=bt C M
      have m:=AF m M
      clear C M b_m2 X V
      refine Ak ?_
      refine Cw.any mixed (fun w hd _=> ?_)
      have a:=a.bs hd
      replace o:=bt o hd
      replace m:=AF m hd
      have H:=Fh w y
      refine Dg (fun w' =>AM w' A_x 79 x.cells) (fun hC=> ?_) (a)
      refine Ca (Bb Cb)<|Aj 0 O (fun T q=>Bq O) O<|Aj 1 O (fun T q=>Cr underlying79 O (GR _)) O<|Aj 2 O (fun T q=>Ap (Il _) O q O) O<|Aj 5 O (fun T q=>Cr underlying79 O (BT _)) O<|Aj 6 O (fun T q=>Ap (BF _) O q O) O<|Aj 8 O (fun T q=>Cr underlying79 O (BT _)) O<|Aj 9 O (fun T q=>Ap (BF _) O q O) O<|Aj 11 O (fun T q=>Cr underlying79 O (CA _)) O<|Aj 12 O (fun T q=>Ap (BI _) O q O) O<|Aj 13 O (fun T q=>Ea L8 GP O) O<|Aj 14 O (fun T q=>Cr underlying79 O (CA _)) O<|Aj 15 O (fun T q=>Ap (BI _) O q O) O<|Aj 16 O (fun T q=>Ea L8 GP O) O<|Bv ?_
      refine E2 ‹_› (i:=3) (j:=17) (by kernel_rfl) O O ?_ ?_
      refine An (B5 (vs:=[x.k].map b8) AJ CO O O O O O) O ?_
      rintro q3 w ⟨R, -,C, -⟩
      have H:=H.bs C
      have a:=a.bs C
      have m:=m.bs C
      have o:=o.bs C
      refine AR.back ?_
      refine E2 ‹_› (i:=4) (j:=17) (by kernel_rfl) O O ?_ ?_
      have U:=o.size
      refine An (Bz (base:=L.heap.size) AJ CO O (by decide) O O m (AH R) (BB (fun _=>rfl) _) (by omega) (by omega) U) O ?_
      rintro y w ⟨k,l,B,q⟩
      have q:=q.imp id fun e b (D:y.ownBlock=some b)=>Nat.le_of_eq (Option.some.inj (e.symm.trans D))
      rw [← map_append,show (E i).length+1=(E i++[x.k]).length by rw [length_append];rfl] at k
      have H:=H.app B q
      clear U R
      have a:=a.by B fun e=>by
        obtain ⟨ds,J⟩:=AS.ty (.inl m) e.symm
        exact absurd (AZ J a) (by decide)
      try replace f:=AN d fun b I=>B.block b (AB d b I).2 fun e=>G b I e.symm
      try replace G := fun b (F : c.ownBlock = some b) (D : y.ownBlock = some b) => show False from by
                rcases q with h|h
                · exact G b F (h ▸ D)
                · have:=h b D
                  have:=(AB d b F).2
                  omega
      try replace d:=f
      try clear f
      replace m:=k
      have o:=o.trans l
      clear k l B q
      refine AR.back ?_
      refine E2 ‹_› (i:=7) (j:=17) (by kernel_rfl) O O ?_ ?_
      refine Af O O (EE _ x.x (E i++[x.k]) x.i L _ o m (Q.i.bs N) (by rw [length_append,length_singleton];omega)) ?_
      rintro y w ⟨l,k,A⟩
      have B:=A.g
      have q:=A.c
      have H:=H.app B q
      clear A
      clear o
      have o:=l
      have a:=a.by B fun e=>by
        obtain ⟨ds,J⟩:=AS.ty (.inl m) e.symm
        exact absurd (AZ J a) (by decide)
      try replace f:=AN d fun b I=>B.block b (AB d b I).2 fun e=>G b I e.symm
      try replace G := fun b (F : c.ownBlock = some b) (D : y.ownBlock = some b) => show False from by
                rcases q with h|h
                · exact G b F (h ▸ D)
                · have:=h b D
                  have:=(AB d b F).2
                  omega
      try replace d:=f
      try clear f
      replace m:=k
      clear k l B q
      refine AR.back ?_
      refine E2 ‹_› (i:=10) (j:=17) (by kernel_rfl) O O ?_ ?_
      refine Af O O (EE _ x.y (E i++[x.k]++AU x.i) x.s L _ o m (Q.s.bs N) (by rw [length_append,length_append,length_singleton,FW];omega)) ?_
      rintro y w ⟨l,k,A⟩
      have B:=A.g
      have q:=A.c
      have H:=H.app B q
      clear A
      clear o
      have o:=l
      have a:=a.by B fun e=>by
        obtain ⟨ds,J⟩:=AS.ty (.inl m) e.symm
        exact absurd (AZ J a) (by decide)
      try replace f:=AN d fun b I=>B.block b (AB d b I).2 fun e=>G b I e.symm
      try replace G := fun b (F : c.ownBlock = some b) (D : y.ownBlock = some b) => show False from by
                rcases q with h|h
                · exact G b F (h ▸ D)
                · have:=h b D
                  have:=(AB d b F).2
                  omega
      try replace d:=f
      try clear f
      replace m:=k
      clear k l B q
      refine AR.back<|AR.only ‹_› (i:=17) (by kernel_rfl) O ?_
      refine An (B5 (vs:=[BitVec.ofInt 8 x.n,BitVec.ofInt 8 x.p].map b8) AJ CO O O O O O) O ?_
      rintro c w ⟨d, -,C, -⟩
      have G:=fun b (F:c.ownBlock=some b) D=>show False from by
        have:=(AB d b F).1
        have:=(AB m b D).2
        omega
      have H:=H.bs C
      have a:=a.bs C
      have m:=m.bs C
      have o:=o.bs C
      refine AR.back<|AR.only ‹_› (i:=18) (by kernel_rfl) O ?_
      have U:=o.size
      have lz:(E i++[x.k]++AU x.i++AU x.s).length≤2000:=by simp only [length_append,length_cons,length_nil];omega
      refine An (Bz (base:=L.heap.size) AJ CO O (by decide) O O m (AH d) (BB (fun _=>rfl) _) (by omega) (by omega) U) O ?_
      rintro y w ⟨k,l,B,q⟩
      rw [← map_append,show (E i++[x.k]++AU x.i++AU x.s).length+2=(E i++[x.k]++AU x.i++AU x.s++[BitVec.ofInt 8 x.n,BitVec.ofInt 8 x.p]).length by rw [length_append (bs:=[_,_])];rfl] at k
      have a:=a.by B fun e=>by
        obtain ⟨ds,J⟩:=AS.ty (.inl m) e.symm
        exact absurd (AZ J a) (by decide)
      have o:=o.trans l
      refine AR.back<|Ca (Bb Cb)<|Aj 19 O (fun T q=>Br O) O<|Bv<|AR.done ‹_› (by kernel_rfl) ?_
      refine A8 ?_
      exact Bo (y) ⟨rfl,rfl,rfl,rfl,rfl,trivial⟩ (⟨o,by rw [Y];exact k⟩)
      refine An (B5 (vs:=[BitVec.ofInt 8 x.n,BitVec.ofInt 8 x.p].map b8) AJ CO O O O O O) O ?_
      rintro c w ⟨d, -,C, -⟩
      have G:=fun b (F:c.ownBlock=some b) D=>show False from by
        have:=(AB d b F).1
        have:=(AB m b D).2
        omega
      have H:=H.bs C
      have a:=a.bs C
      have m:=m.bs C
      have o:=o.bs C
      refine AR.back<|AR.only ‹_› (i:=10) (by kernel_rfl) O ?_
      refine Af O O (EE _ x.y (E i++[x.k]++AU x.i) x.s L _ o m (Q.s.bs N) (by rw [length_append,length_append,length_singleton,FW];omega)) ?_
      rintro y w ⟨l,k,A⟩
      have B:=A.g
      have q:=A.c
      have H:=H.app B q
      clear A
      clear o
      have o:=l
      have a:=a.by B fun e=>by
        obtain ⟨ds,J⟩:=AS.ty (.inl m) e.symm
        exact absurd (AZ J a) (by decide)
      try replace f:=AN d fun b I=>B.block b (AB d b I).2 fun e=>G b I e.symm
      try replace G := fun b (F : c.ownBlock = some b) (D : y.ownBlock = some b) => show False from by
                rcases q with h|h
                · exact G b F (h ▸ D)
                · have:=h b D
                  have:=(AB d b F).2
                  omega
      try replace d:=f
      try clear f
      replace m:=k
      clear k l B q
      refine AR.back<|AR.only ‹_› (i:=18) (by kernel_rfl) O ?_
      have U:=o.size
      have lz:(E i++[x.k]++AU x.i++AU x.s).length≤2000:=by simp only [length_append,length_cons,length_nil];omega
      refine An (Bz (base:=L.heap.size) AJ CO O (by decide) O O m (AH d) (BB (fun _=>rfl) _) (by omega) (by omega) U) O ?_
      rintro y w ⟨k,l,B,q⟩
      rw [← map_append,show (E i++[x.k]++AU x.i++AU x.s).length+2=(E i++[x.k]++AU x.i++AU x.s++[BitVec.ofInt 8 x.n,BitVec.ofInt 8 x.p]).length by rw [length_append (bs:=[_,_])];rfl] at k
      have a:=a.by B fun e=>by
        obtain ⟨ds,J⟩:=AS.ty (.inl m) e.symm
        exact absurd (AZ J a) (by decide)
      have o:=o.trans l
      refine AR.back<|Ca (Bb Cb)<|Aj 19 O (fun T q=>Br O) O<|Bv<|AR.done ‹_› (by kernel_rfl) ?_
      refine A8 ?_
      exact Bo (y) ⟨rfl,rfl,rfl,rfl,rfl,trivial⟩ (⟨o,by rw [Y];exact k⟩)
      refine An (B5 (vs:=[BitVec.ofInt 8 x.n,BitVec.ofInt 8 x.p].map b8) AJ CO O O O O O) O ?_
      rintro c w ⟨d, -,C, -⟩
      have G:=fun b (F:c.ownBlock=some b) D=>show False from by
        have:=(AB d b F).1
        have:=(AB m b D).2
        omega
      have H:=H.bs C
      have a:=a.bs C
      have m:=m.bs C
      have o:=o.bs C
      refine AR.back<|AR.only ‹_› (i:=7) (by kernel_rfl) O ?_
      refine Af O O (EE _ x.x (E i++[x.k]) x.i L _ o m (Q.i.bs N) (by rw [length_append,length_singleton];omega)) ?_
      rintro y w ⟨l,k,A⟩
      have B:=A.g
      have q:=A.c
      have H:=H.app B q
      clear A
      clear o
      have o:=l
      have a:=a.by B fun e=>by
        obtain ⟨ds,J⟩:=AS.ty (.inl m) e.symm
        exact absurd (AZ J a) (by decide)
      try replace f:=AN d fun b I=>B.block b (AB d b I).2 fun e=>G b I e.symm
      try replace G := fun b (F : c.ownBlock = some b) (D : y.ownBlock = some b) => show False from by
                rcases q with h|h
                · exact G b F (h ▸ D)
                · have:=h b D
                  have:=(AB d b F).2
                  omega
      try replace d:=f
      try clear f
      replace m:=k
      clear k l B q
      refine AR.back<|AR.only ‹_› (i:=10) (by kernel_rfl) O ?_
      refine Af O O (EE _ x.y (E i++[x.k]++AU x.i) x.s L _ o m (Q.s.bs N) (by rw [length_append,length_append,length_singleton,FW];omega)) ?_
      rintro y w ⟨l,k,A⟩
      have B:=A.g
      have q:=A.c
      have H:=H.app B q
      clear A
      clear o
      have o:=l
      have a:=a.by B fun e=>by
        obtain ⟨ds,J⟩:=AS.ty (.inl m) e.symm
        exact absurd (AZ J a) (by decide)
      try replace f:=AN d fun b I=>B.block b (AB d b I).2 fun e=>G b I e.symm
      try replace G := fun b (F : c.ownBlock = some b) (D : y.ownBlock = some b) => show False from by
                rcases q with h|h
                · exact G b F (h ▸ D)
                · have:=h b D
                  have:=(AB d b F).2
                  omega
      try replace d:=f
      try clear f
      replace m:=k
      clear k l B q
      refine AR.back<|AR.only ‹_› (i:=18) (by kernel_rfl) O ?_
      have U:=o.size
      have lz:(E i++[x.k]++AU x.i++AU x.s).length≤2000:=by simp only [length_append,length_cons,length_nil];omega
      refine An (Bz (base:=L.heap.size) AJ CO O (by decide) O O m (AH d) (BB (fun _=>rfl) _) (by omega) (by omega) U) O ?_
      rintro y w ⟨k,l,B,q⟩
      rw [← map_append,show (E i++[x.k]++AU x.i++AU x.s).length+2=(E i++[x.k]++AU x.i++AU x.s++[BitVec.ofInt 8 x.n,BitVec.ofInt 8 x.p]).length by rw [length_append (bs:=[_,_])];rfl] at k
      have a:=a.by B fun e=>by
        obtain ⟨ds,J⟩:=AS.ty (.inl m) e.symm
        exact absurd (AZ J a) (by decide)
      have o:=o.trans l
      refine AR.back<|Ca (Bb Cb)<|Aj 19 O (fun T q=>Br O) O<|Bv<|AR.done ‹_› (by kernel_rfl) ?_
      refine A8 ?_
      exact Bo (y) ⟨rfl,rfl,rfl,rfl,rfl,trivial⟩ (⟨o,by rw [Y];exact k⟩)
      refine An (B5 (vs:=[BitVec.ofInt 8 x.n,BitVec.ofInt 8 x.p].map b8) AJ CO O O O O O) O ?_
      rintro c w ⟨d, -,C, -⟩
      have G:=fun b (F:c.ownBlock=some b) D=>show False from by
        have:=(AB d b F).1
        have:=(AB m b D).2
        omega
      have H:=H.bs C
      have a:=a.bs C
      have m:=m.bs C
      have o:=o.bs C
      have R:=R.bs C
      refine AR.back<|AR.only ‹_› (i:=4) (by kernel_rfl) O ?_
      have U:=o.size
      refine An (Bz (base:=L.heap.size) AJ CO O (by decide) O O m (AH R) (BB (fun _=>rfl) _) (by omega) (by omega) U) O ?_
      rintro y w ⟨k,l,B,q⟩
      have q:=q.imp id fun e b (D:y.ownBlock=some b)=>Nat.le_of_eq (Option.some.inj (e.symm.trans D))
      rw [← map_append,show (E i).length+1=(E i++[x.k]).length by rw [length_append];rfl] at k
      have H:=H.app B q
      clear U R
      have a:=a.by B fun e=>by
        obtain ⟨ds,J⟩:=AS.ty (.inl m) e.symm
        exact absurd (AZ J a) (by decide)
      try replace f:=AN d fun b I=>B.block b (AB d b I).2 fun e=>G b I e.symm
      try replace G := fun b (F : c.ownBlock = some b) (D : y.ownBlock = some b) => show False from by
                rcases q with h|h
                · exact G b F (h ▸ D)
                · have:=h b D
                  have:=(AB d b F).2
                  omega
      try replace d:=f
      try clear f
      replace m:=k
      have o:=o.trans l
      clear k l B q
      refine AR.back<|AR.only ‹_› (i:=7) (by kernel_rfl) O ?_
      refine Af O O (EE _ x.x (E i++[x.k]) x.i L _ o m (Q.i.bs N) (by rw [length_append,length_singleton];omega)) ?_
      rintro y w ⟨l,k,A⟩
      have B:=A.g
      have q:=A.c
      have H:=H.app B q
      clear A
      clear o
      have o:=l
      have a:=a.by B fun e=>by
        obtain ⟨ds,J⟩:=AS.ty (.inl m) e.symm
        exact absurd (AZ J a) (by decide)
      try replace f:=AN d fun b I=>B.block b (AB d b I).2 fun e=>G b I e.symm
      try replace G := fun b (F : c.ownBlock = some b) (D : y.ownBlock = some b) => show False from by
                rcases q with h|h
                · exact G b F (h ▸ D)
                · have:=h b D
                  have:=(AB d b F).2
                  omega
      try replace d:=f
      try clear f
      replace m:=k
      clear k l B q
      refine AR.back<|AR.only ‹_› (i:=10) (by kernel_rfl) O ?_
      refine Af O O (EE _ x.y (E i++[x.k]++AU x.i) x.s L _ o m (Q.s.bs N) (by rw [length_append,length_append,length_singleton,FW];omega)) ?_
      rintro y w ⟨l,k,A⟩
      have B:=A.g
      have q:=A.c
      have H:=H.app B q
      clear A
      clear o
      have o:=l
      have a:=a.by B fun e=>by
        obtain ⟨ds,J⟩:=AS.ty (.inl m) e.symm
        exact absurd (AZ J a) (by decide)
      try replace f:=AN d fun b I=>B.block b (AB d b I).2 fun e=>G b I e.symm
      try replace G := fun b (F : c.ownBlock = some b) (D : y.ownBlock = some b) => show False from by
                rcases q with h|h
                · exact G b F (h ▸ D)
                · have:=h b D
                  have:=(AB d b F).2
                  omega
      try replace d:=f
      try clear f
      replace m:=k
      clear k l B q
      refine AR.back<|AR.only ‹_› (i:=18) (by kernel_rfl) O ?_
      have U:=o.size
      have lz:(E i++[x.k]++AU x.i++AU x.s).length≤2000:=by simp only [length_append,length_cons,length_nil];omega
      refine An (Bz (base:=L.heap.size) AJ CO O (by decide) O O m (AH d) (BB (fun _=>rfl) _) (by omega) (by omega) U) O ?_
      rintro y w ⟨k,l,B,q⟩
      rw [← map_append,show (E i++[x.k]++AU x.i++AU x.s).length+2=(E i++[x.k]++AU x.i++AU x.s++[BitVec.ofInt 8 x.n,BitVec.ofInt 8 x.p]).length by rw [length_append (bs:=[_,_])];rfl] at k
      have a:=a.by B fun e=>by
        obtain ⟨ds,J⟩:=AS.ty (.inl m) e.symm
        exact absurd (AZ J a) (by decide)
      have o:=o.trans l
      refine AR.back<|Ca (Bb Cb)<|Aj 19 O (fun T q=>Br O) O<|Bv<|AR.done ‹_› (by kernel_rfl) ?_
      refine A8 ?_
      exact Bo (y) ⟨rfl,rfl,rfl,rfl,rfl,trivial⟩ (⟨o,by rw [Y];exact k⟩)
      refine An (B5 (vs:=[BitVec.ofInt 8 x.n,BitVec.ofInt 8 x.p].map b8) AJ CO O O O O O) O ?_
      rintro c w ⟨d, -,C, -⟩
      have G:=fun b (F:c.ownBlock=some b) D=>show False from by
        have:=(AB d b F).1
        have:=(AB m b D).2
        omega
      have H:=H.bs C
      have a:=a.bs C
      have m:=m.bs C
      have o:=o.bs C
      refine AR.back<|AR.only ‹_› (i:=3) (by kernel_rfl) O ?_
      refine An (B5 (vs:=[x.k].map b8) AJ CO O O O O O) O ?_
      rintro q3 w ⟨R, -,C, -⟩
      have H:=H.bs C
      have a:=a.bs C
      have m:=m.bs C
      have o:=o.bs C
      have d:=d.bs C
      clear C
      refine AR.back<|AR.only ‹_› (i:=4) (by kernel_rfl) O ?_
      have U:=o.size
      refine An (Bz (base:=L.heap.size) AJ CO O (by decide) O O m (AH R) (BB (fun _=>rfl) _) (by omega) (by omega) U) O ?_
      rintro y w ⟨k,l,B,q⟩
      have q:=q.imp id fun e b (D:y.ownBlock=some b)=>Nat.le_of_eq (Option.some.inj (e.symm.trans D))
      rw [← map_append,show (E i).length+1=(E i++[x.k]).length by rw [length_append];rfl] at k
      have H:=H.app B q
      clear U R
      have a:=a.by B fun e=>by
        obtain ⟨ds,J⟩:=AS.ty (.inl m) e.symm
        exact absurd (AZ J a) (by decide)
      try replace f:=AN d fun b I=>B.block b (AB d b I).2 fun e=>G b I e.symm
      try replace G := fun b (F : c.ownBlock = some b) (D : y.ownBlock = some b) => show False from by
                rcases q with h|h
                · exact G b F (h ▸ D)
                · have:=h b D
                  have:=(AB d b F).2
                  omega
      try replace d:=f
      try clear f
      replace m:=k
      have o:=o.trans l
      clear k l B q
      refine AR.back<|AR.only ‹_› (i:=7) (by kernel_rfl) O ?_
      refine Af O O (EE _ x.x (E i++[x.k]) x.i L _ o m (Q.i.bs N) (by rw [length_append,length_singleton];omega)) ?_
      rintro y w ⟨l,k,A⟩
      have B:=A.g
      have q:=A.c
      have H:=H.app B q
      clear A
      clear o
      have o:=l
      have a:=a.by B fun e=>by
        obtain ⟨ds,J⟩:=AS.ty (.inl m) e.symm
        exact absurd (AZ J a) (by decide)
      try replace f:=AN d fun b I=>B.block b (AB d b I).2 fun e=>G b I e.symm
      try replace G := fun b (F : c.ownBlock = some b) (D : y.ownBlock = some b) => show False from by
                rcases q with h|h
                · exact G b F (h ▸ D)
                · have:=h b D
                  have:=(AB d b F).2
                  omega
      try replace d:=f
      try clear f
      replace m:=k
      clear k l B q
      refine AR.back<|AR.only ‹_› (i:=10) (by kernel_rfl) O ?_
      refine Af O O (EE _ x.y (E i++[x.k]++AU x.i) x.s L _ o m (Q.s.bs N) (by rw [length_append,length_append,length_singleton,FW];omega)) ?_
      rintro y w ⟨l,k,A⟩
      have B:=A.g
      have q:=A.c
      have H:=H.app B q
      clear A
      clear o
      have o:=l
      have a:=a.by B fun e=>by
        obtain ⟨ds,J⟩:=AS.ty (.inl m) e.symm
        exact absurd (AZ J a) (by decide)
      try replace f:=AN d fun b I=>B.block b (AB d b I).2 fun e=>G b I e.symm
      try replace G := fun b (F : c.ownBlock = some b) (D : y.ownBlock = some b) => show False from by
                rcases q with h|h
                · exact G b F (h ▸ D)
                · have:=h b D
                  have:=(AB d b F).2
                  omega
      try replace d:=f
      try clear f
      replace m:=k
      clear k l B q
      refine AR.back<|AR.only ‹_› (i:=18) (by kernel_rfl) O ?_
      have U:=o.size
      have lz:(E i++[x.k]++AU x.i++AU x.s).length≤2000:=by simp only [length_append,length_cons,length_nil];omega
      refine An (Bz (base:=L.heap.size) AJ CO O (by decide) O O m (AH d) (BB (fun _=>rfl) _) (by omega) (by omega) U) O ?_
      rintro y w ⟨k,l,B,q⟩
      rw [← map_append,show (E i++[x.k]++AU x.i++AU x.s).length+2=(E i++[x.k]++AU x.i++AU x.s++[BitVec.ofInt 8 x.n,BitVec.ofInt 8 x.p]).length by rw [length_append (bs:=[_,_])];rfl] at k
      have a:=a.by B fun e=>by
        obtain ⟨ds,J⟩:=AS.ty (.inl m) e.symm
        exact absurd (AZ J a) (by decide)
      have o:=o.trans l
      refine AR.back<|Ca (Bb Cb)<|Aj 19 O (fun T q=>Br O) O<|Bv<|AR.done ‹_› (by kernel_rfl) ?_
      refine A8 ?_
      exact Bo (y) ⟨rfl,rfl,rfl,rfl,rfl,trivial⟩ (⟨o,by rw [Y];exact k⟩)
    rintro y' w3 ⟨hA3,ho3⟩
    replace hA3:Below L.heap.size L w3:=hA3
    replace ho3:w3.ownsRow L.heap.size 5 1 y' (E (i+1)).length ((E (i+1)).map b8):=ho3
    refine Ch<|Az<|Cd O (by omega)<|Ad O<|A7 ?_
    exact A4 (Bu ((i+1,y')) ⟨rfl,rfl,rfl,rfl,rfl,trivial⟩ (⟨K,hA3,ho3⟩) (by simp only;omega))
  intro gi
  have K:i=ls.length:=by have:=AD gi;omega
  subst K
  have lB:=bbl ls.length (AT _)
  obtain ⟨B0,hB0⟩:∃B0,B0=E ls.length:=⟨_,rfl⟩
  rw [← hB0] at m lB
  have eB0:B0=BitVec.ofInt 8 (ls.length:Int)::CD ls:=by rw [hB0,hBB];simp only;rw [take_length]
  clear hB0 bbl bb0 X
  obtain ⟨CC,hCC⟩:∃CC:Nat→List (BitVec 8),CC=fun i=>B0++CZ (ws.take i):=⟨_,rfl⟩
  have c0:CC 0=B0:=by rw [hCC];simp [CZ]
  have ccl:∀i,(CC i).length≤1000000:=fun i=>by
    rw [hCC]
    have:=J0 (ws:=ws.take i) fun t ht=>S.nums t (mem_of_mem_take ht)
    rw [length_take] at this
    simp only [length_append]
    omega
  have s_u:=hw.1.bs V
  rw [← c0] at m
  refine Bt<|Ax<|Ax<|Bg<|A4<|Ch<|Aq<|Ai<|Bc underlying27 O (FH _)<|Aa (Ap (JT _) O ‹_› rfl) O ?_
  refine Aa (Au GB O ‹_›) O ?_
  refine Ad O<|Ak<|As ?_
  refine B1 (S:=(Nat×Value)) (fun z=>[(4,z.2),(47,u),(48, .int .i64 (ws.length:Int)),(49, .int .i64 (z.1:Int))]) (fun z w' =>z.1≤ws.length∧Below L.heap.size L w' ∧w'.ownsRow L.heap.size 5 1 z.2 (CC z.1).length ((CC z.1).map b8)) (fun z=>ws.length - z.1) ((0,y)) ⟨rfl,rfl,rfl,rfl,trivial⟩ ?_ ?_
  · exact ⟨Nat.zero_le _,C,m⟩
  clear m s_u C hi V b_m2 z2
  rintro ⟨i,y⟩ w2 ⟨hi,C,m⟩
  dsimp only at hi C m ⊢
  have V:=bt N C
  have s_u:=hw.1.bs V
  refine Ai<|B6 O<|Ak<|Aq<|Al O ?_ ?_
  · intro gi
    have K:i<ws.length:=by have:=AE gi;omega
    obtain ⟨t,ht,htm,hc1,hc2⟩:=N6 K
    have hta:=hw.2 t htm
    have hcl:=Iv hc1 hc2
    have lt:=S.nums t htm
    have hcl1:=ccl i
    have eCC:CC (i+1)=CC i++BL t.l:=by
      rw [hCC]
      simp only
      rw [take_succ_eq_append_getElem K,O3,← ht,O2,append_assoc]
    have Z:=hta.bs V
    have oneT:[t.x,t.y].all (·.oneCell')=true:=by simp [Z.1.one',Z.2.one']
    refine B4<|Aq<|As<|Ai<|Aa (Dy GB O O s_u i O K) O<|Aa (Es (cs:=[t.x,t.y]) (KJ _) (Ks _) O s_u O (by decide) hcl) O<|Cx (cs:=[t.x,t.y]) JF O O O O (fun _=>rfl) (oneT) ?_
    rintro A_t w3 eA_t b_t M zhn3
    have o:=bt C M
    have m:=AF m M
    have Z:=Z.bs M
    refine Ak<|Az<|Ad O<|Bc underlying75 O (Jk _)<|Aa (Ap (M1 _) O ‹_› rfl) O ?_
    refine Af O O (Ot (.slice none 0 0) t.y [] t.l w3 (Ct _ _) Z.2 (by simp;omega)) ?_
    rintro p w4 ⟨o_p,hn4⟩
    rw [nil_append,FY] at o_p
    have s_p:=AK o_p
    have lp:(Crc.four (BitVec.ofInt 32 (t.l.length:Int))++BL t.l).length=4+4*t.l.length:=by rw [length_append,DM];rfl
    have s_q:=AY.drop s_p (i:=4) (by omega)
    rw [QB] at s_q
    have m:=AF m hn4
    have o:=bt o hn4
    refine Aa (Fl (i:=4) AJ O O s_p (by omega)) O<|An (C5 (base:=L.heap.size) AJ CO O (by decide) O O m s_q (BB (fun _=>rfl) _) (by rw [DM];omega) (by rw [DM];omega) o.size) O ?_
    rintro y' w5 ⟨ho5,hb5, -⟩
    rw [← map_append,← length_append,← eCC] at ho5
    refine Ab O<|A7<|A8<|Cs<|Cd O (by omega)<|Ad O<|A7 ?_
    exact A4 (Bu ((i+1,y')) ⟨rfl,rfl,rfl,rfl,trivial⟩ (⟨K,o.trans hb5,ho5⟩) (by simp only;omega))
  intro gi
  have K:i=ws.length:=by have:=AD gi;omega
  subst K
  have eC:CC ws.length=DD ls ws:=by rw [hCC];simp only;rw [take_length,eB0];rfl
  have lC:=ccl ws.length
  rw [eC] at m lC
  have s_y:=AK m
  refine Bt<|Ax<|Ax<|Bg<|Cf<|Ad O<|Ad O<|Af O O (Ta y (DD ls ws) w2 s_y) ?_
  rintro _ w3 ⟨rfl,M⟩
  have s_y:=s_y.bs M
  have o:=bt C M
  refine Af O O (K0 y (DD ls ws) _ w3 s_y (by omega)) ?_
  rintro r w4 ⟨hn4,o_r⟩
  have o:=bt o hn4
  have s_r:=AK o_r
  refine Af O O (QO r (ER ls ws) w4 s_r) ?_
  rintro _ w5 ⟨rfl,hn5⟩
  have o:=bt o hn5
  have z3:=AA (bt N (bt C M))
  exact Ab rfl<|Ab rfl<|Av<|Bp rfl rfl rfl<|⟨bt N o,_,rfl,((AS.clip o_r).mono z3).bs hn5⟩

theorem Pi (A:Nat) (x:Value) (w:World) (a:AM w A 4 [x]):
  CallsD prog 154 [Value.pointer (some ⟨A,0,none⟩)].toArray (.panicking [{v:=Nu,recovered:=false}]) w fun e d w' =>e= .returned (.tuple #[])∧d= .panicking [{v:=Nu,recovered:=true}]∧(AM w' A 4 [.bool false]∧w.grownBy w' (some A)):=by
 refine Mx (n:=10) func154 O (fun ρ=>rfl) O O O fun o cs=> ?_
 have l:=AX (Below.refl w.heap.size w) (some A)
 refine As<|Ai<|Aa (Gd (by kernel_rfl) O) O<|Ak<|Cm O false (rfl)<|Ai<|Aa (G1 (fun _=>by kernel_rfl) O) O<|Aa (Ar (i:=1) O O) O<|Aa (Ar (i:=0) O O) O<|Ak<|Cm O true (rfl)<|Ai<|Cx (cs:=[]) Ts O O O O (fun _=>rfl) (rfl) ?_
 rintro j m b f c k
 have a:=a.bs c
 refine Ak<|Az<|A5 (Ce (u:= .bool false) (TS _) O O O a Nat.zero_lt_one) ?_
 rintro p ⟨h,g, -⟩
 exact A7<|A8<|Gr rfl<|⟨rfl,rfl,h,AP (AX c _) g⟩
theorem Ph (A:Nat) (w:World):
  CallsD prog 154 [Value.pointer (some ⟨A,0,none⟩)].toArray .returning w fun e a w' =>e= .returned (.tuple #[])∧a= .returning∧w' =w:=by
 refine Mw (n:=10) func154 O (fun ρ=>rfl) O O O fun b cs=>As<|Ai<|Aa (Gc (by kernel_rfl) O) O<|Ak<|Cm O true (rfl)<|Az<|Ab O<|A7<|A8<|Gr O ?_
 exact ⟨rfl,rfl,rfl⟩
theorem Kz (F:FuncId) (caps:List Value) (W:World) (R K:Nat→World→Prop)
  (m:∀A w,A=W.heap.size→Below W.heap.size W w→AM w A 4 [.bool false]→Ir prog F caps w Nu (fun r w' =>r= .tuple #[]∧AM w' A 4 [.bool false]∧R A w') (fun w' =>AM w' A 4 [.bool false]∧K A w')):
  AO prog 50 [.func (.func F) #[] caps.toArray] W (fun r w' =>∃A g,A=W.heap.size∧g.grownBy w' (some A)∧((r= .bool true∧R A g)∨(r= .bool false∧K A g))):=by
 refine G7 (n:=6) func50 (by kernel_rfl) O O O<|Ds<|C6 (by kernel_rfl)<|Dc U9 O ?_
 rintro A w i d s -
 refine A7 (Pg.low ?_)
 refine C0 (Du ?_)
 refine Ds<|F4<|Lg.plain 1 (by kernel_rfl)<|Aa (Ep (vs:=[]) (us:=[.pointer (some ⟨A,0,none⟩)]) O O) O ?_
 refine A7 (Pg.low ?_)
 refine G6<|Lg.defer (f:=154) (caps:=[.pointer (some ⟨A,0,none⟩)]) O<|Lg.nil ?_
 refine C0 (Du ?_)
 refine Ds<|C6 (by kernel_rfl)<|Ad O ?_
 have k:∀w,(invoke (.fn (.func 154) [Value.pointer (some ⟨A,0,none⟩)].toArray) #[]).run prog w= .ok (.enter 154 [Value.pointer (some ⟨A,0,none⟩)].toArray) w:=fun w=>by
  simp [invoke,DC (P:=prog) (w:=w) ⟨_,func154,by kernel_rfl,rfl⟩]
 refine Lw.callVQ (caps:=caps) O O (m A w i s d) (fun w' q=>Pg.lowP (Pg.thenP ?_)) ?_
 ·obtain ⟨c,l⟩:=q
  refine Pg.panD (k w') (Pi A _ w' c) ?_
  rintro j ⟨h,b⟩ a e
  exact ⟨_,Hy (v:= .bool false) rfl h underlying4 rfl (e.has 2 _ rfl),A,w',i,b, .inr ⟨rfl,l⟩⟩
 rintro _ o ⟨rfl,c,p⟩
 refine A7 (Pg.low ?_)
 refine C0 (Du ?_)
 refine Ds<|C6 (by kernel_rfl)<|A5 (Ce (u:= .bool true) (TS _) O O O c Nat.zero_lt_one) ?_
 rintro j ⟨h,b, -⟩
 refine A7 (Pg.low ?_)
 refine C0 (Du ?_)
 exact Cg.ret<|Pg.retD (k j) (Ph A j) fun a e=>⟨_,Hy (v:= .bool true) rfl h underlying4 rfl (e.has 2 _ rfl),A,o,i,b, .inl ⟨rfl,p⟩⟩
end Go.Proofs.YtblbopcaflaldaaGreatDoor
