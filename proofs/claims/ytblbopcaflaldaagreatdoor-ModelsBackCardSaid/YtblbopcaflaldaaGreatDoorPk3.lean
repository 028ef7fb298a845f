/- Texts of this proof, one behind the other: GraphShapes, WtsPl, NumsCode, PutCode, SumsCode, TensList, Book, Bkn, MdlCode, TxtCode, RefShape, RefCode, RefJoined, RefOrd, Ret, RefNode, TxtPl, Pan, MdlRead, MdlPl, ParPl, Rec, ParNum, BookCode, BookLaw, TwinTensor, BookTen, MdlHold, MdlChunk, MdlPut, MdlReading. -/
import Derived.Test.YtblbopcaflaldaaGreatDoorPk2
import Derived.Test.YtblbopcaflaldaaGreatDoorPk1
import Derived.OwnWalk
import Derived.Defers
import Derived.Recover
import Derived.WideLaws
import Derived.Laws.Entries

namespace Go.Proofs.YtblbopcaflaldaaGreatDoor
open Go Go.Dd Go.RowKit List Go.Proofs.Tryz
set_option maxRecDepth 100000
instance:Inhabited N5:=⟨⟨0#8, .slice none 0 0, .slice none 0 0,[],[],0,0⟩⟩
theorem D4 (a:N5):a.cells.length=5:=rfl
structure GN (w:World) (v:Value) (ls:List N5):Prop where
 sl:Sl w 5 v ls.length (HY N5.cells ls)
 each:∀a ∈ ls,N5.at w a
theorem GN.bs {w w' :World} {v:Value} {ls:List N5} (h:GN w v ls) (g:Below w.heap.size w w'):GN w' v ls:=⟨h.sl.bs g,fun a b=>(h.each a b).bs g⟩
theorem GN.cells {w:World} {v:Value} {ls:List N5} (_h:GN w v ls) {i:Nat} (c:i<ls.length):∀k,k<5→∃q,(ls[i]).cells[k]? =some q∧(HY N5.cells ls)[i*5+k]? =some q:=fun k b=>by
 rw [KR (fun a _=>D4 a) c b]
 exact ⟨_,getElem?_eq_getElem (by rw [D4];exact b),getElem?_eq_getElem _⟩
def O0 (m:Nat) (l:List Int):Bool:=l.any fun n=>decide (n<0)||decide ((m:Int)≤n)
def La (acc:List (List Int)) (x:N5):Option (List Int):=
 if DA x.k x.i x.s x.n x.p && !O0 acc.length x.i && Shapes.ok (O7 x.k x.s x.n x.p (x.i.map fun j=>acc.getD j.toNat [])) then some (O7 x.k x.s x.n x.p (x.i.map fun j=>acc.getD j.toNat [])) else none
def EG:List (List Int)→List N5→Option (List (List Int))
 |acc,[]=>some acc
 |acc,x::l=>match La acc x with
  |some s=>EG (acc++[s]) l
  |none=>none
def LF (k:BitVec 8):Bool:=match CN k with
 |some r=>decide (r.getD 1 0≠0)
 |none=>false
def FA (ls:List N5):Nat:=(ls.filter fun a=>decide (a.k=1#8)).length
def FF (ls:List N5):Option (List (List Int)):=
 if ls.length<1∨32<ls.length then none else match EG [] ls with
 |some ss=>if FA ls=1∧LF (ls.getD (ls.length - 1) default).k=true then some ss else none
 |none=>none
theorem Tq (n:Int) (A m:Nat) (w:World) (a:AN w A 3 [.int .i64 (m:Int)]):AO prog 219 [.int .i64 n, .pointer (some ⟨A,0,none⟩)] w (fun r w' =>r= .bool (decide (n<0)||decide ((m:Int)≤n))∧w' =w):=by
 refine A5 (n:=11) func219 O<|Ak<|Ab O<|A0<|Ad O<|B9 O<|Ad O ?_
 refine Cc 6 O ?_ ?_
 ·intro g
  refine Ae (dj:=6) O O O O<|Ae (dj:=6) O O O O<|Ae (dj:=6) O O O O<|Bv O<|Ab O<|As<|Am O O ?_
  rw [g]
  exact ⟨rfl,rfl⟩
 intro g
 refine Aj (dj:=6) O O<|Ad O<|Aj (dj:=6) O O<|Aa (Ap (BD _) O ‹_› rfl) O ?_
 refine Aj (dj:=6) O O<|Aa (E4 O O) O<|Cl O<|Ab O<|As<|Am O O ?_
 rw [g]
 exact ⟨rfl,rfl⟩
theorem SI (v:Value) (l:List Int) (A m:Nat) (w:World) (o:BB (Value.int .i64) w v l) (d:AN w A 3 [.int .i64 (m:Int)]):AO prog 249 [v, .func (.func 219) #[] [.pointer (some ⟨A,0,none⟩)].toArray] w (fun r w' =>(∃j,r= .int .i64 j∧decide (0≤j)=O0 m l)∧w' =w):=by
 have s:=o.le
 refine A5 (n:=19) func249 O<|Ak<|Ab O<|Bc<|Ad O<|Aa (Au AH O ‹_›) O ?_
 refine Ad O<|Al<|Ax ?_
 refine B2 (S:=Nat) (fun i=>[(0,v),(1, .func (.func 219) #[] [.pointer (some ⟨A,0,none⟩)].toArray),(7, .int .i64 (l.length:Int)),(8, .int .i64 (i:Int))]) (fun i w' =>i≤l.length∧O0 m (l.take i)=false∧w' =w) (fun i=>l.length - i) (0) ⟨rfl,rfl,rfl,rfl,trivial⟩ ?_ ?_
 ·exact ⟨Nat.zero_le _,rfl,rfl⟩
 rintro i h ⟨t,e,rfl⟩
 refine Ak<|B9 O<|Al<|Aq<|An O ?_ ?_
 ·intro c
  have a:i<l.length:=by have:=AF c;omega
  have k:O0 m (l.take (i+1))=(O0 m (l.take i)||(decide (l.getD i default<0)||decide ((m:Int)≤l.getD i default))):=by
   unfold O0
   rw [take_succ_eq_append_getElem a,any_append]
   simp [a]
  refine B4<|Aq<|Ax<|Ak<|Ad O<|Ab O<|A0<|Ad O<|Ad O<|Ad O<|Aa (Bd AH O O ‹_› _ O (by omega)) O ?_
  refine Aa (Bi (BD _) O ‹_› (by omega)) O ?_
  refine Eb (p:=[]) (q:=[.pointer (some ⟨A,0,none⟩)]) O O O (Tq (l.getD i default) A m h d) ?_
  rintro _ _ ⟨rfl,rfl⟩
  refine Al<|An O ?_ ?_
  ·intro g
   refine Ak<|Ad O<|Ab O<|As<|Be<|Ay<|Ay<|Be<|Ay<|Am O O ?_
   refine ⟨⟨(i:Int),rfl, ?_⟩,rfl⟩
   have f:l.getD i default ∈ l:=HV a
   have:O0 m l=true:=by unfold O0;exact List.any_eq_true.2 ⟨_,f,g⟩
   rw [this,decide_eq_true (by omega)]
  intro g
  refine Cj<|Ba<|Ct<|Ce O (by omega)<|Ad O<|A9 ?_
  exact Az (Bw (i+1) ⟨rfl,rfl,rfl,rfl,trivial⟩ (⟨a,by rw [k,e,g];rfl,rfl⟩) (by omega))
 intro b
 have a:i=l.length:=by have:=AE b;omega
 subst a
 rw [take_length] at e
 refine Bu<|Av<|Av<|Bf<|Ci<|Ab O<|As<|Am O O ?_
 exact ⟨⟨-1,rfl,by rw [e];rfl⟩,rfl⟩
theorem SJ (v:Value) (l:List Int) (A m:Nat) (w:World) (c:BB (Value.int .i64) w v l) (a:AN w A 3 [.int .i64 (m:Int)]):AO prog 218 [v, .func (.func 219) #[] [.pointer (some ⟨A,0,none⟩)].toArray] w (fun r w' =>r= .bool (O0 m l)∧Below w.heap.size w w'):=by
 refine A5 (n:=9) func218 O<|Ak<|Ab O<|A0<|Ad O<|Ad O<|Ai O O (SI v l A m w c a) ?_
 rintro _ _ ⟨⟨j,rfl,b⟩,rfl⟩
 exact Aa (E4 rfl rfl) rfl<|Ab rfl<|As<|Am rfl rfl<|⟨cngA Value.bool b,Below.refl _ _⟩
theorem Rr (u:Value) (ps:List (Value×List Int)) (w:World) (a:BB (fun p:Value×List Int=>p.1) w u ps):AO prog 222 [u] w (fun r w' =>r=clip u∧Below w.heap.size w w'):=by
 refine A5 (n:=9) func222 O<|Ak<|Ab O<|A0<|Ad O<|Ad O<|Aa (Au BL O ‹_›) O ?_
 refine Ad O<|Aa (Au BL O ‹_›) O ?_
 exact Aa (Fl BL rfl rfl rfl a.shp) rfl<|Ab rfl<|As<|Am rfl rfl<|⟨rfl,Below.refl _ _⟩
theorem IS {k:BitVec 8} {r:List Int} (h:CN k=some r):KD (b8 k) (kv r)∧(∀v,KD (b8 k) v→v=kv r)∧r.length=6:=by
 unfold CN at h
 cases hf:Lb.find? (fun p=>decide (p.2.1=(k.toNat:Int))) with
 |none=>rw [hf] at h;cases h
 |some p=>
  rw [hf] at h
  obtain rfl:p.2.2=r:=by simpa using h
  have a:=mem_of_find?_eq_some hf
  have b:p.2.1=(k.toNat:Int):=by have:=find?_some hf;simpa using this
  have g:∀p ∈ Lb,∀q ∈ Lb,p.2.1=q.2.1→p=q:=by decide
  have c:∀p ∈ Lb,p.2.2.length=6:=by decide
  refine ⟨⟨p,a,by rw [b],rfl⟩,fun v ⟨q,d,f,e⟩=> ?_,c p a⟩
  have:(k.toNat:Int)=q.2.1:=by injection f
  rw [e,g p a q d (b.trans this)]
theorem MA {k:BitVec 8} (h:CN k=none):∀v,¬KD (b8 k) v:=fun v ⟨q,b,c,_⟩=>by
 unfold CN at h
 have a:Lb.find? (fun p=>decide (p.2.1=(k.toNat:Int)))=none:=by simpa using h
 have:=List.find?_eq_none.1 a q b
 have e:(k.toNat:Int)=q.2.1:=by injection c
 simp [e] at this
theorem Mx {l:List Int} (h:l.length=6):∃a b c d e f,l=[a,b,c,d,e,f]:=by
 match l,h with
 |[a,b,c,d,e,f],_=>exact ⟨a,b,c,d,e,f,rfl⟩
theorem FJ {w w' :World} {M:Nat} {d:TypeDesc} {S:Value→Value→Prop} {r:Option Nat} (h:BI w M d S) (g:w.grownBy w' r) (a:some M≠r):BI w' M d S:=by
 have b:=h.lt
 obtain ⟨f,c,h,e⟩:=h
 exact ⟨f,c,by rw [g.block M b a];exact h,e⟩
abbrev Ko:TypeId:=79
abbrev PJ:TypeId:=275
def Jr (B:Nat) (w:World) (u:Value) (ps:List (Value×List Int)):Prop:=∀p ∈ ps,BB (Value.int .i64) w p.1 p.2∧∀b,p.1.ownBlock=some b→(B≤b∧b<w.heap.size)∧u.ownBlock≠some b
theorem Jr.bs {B:Nat} {w w' :World} {u:Value} {ps:List (Value×List Int)} (h:Jr B w u ps) (g:Below w.heap.size w w'):Jr B w' u ps:=fun p a=>⟨(h p a).1.bs g,fun b e=>⟨⟨((h p a).2 b e).1.1,Nat.lt_of_lt_of_le ((h p a).2 b e).1.2 g.size⟩,((h p a).2 b e).2⟩⟩
theorem Jr.by {B A:Nat} {w w' :World} {u:Value} {ps:List (Value×List Int)} (h:Jr B w u ps) (g:w.grownBy w' (some A)) (f:A<B):Jr B w' u ps:=fun p a=>
 ⟨(h p a).1.keep (fun b c e=>g.block b c (fun d=>by have:=((h p a).2 b e).1.1;cases d;omega)),fun b e=>⟨⟨((h p a).2 b e).1.1,Nat.lt_of_lt_of_le ((h p a).2 b e).1.2 g.size⟩,((h p a).2 b e).2⟩⟩
theorem Jr.grow {B:Nat} {w w' :World} {u f:Value} {ps:List (Value×List Int)} (h:Jr B w u ps) (g:w.grownBy w' u.ownBlock) (c:f.ownBlock=u.ownBlock∨f.ownBlock=some w.heap.size):Jr B w' f ps:=fun p a=>
 ⟨(h p a).1.keep (fun b i e=>g.block b i (fun d=>((h p a).2 b e).2 d.symm)),fun b e=>⟨⟨((h p a).2 b e).1.1,Nat.lt_of_lt_of_le ((h p a).2 b e).1.2 g.size⟩,fun d=>by
  rcases c with c|c
  ·exact ((h p a).2 b e).2 (c ▸ d)
  ·rw [c] at d;have:=((h p a).2 b e).1.2;cases d;omega⟩⟩
theorem HR:∀(ls:List N5) (a c:List (List Int)),EG a ls=some c→∀x ∈ ls,DA x.k x.i x.s x.n x.p=true
 |[],_,_,_,x,b=>by cases b
 |y::ls,a,c,h,x,b=>by
  unfold EG at h
  cases e:La a y with
  |none=>rw [e] at h;cases h
  |some s=>
   rw [e] at h
   rcases List.mem_cons.1 b with rfl|b
   ·unfold La at e
    split at e
    ·rename_i d
     simp only [Bool.and_eq_true] at d
     exact d.1.1
    ·cases e
   ·exact HR ls _ _ h x b
theorem Ou {k:BitVec 8} {i s:List Int} {n p:Int} (h:DA k i s n p=true):∃a b c d e f,CN k=some [a,b,c,d,e,f]:=by
 unfold DA at h
 split at h
 ·rename_i a b c d e f g;exact ⟨a,b,c,d,e,f,g⟩
 ·cases h
set_option maxHeartbeats 1000000 in
theorem O5 (v:Value) (ls:List N5) (W:World) (h:GN W v ls):
  AO prog 135 [.agg [v].toArray] W (fun r w' =>Below W.heap.size W w' ∧match FF ls with
   |none=>r= .tuple #[.slice none 0 0, .int .i64 1]
   |some ss=>∃u ps,r= .tuple #[u, .int .i64 0]∧LI w' u ps∧AW ps=ss):=by
 obtain ⟨R,hR⟩:∃R,R=FF ls:=⟨_,rfl⟩
 rw [← hR]
 have o:=Below.refl W.heap.size W
 have L:=h.sl
 have hle:=h.sl.le
 refine A5 (n:=92) func135 O<|Ak<|Cv (cs:=[v]) O O O ?_
 rintro A_g w eA_g f hn -
 have o:=o.bs hn
 have L:=L.bs hn
 refine Ab O<|Ab O<|A0<|Bb underlying24 O (BY _)<|Aa (Ap (DF _) O ‹_› rfl) O ?_
 refine Aa (Au BV O ‹_›) O ?_
 refine Ab O<|Bc<|Ad O<|B9 O<|Ad O ?_
 refine Cc 19 O ?_ ?_
 ·intro g
  have g:=AF g
  refine Ae (dj:=19) O O O O<|Ae (dj:=19) O O O O<|Bv O<|Al<|B6 O<|Ak<|Ab O<|Ab O<|Bx<|Bz O O O ?_
  have hN:R=none:=by rw [hR,FF,if_pos (by omega)]
  rw [hN]
  exact ⟨o,rfl⟩
 intro g1
 have g1:=AE g1
 refine Aj (dj:=19) O O<|Ad O<|Aj (dj:=19) O O<|Aa (C6 O O) O<|Cl O<|Al<|An O ?_ ?_
 ·intro g
  have g:=AF g
  refine Ak<|Ab O<|Ab O<|Bx<|Bz O O O ?_
  have hN:R=none:=by rw [hR,FF,if_pos (by omega)]
  rw [hN]
  exact ⟨o,rfl⟩
 intro g2
 have g2:=AE g2
 have hgs:FF ls=match EG [] ls with|some ss=>if FA ls=1∧LF (ls.getD (ls.length - 1) default).k=true then some ss else none|none=>none:=by rw [FF,if_neg (by omega)]
 have hRn:EG [] ls=none→R=none:=fun e=>by rw [hR,hgs,e]
 have z1:=AA o
 have y_g:=BA f
 refine Cf<|Ai O O (Re w) ?_
 rintro _ w1 ⟨hn1,M,rfl,hMl,C⟩
 have yM:=C.lt
 have f:=f.bs hn1
 have o:=o.trans (hn1.mono z1)
 have z2:=hn1.size
 refine Aa (Bp (vs:=[]) (cs:=[.slice none 0 0]) O (by kernel_rfl)) O<|Ar (Dz S7) O ?_
 rintro _ w2 ⟨rfl,l,hn2,hz2⟩
 have f:=f.bs hn2
 have C:=C.bs hn2
 have o:=o.trans (hn2.mono (by omega))
 obtain ⟨A_t,hAt⟩:∃A_t,A_t=w1.heap.size:=⟨_,rfl⟩
 rw [← hAt] at l
 rw [← hAt]
 refine Ab O<|A7 (Cs (cs:=[.slice none 0 0]) (k:=1) (by kernel_rfl) O O O O l O) ?_
 rintro w3 ⟨l,hg3,hz3⟩
 have f:=f.by hg3 (by rintro ⟨⟩;omega)
 have C:=FJ C hg3 (by rintro ⟨⟩;omega)
 have o:=o.grown hg3 (by omega) (by rintro _ ⟨⟩;omega)
 obtain ⟨B,hBd⟩:∃B,B=w3.heap.size:=⟨_,rfl⟩
 have yB:A_g<B∧M<B∧A_t<B∧W.heap.size≤B:=by omega
 clear L
 have L:=h.sl.bs o
 refine Ab O<|Bc<|Bb underlying24 O (BY _)<|Aa (Ap (DF _) O ‹_› rfl) O ?_
 refine Aa (Au BV O ‹_›) O ?_
 refine Ad O<|Al<|Ax ?_
 refine B2 (S:=(Nat×Nat×Value×List (Value×List Int))) (fun z=>[(1, .pointer (some ⟨A_g,0,none⟩)),(4, .int .i64 (ls.length:Int)),(5, .map (some M)),(6, .pointer (some ⟨A_t,0,none⟩)),(7, .int .i64 (z.2.1:Int)),(26,v),(27, .int .i64 (ls.length:Int)),(28, .int .i64 (z.1:Int))]) (fun z w' =>z.1≤ls.length∧Below W.heap.size W w' ∧B≤w'.heap.size∧BI w' M (.int .u8) KD∧AN w' A_g 24 [v]∧AN w' A_t 273 [z.2.2.1]∧w'.ownsRow B 70 1 z.2.2.1 z.1 (z.2.2.2.map (·.1))∧Jr B w' z.2.2.1 z.2.2.2∧(∀p ∈ z.2.2.2,Shapes.ok p.2=true)∧EG (AW z.2.2.2) (ls.drop z.1)=EG [] ls∧z.2.1=FA (ls.take z.1)∧z.2.2.2.length=z.1∧z.2.1≤z.1) (fun z=>ls.length - z.1) ((0,0, .slice none 0 0,[])) ⟨rfl,rfl,rfl,rfl,rfl,rfl,rfl,rfl,trivial⟩ ?_ ?_
 ·exact ⟨Nat.zero_le _,o,by omega,C,f,l,⟨rfl, .inl ⟨rfl,rfl⟩⟩,(fun p hp=>by cases hp),(fun p hp=>by cases hp),rfl,rfl,rfl,AT _⟩
 clear f l C L
 rintro ⟨i,c,u,ps⟩ w4 ⟨hi,o,zB,C,f,l,m,d,hok,hrec,hc,lps,hci⟩
 dsimp only at hi o zB C f l m d hok hrec hc lps hci ⊢
 have L:=h.sl.bs o
 have z4:=AA o
 have ub:=AB m
 have lps2:(AW ps).length=ps.length:=length_map _
 refine Ak<|B9 O<|Al<|Aq<|An O ?_ ?_
 ·intro g
  have U:i<ls.length:=by have:=AF g;omega
  obtain ⟨x,Y⟩:∃x,x=ls[i]:=⟨_,rfl⟩
  have hx:=(h.each x (Y ▸ getElem_mem U)).bs o
  have hcl:=h.cells U
  rw [← Y] at hcl
  have ed:ls.drop i=x::ls.drop (i+1):=by rw [drop_eq_getElem_cons U,← Y]
  have hstep:EG [] ls=match La (AW ps) x with|some s=>EG (AW ps++[s]) (ls.drop (i+1))|none=>none:=by rw [← hrec,ed];rfl
  have hno:La (AW ps) x=none→R=none:=fun e=>hRn (by rw [hstep,e])
  refine B4<|Aq<|Ax<|Ak<|Ad O<|Aa (C5 BV O O L i O U) O<|Aa (D0 (cs:=x.cells) (GZ _) (GL _) O L O (by decide) hcl) O<|Ar (Dz DX) O ?_
  rintro _ w5 ⟨rfl,E,hn5,hz5⟩
  refine Ar (Dz GS) O ?_
  rintro _ w6 ⟨rfl,J,hn6,hz6⟩
  have E:=E.bs hn6
  obtain ⟨A_i,eAi⟩:∃A_i,A_i=w4.heap.size:=⟨_,rfl⟩
  obtain ⟨A_x,eAx⟩:∃A_x,A_x=w5.heap.size:=⟨_,rfl⟩
  rw [← eAi] at E
  rw [← eAx] at J
  rw [← eAi,← eAx]
  refine A7 (Ck (u:= .int .i64 (i:Int)) (BZ _) O O O E Nat.zero_lt_one) ?_
  rintro w7 ⟨E,hg7,hz7⟩
  have J:=J.by hg7 (by rintro ⟨⟩;omega)
  refine A7 (Cs (cs:=x.cells) (k:=5) (by kernel_rfl) O O O hx.ones J O) ?_
  rintro w8 ⟨J,hg8,hz8⟩
  have E:=E.by hg8 (by rintro ⟨⟩;omega)
  have E:AN w8 A_i 3 [.int .i64 (i:Int)]:=E
  have H:Below w4.heap.size w4 w8:=((hn5.trans (hn6.mono (by omega))).grown hg7 (by omega) (by rintro _ ⟨⟩;omega)).grown hg8 (by omega) (by rintro _ ⟨⟩;omega)
  clear L
  have o:=o.trans (H.mono z4)
  have C:=C.bs H
  have f:=f.bs H
  have l:=l.bs H
  have m:=AG m H
  have d:=d.bs H
  have hx:=hx.bs H
  have h_i:=hx.i
  have z8:=H.size
  cases Z:CN x.k with
  |none=>
   refine A0<|Ad O<|Bb underlying79 O (FH _)<|Aa (Ap (Ha _) O ‹_› rfl) O ?_
   refine Aa (Ex.look2n underlying270 BS O O O C (show Tryz.prog.info? PJ=some Tryz.t275 by kernel_rfl) O (MA Z)) O<|Ad O<|Aa (A3 (i:=0) O O) O<|Aa (A3 (i:=1) O O) O<|Ar (Dz GT) O ?_
   rintro _ w9 ⟨rfl,N,hn9,hz9⟩
   refine A7 (Cs (cs:=[0,0,0,0,0,0].map (Value.int .i64)) (k:=6) (by kernel_rfl) O O O O N O) ?_
   rintro w10 ⟨N,hg10,hz10⟩
   have o:=(o.trans (hn9.mono (by omega))).grown hg10 (by omega) (by rintro _ ⟨⟩;omega)
   refine Ab O<|Bc<|Ad O<|Aa (Cy O) O<|Ad O<|Co 42 (v' := .bool true) O (cngA Value.bool (rfl))<|Ae (dj:=42) O O O O<|Ae (dj:=42) O O O O<|Ae (dj:=42) O O O O<|Ae (dj:=42) O O O O<|Bv O<|Ad O<|Ae (dj:=48) O O O O<|Ae (dj:=48) O O O O<|Ae (dj:=48) O O O O<|Ae (dj:=48) O O O O<|Bv O<|Al<|B6 O<|Ak<|Ab O<|Ab O<|Bx<|Be<|Ay<|Ay<|Be<|Ay<|Bz O O O ?_
   have hN:R=none:=hno (by unfold La;rw [if_neg];unfold DA;rw [Z];simp)
   rw [hN]
   exact ⟨o,rfl⟩
  |some row=>
   obtain ⟨k1,k2,k6⟩:=IS Z
   obtain ⟨ra,rb,rc,rd,re,rf,rfl⟩:=Mx k6
   refine A0<|Ad O<|Bb underlying79 O (FH _)<|Aa (Ap (Ha _) O ‹_› rfl) O ?_
   refine Aa (Ex.look2 underlying270 BS O O O C ⟨_,_,(show Tryz.prog.info? PJ=some Tryz.t275 by kernel_rfl),rfl⟩ k1 k2) O<|Ad O<|Aa (A3 (i:=0) O O) O<|Aa (A3 (i:=1) O O) O<|Ar (Dz GT) O ?_
   rintro _ w9 ⟨rfl,N,hn9,hz9⟩
   refine A7 (Cs (cs:=[ra,rb,rc,rd,re,rf].map (Value.int .i64)) (k:=6) (by kernel_rfl) O O O O N O) ?_
   rintro w10 ⟨N,hg10,hz10⟩
   have t:Below w8.heap.size w8 w10:=hn9.grown hg10 hn9.size (by rintro _ ⟨⟩;omega)
   have o:=o.trans (t.mono (by omega))
   have C:=C.bs t
   have f:=f.bs t
   have l:=l.bs t
   have J:=J.bs t
   have E:=E.bs t
   have m:=AG m t
   have d:=d.bs t
   have hx:=hx.bs t
   have h_i:=hx.i
   have z10:=t.size
   refine Ab O<|Bc<|Ad O<|Aa (Cy O) O<|Ad O<|Co 42 (v' := .bool false) O (cngA Value.bool (rfl))<|Aj (dj:=42) O O<|Aa (Ch (k:=6) (DP _) (DK _) O O N) O<|Aj (dj:=42) O O<|Aa (Ch (k:=5) (GZ _) (GL _) O O J) O<|Aj (dj:=42) O O<|Ai O O (PK ra rb rc rd re rf x w10 hx) ?_
   rintro _ w11 ⟨rfl,A⟩
   have ekF:DA x.k x.i x.s x.n x.p=FL ra rb rc rd re rf x.i x.s x.n x.p:=by unfold DA;rw [Z]
   have o:=o.trans (A.mono (by omega))
   have C:=C.bs A
   have f:=f.bs A
   have l:=l.bs A
   have J:=J.bs A
   have E:=E.bs A
   have m:=AG m A
   have d:=d.bs A
   have hx:=hx.bs A
   have h_i:=hx.i
   have z11:=A.size
   rw [← ekF]
   refine Aj (dj:=42) O O<|Aa (Cy O) O<|Cl O<|Ad O ?_
   refine Cc 48 O ?_ ?_
   ·intro gk
    have gk:DA x.k x.i x.s x.n x.p=false:=by simpa using gk
    refine Ae (dj:=48) O O O O<|Ae (dj:=48) O O O O<|Ae (dj:=48) O O O O<|Ae (dj:=48) O O O O<|Bv O<|Al<|B6 O<|Ak<|Ab O<|Ab O<|Bx<|Be<|Ay<|Ay<|Be<|Ay<|Bz O O O ?_
    have hN:R=none:=hno (by unfold La;rw [gk];rfl)
    rw [hN]
    exact ⟨o,rfl⟩
   intro gk
   have gk:DA x.k x.i x.s x.n x.p=true:=by simpa using gk
   refine Aj (dj:=48) O O<|Bb underlying79 O (BK _)<|Aj (dj:=48) O O<|Aa (Ap (AV _) O ‹_› rfl) O ?_
   refine Aj (dj:=48) O O<|Aa (Er (vs:=[]) (us:=[.pointer (some ⟨A_i,0,none⟩)]) O O) O<|Aj (dj:=48) O O<|Ai O O (SJ x.x x.i A_i i w11 h_i E) ?_
   rintro _ w12 ⟨rfl,D⟩
   have o:=o.trans (D.mono (by omega))
   have C:=C.bs D
   have f:=f.bs D
   have l:=l.bs D
   have J:=J.bs D
   have m:=AG m D
   have d:=d.bs D
   have hx:=hx.bs D
   have z12:=D.size
   refine Cl O<|Al<|An O ?_ ?_
   ·intro gb
    refine Ak<|Ab O<|Ab O<|Bx<|Be<|Ay<|Ay<|Be<|Ay<|Bz O O O ?_
    have hN:R=none:=hno (by unfold La;rw [lps2,lps,gb,Bool.not_true,Bool.and_false];rfl)
    rw [hN]
    exact ⟨o,rfl⟩
   intro gb
   have hji:∀j ∈ x.i,0≤j∧j<(ps.length:Int):=fun j hj=>by
    unfold O0 at gb
    have:=List.any_eq_false.1 gb j hj
    simp at this
    omega
   have hps:LI w12 u ps:=⟨by have:=AM m;exact this,fun p hp=>(d p hp).1⟩
   refine B4<|Aq<|Ak<|Bb underlying79 O (FH _)<|Aa (Ap (Ha _) O ‹_› rfl) O ?_
   refine Aa (C8 O (show _=some (b8 (1#8)) from rfl)) O<|Al ?_
   refine D8 (St:=Nat) (fun c' =>[(1, .pointer (some ⟨A_g,0,none⟩)),(4, .int .i64 (ls.length:Int)),(5, .map (some M)),(6, .pointer (some ⟨A_t,0,none⟩)),(7, .int .i64 (c' :Int)),(9, .pointer (some ⟨A_x,0,none⟩)),(26,v),(27, .int .i64 (ls.length:Int)),(28, .int .i64 (i:Int))]) (fun c' w' =>w' =w12∧c' =c+(if x.k=1#8 then 1 else 0)) ?_ ?_
   ·refine An O ?_ ?_
    ·intro g1
     have g1:x.k=1#8:=AF g1
     refine A6<|Ad O<|Ce O (by omega)<|Ab O<|A9 ?_
     exact B5 ((c+1)) ⟨rfl,rfl,rfl,rfl,(cngA (fun z=>some (Value.int .i64 z)) (by omega)),rfl,rfl,rfl,rfl,trivial⟩ (⟨rfl,by rw [if_pos g1]⟩)
    intro g1
    have g1:¬x.k=1#8:=AE g1
    exact Cj<|B5 (c) ⟨rfl,rfl,rfl,rfl,rfl,rfl,rfl,rfl,rfl,trivial⟩ (⟨rfl,by rw [if_neg g1,Nat.add_zero]⟩)
   rintro c' w12 ⟨rfl,hc'⟩
   refine Ak<|Aa (Ch (GZ _) (GL _) O O ‹_›) O ?_
   refine Aa (Ch (SU _) (RX _) O O ‹_›) O ?_
   refine Aa (Er (vs:=[.agg [u].toArray]) (us:=[]) O O) O ?_
   have ub12:=AB m
   refine Ai O O (PY x u ps w12 hx hps gk hji hok) ?_
   rintro y w13 ⟨T,K,y_own⟩
   obtain ⟨G,hGd⟩:∃G,G=O7 x.k x.s x.n x.p (x.i.map fun j=>(AW ps).getD j.toNat []):=⟨_,rfl⟩
   have eG:O7 x.k x.s x.n x.p (x.i.map fun j=>(ps.getD j.toNat default).2)=G:=by
    rw [hGd]
    congr 1
    refine map_congr_left fun j hj=> ?_
    have:=hji j hj
    rw [getD_eq_getElem?_getD,getD_eq_getElem?_getD,getElem?_map,getElem?_eq_getElem (by omega)];rfl
   rw [eG] at T
   have o:=o.trans (K.mono (by omega))
   have C:=C.bs K
   have f:=f.bs K
   have l:=l.bs K
   have m:=AG m K
   have d:=d.bs K
   have z13:=K.size
   refine Ab O<|Bc<|Ad O<|Ai O O (DR y G w13 T) ?_
   rintro _ w14 ⟨rfl,I⟩
   have o:=o.trans (I.mono (by omega))
   have C:=C.bs I
   have f:=f.bs I
   have l:=l.bs I
   have m:=AG m I
   have d:=d.bs I
   have T:=T.bs I
   have z14:=I.size
   refine Aa (Cy O) O<|Al<|An O ?_ ?_
   ·intro go
    have go:Shapes.ok G=false:=by simpa using go
    refine Ak<|Ab O<|Ab O<|Bx<|Be<|Ay<|Ay<|Be<|Ay<|Bz O O O ?_
    have hN:R=none:=hno (by unfold La;rw [← hGd,go,Bool.and_false];rfl)
    rw [hN]
    exact ⟨o,rfl⟩
   intro go
   have go:Shapes.ok G=true:=by simpa using go
   have e_st:La (AW ps) x=some G:=by
    unfold La;rw [← hGd,go,gk,lps2,lps]
    have:O0 i x.i=false:=by simpa using gb
    rw [this];rfl
   refine B4<|A6<|Bb underlying273 O (Jf _)<|Aa (Ap (MU _) O ‹_› rfl) O ?_
   refine Ad O<|Ar (Cb (vs:=[y]) BL Nx O O O (by rw [all_cons,T.one'];rfl) O) O ?_
   rintro q w15 ⟨o_q, -,F, -⟩
   have o:=o.trans (F.mono (by omega))
   have C:=C.bs F
   have f:=f.bs F
   have l:=l.bs F
   have m:=AG m F
   have d:=d.bs F
   have T:=T.bs F
   have z15:=F.size
   have ub:=AB m
   refine Ar (B7 (base:=B) BL Nx O (by decide) O O m (AK o_q) (by rw [all_cons,T.one'];rfl) (by omega) (by omega) (by omega)) O ?_
   rintro u' w16 ⟨Q,hn16,X,hcs⟩
   have C:=FJ C X (fun e=>by have:=ub _ e.symm;omega)
   have f:=f.by X (fun e=>by have:=ub _ e.symm;omega)
   have l:=l.by X (fun e=>by have:=ub _ e.symm;omega)
   have hoff2:Jr B w15 u (ps++[(y,G)]):=fun p hp=>(List.mem_append.1 hp).elim (d p) (fun e=>by
    rw [List.mem_singleton.1 e]
    refine ⟨T,fun b e=> ?_⟩
    have h1:=y_own b e
    exact ⟨⟨by omega,by omega⟩,fun e2=>by have:=ub12 b e2;omega⟩)
   have d:=hoff2.grow X hcs
   have z16:=X.size
   have ub' :=AB Q
   have e1:ps.map (·.1)++[y]=(ps++[(y,G)]).map (·.1):=by rw [map_append];rfl
   rw [e1] at Q
   refine Bb underlying273 O (Jf _)<|A7 (Ck (u:=u') (Jf _) O O (AK Q).one' l Nat.zero_lt_one) ?_
   rintro w17 ⟨l,V,hz17⟩
   have C:=FJ C V (fun e=>by have:=Option.some.inj e;omega)
   have f:=f.by V (fun e=>by have:=Option.some.inj e;omega)
   have d:=d.by V (by omega)
   have Q:=AP Q (fun k e=>V.block k (ub' k e).2 (fun e2=>by have:=ub' k e;have:=Option.some.inj e2;omega))
   have hBF:=(o.trans (hn16.mono (by omega))).grown V (by have:=hn16.size;omega) (by rintro _ e;have:=Option.some.inj e;omega)
   have hok' :∀p ∈ ps++[(y,G)],Shapes.ok p.2=true:=fun p hp=>(List.mem_append.1 hp).elim (hok p) (fun e=>by rw [List.mem_singleton.1 e];exact go)
   have hrec' :EG (AW (ps++[(y,G)])) (ls.drop (i+1))=EG [] ls:=by
    rw [hstep,e_st]
    have:AW (ps++[(y,G)])=AW ps++[G]:=by unfold AW;rw [map_append];rfl
    rw [this]
   have hcc:c' =FA (ls.take (i+1)):=by
    rw [hc',hc,take_succ_eq_append_getElem U,← Y]
    unfold FA
    rw [filter_append,length_append]
    by_cases e:x.k=1#8
    ·rw [if_pos e,filter_cons,decide_eq_true e];rfl
    ·rw [if_neg e,filter_cons,decide_eq_false e];rfl
   have hci' :c' ≤i+1:=by rw [hc'];split<;>omega
   refine A9<|Ba<|Ct<|Ce O (by omega)<|Ad O<|A9 ?_
   exact Az (Bw ((i+1,c',u',ps++[(y,G)])) ⟨rfl,rfl,rfl,rfl,rfl,rfl,rfl,rfl,trivial⟩ (⟨U,hBF,by have:=hn16.size;omega,C,f,l,Q,d,hok',hrec',hcc,by rw [length_append,lps];rfl,hci'⟩) (by simp only;omega))
 intro g
 have U:i=ls.length:=by have:=AE g;omega
 subst U
 rw [drop_length] at hrec
 rw [take_length] at hc
 have hgr:EG [] ls=some (AW ps):=by rw [← hrec];rfl
 have hgf:R=if FA ls=1∧LF (ls.getD (ls.length - 1) default).k=true then some (AW ps) else none:=by rw [hR,hgs,hgr]
 obtain ⟨x,Y⟩:∃x,x=ls.getD (ls.length - 1) default:=⟨_,rfl⟩
 rw [← Y] at hgf
 have hl1:ls.length - 1<ls.length:=by omega
 have hxm:x=ls[ls.length - 1]:=by rw [Y,getD_eq_getElem?_getD,getElem?_eq_getElem hl1];rfl
 have hkx:=HR ls [] _ hgr x (hxm ▸ getElem_mem hl1)
 obtain ⟨ra,rb,rc,rd,re,rf,Z⟩:=Ou hkx
 obtain ⟨k1,k2, -⟩:=IS Z
 have hlast:LF x.k=decide (rb≠0):=by unfold LF;rw [Z];rfl
 have ad:∃ad c k,v= .slice (some ad) c k:=by
  obtain ⟨_,ao,cap,e,d1,d2,d3,_⟩:=h.sl
  cases ao with
  |none=>have:=d3 rfl;omega
  |some ad=>exact ⟨ad,_,_,e⟩
 have ck:(HY N5.cells ls)[(ls.length - 1)*5+0]? =some (b8 x.k):=by
  rw [KR (fun a _=>D4 a) hl1 (by decide),← hxm];rfl
 refine Bu<|Av<|Av<|Bf<|Az<|Cd<|Aq<|Ak<|Ad O<|Bb underlying24 O (BY _)<|Aa (Ap (DF _) O ‹_› rfl) O ?_
 refine Ad O<|Aa (Ex.as (D5 O O (by omega)) (cngA (Value.int .i64) (show (ls.length:Int) - 1=((ls.length - 1:Nat):Int) by omega))) O<|Aa (C5 BV O O L (ls.length - 1) O hl1) O<|Aa (Dp (q:=0) underlying79 O (FH _) O ad) O<|Aa (F0 (Ha _) O L ck) O<|Aa (Fg underlying270 BS O O O C ⟨_,_,(show Tryz.prog.info? PJ=some Tryz.t275 by kernel_rfl),rfl⟩ k1 k2) O<|Ar (Dz GT) O ?_
 rintro _ w5 ⟨rfl,N,hn5,hz5⟩
 have l:=l.bs hn5
 refine A7 (Cs (cs:=[ra,rb,rc,rd,re,rf].map (Value.int .i64)) (k:=6) (by kernel_rfl) O O O O N O) ?_
 rintro w6 ⟨N,hg6,hz6⟩
 have hn46:Below w4.heap.size w4 w6:=hn5.grown hg6 hn5.size (by rintro _ ⟨⟩;omega)
 have l:=l.by hg6 (by rintro ⟨⟩;omega)
 have o:=o.trans (hn46.mono z4)
 have m:=AG m hn46
 have d:=d.bs hn46
 refine A0<|Ad O<|Aa (Cz O O) O<|Ad O ?_
 refine Cc 84 O ?_ ?_
 ·intro gc
  have gc:¬FA ls=1:=fun e=>by rw [← hc] at e;subst e;simp at gc
  refine Ae (dj:=84) O O O O<|Ae (dj:=84) O O O O<|Ae (dj:=84) O O O O<|Bv O<|Al<|B6 O<|Ak<|Ab O<|Ab O<|Bx<|Bz O O O ?_
  rw [hgf,if_neg (fun h=>gc h.1)]
  exact ⟨o,rfl⟩
 intro gc
 have gc:FA ls=1:=by rw [← hc];simp at gc;omega
 refine Aj (dj:=84) O O<|Bb underlying275 O (BZ _)<|Aj (dj:=84) O O<|Aa (Ap (BD _) O N O) O<|Aj (dj:=84) O O<|Aa (Cn O O) O<|Cl O<|Al<|An O ?_ ?_
 ·intro gm
  have gm:rb=0:=AF gm
  refine Ak<|Ab O<|Ab O<|Bx<|Bz O O O ?_
  rw [hgf,if_neg (fun h=>by rw [hlast,gm] at h;simp at h)]
  exact ⟨o,rfl⟩
 intro gm
 have gm:rb≠0:=AE gm
 refine Cf<|Bb underlying273 O (Jf _)<|Aa (Ap (MU _) O ‹_› rfl) O ?_
 refine Ai O O (Rr u ps w6 (AM m)) ?_
 rintro _ w7 ⟨rfl,hn7⟩
 refine Ab O<|Ab O<|As<|Bz O O O ?_
 rw [hgf,if_pos ⟨gc,by rw [hlast];exact decide_eq_true gm⟩]
 exact ⟨o.trans (hn7.mono (AA o)),_,ps,rfl,⟨(Sl.clip (AM m)).bs hn7,fun p hp=>(d p hp).1.bs hn7⟩,rfl⟩
theorem HW (v:Value) (ls:List N5) (W:World) (h:GN W v ls):
  AO prog 33 [.agg [v].toArray] W (fun r w' =>Below W.heap.size W w' ∧r= .bool (FF ls).isSome):=by
 have a:=Below.refl W.heap.size W
 refine A5 (n:=12) func33 O<|Ak<|Cv (cs:=[v]) O O O ?_
 rintro f w d g j -
 have a:=a.bs j
 refine Ab O<|A0<|Aa (Ch (EX _) (BT _) O O ‹_›) O ?_
 refine Ai O O (O5 v ls w (h.bs a)) ?_
 rintro r k ⟨c,b⟩
 have a:=a.trans (c.mono (AA a))
 cases e:FF ls with
 |none=>
  rw [e] at b
  obtain rfl:=b
  exact Ad rfl<|Aa (A3 (i:=0) rfl rfl) rfl<|Aa (A3 (i:=1) rfl rfl) rfl<|Ab rfl<|Ab rfl<|A0<|Ad rfl<|Aa (Cn rfl rfl) rfl<|Ab rfl<|As<|Am rfl rfl<|⟨a,rfl⟩
 |some ss=>
  rw [e] at b
  obtain ⟨u,ps,rfl, -, -⟩:=b
  exact Ad rfl<|Aa (A3 (i:=0) rfl rfl) rfl<|Aa (A3 (i:=1) rfl rfl) rfl<|Ab rfl<|Ab rfl<|A0<|Ad rfl<|Aa (Cn rfl rfl) rfl<|Ab rfl<|As<|Am rfl rfl<|⟨a,rfl⟩
def CM (ls:List N5):List Int:=((List.range ls.length).filter fun i=>decide ((ls.getD i default).k=2#8)).map fun i:Nat=>(i:Int)
theorem NF (ls:List N5) (i:Nat) (b:i<ls.length):CM (ls.take (i+1))=CM (ls.take i)++(if (ls.getD i default).k=2#8 then [(i:Int)] else []):=by
 have a:∀m,m≤ls.length→CM (ls.take m)=((List.range m).filter fun i=>decide ((ls.getD i default).k=2#8)).map fun i:Nat=>(i:Int):=fun m d=>by
  unfold CM
  rw [length_take,Nat.min_eq_left d]
  congr 1
  refine filter_congr fun j c=> ?_
  have:=List.mem_range.1 c
  have:(ls.take m).getD j default=ls.getD j default:=by rw [getD_eq_getElem?_getD,getElem?_take,if_pos this,← getD_eq_getElem?_getD]
  rw [this]
 rw [a _ b,a _ (Nat.le_of_lt b),range_succ,filter_append,map_append]
 congr 1
 by_cases e:(ls.getD i default).k=2#8
 ·rw [if_pos e,filter_cons,decide_eq_true e];rfl
 ·rw [if_neg e,filter_cons,decide_eq_false e];rfl
theorem FY (v:Value) (ls:List N5) (W:World) (h:GN W v ls) (hm:ls.length≤1000000):
  AO prog 34 [.agg [v].toArray] W (fun r w' =>Below W.heap.size W w' ∧AS w' W.heap.size 3 1 r (CM ls).length ((CM ls).map (Value.int .i64))):=by
 have c:=Below.refl W.heap.size W
 have e:=h.sl
 refine A5 (n:=23) func34 O<|Ak<|Cv (cs:=[v]) O O O ?_
 rintro J w G E H -
 have c:=c.bs H
 have e:=e.bs H
 refine Ab O<|Bc<|Bb underlying24 O (BY _)<|Aa (Ap (DF _) O ‹_› rfl) O ?_
 refine Aa (Au BV O ‹_›) O ?_
 refine Ad O<|Al<|Ax ?_
 have Z:=AA c
 refine B2 (S:=(Nat×Value)) (fun z=>[(2,z.2),(6,v),(7, .int .i64 (ls.length:Int)),(8, .int .i64 (z.1:Int))]) (fun z w' =>z.1≤ls.length∧Below W.heap.size W w' ∧w'.ownsRow W.heap.size 3 1 z.2 (CM (ls.take z.1)).length ((CM (ls.take z.1)).map (Value.int .i64))) (fun z=>ls.length - z.1) ((0, .slice none 0 0)) ⟨rfl,rfl,rfl,rfl,trivial⟩ ?_ ?_
 ·exact ⟨Nat.zero_le _,c,⟨rfl, .inl ⟨rfl,rfl⟩⟩⟩
 clear E
 rintro ⟨i,u⟩ y ⟨N,c,a⟩
 dsimp only at N c a ⊢
 have e:=h.sl.bs c
 have F:=AA c
 refine Ak<|B9 O<|Al<|Aq<|An O ?_ ?_
 ·intro g
  have b:i<ls.length:=by have:=AF g;omega
  obtain ⟨x,o⟩:∃x,x=ls[i]:=⟨_,rfl⟩
  have B:ls.getD i default=x:=by rw [getD_eq_getElem?_getD,getElem?_eq_getElem b,o];rfl
  have Q:=(h.each x (o ▸ getElem_mem b)).bs c
  have t:=h.cells b
  rw [← o] at t
  have d:=NF ls i b
  rw [B] at d
  have X:(CM (ls.take i)).length≤i:=by
   unfold CM
   rw [length_map]
   refine Nat.le_trans (length_filter_le _ _) ?_
   rw [length_range,length_take];omega
  refine B4<|Aq<|Ax<|Ak<|Ad O<|Aa (C5 BV O O e i O b) O<|Aa (D0 (cs:=x.cells) (GZ _) (GL _) O e O (by decide) t) O<|Ar (Dz GS) O ?_
  rintro _ T ⟨rfl,s,f,M⟩
  refine Ab O<|A7 (Cs (cs:=x.cells) (k:=5) (by kernel_rfl) O O O Q.ones s O) ?_
  rintro I ⟨s,C,R⟩
  have j:Below y.heap.size y I:=f.grown C f.size (by rintro _ ⟨⟩;omega)
  have c:=c.trans (j.mono F)
  have a:=AG a j
  have Y:=j.size
  refine A0<|Bb underlying79 O (FH _)<|Aa (Ap (Ha _) O ‹_› rfl) O ?_
  refine Aa (C8 O (show _=some (b8 (2#8)) from rfl)) O<|Al<|An O ?_ ?_
  ·intro p
   have p:x.k=2#8:=AF p
   rw [if_pos p] at d
   refine A6<|Ad O<|Ad O<|Ar (Cb (vs:=[(i:Int)].map (Value.int .i64)) AH DX O O O O O) O ?_
   rintro q U ⟨D, -,m, -⟩
   have a:=AG a m
   have V:=m.size
   refine Ar (Dc (base:=W.heap.size) AH DX O (by decide) O O a (AK D) (BF (fun _=>rfl) _) (by omega) (by omega) (by omega)) O ?_
   rintro L w5 ⟨l,A, -⟩
   have K:(CM (ls.take i)).length+1=(CM (ls.take (i+1))).length:=by rw [d,length_append];rfl
   rw [← map_append,← d,K] at l
   refine Ab O<|A9<|Ba<|Ct<|Ce O (by omega)<|Ad O<|A9 ?_
   exact Az (Bw ((i+1,L)) ⟨rfl,rfl,rfl,rfl,trivial⟩ (⟨b,(c.trans (m.mono (by omega))).trans A,l⟩) (by simp only;omega))
  intro p
  have p:¬x.k=2#8:=AE p
  rw [if_neg p,append_nil] at d
  refine Cj<|Ba<|Ct<|Ce O (by omega)<|Ad O<|A9 ?_
  exact Az (Bw ((i+1,u)) ⟨rfl,rfl,rfl,rfl,trivial⟩ (⟨b,c,by rw [d];exact a⟩) (by simp only;omega))
 intro g
 have b:i=ls.length:=by have:=AE g;omega
 subst b
 rw [take_length] at a
 refine Bu<|Av<|Av<|Bf<|Ci<|Ad O<|Ai O O (JK u (CM ls) y (AM a)) ?_
 rintro _ T ⟨rfl,f⟩
 exact Ab rfl<|As<|Am rfl rfl<|⟨c.trans (f.mono F),(AS.clip a).bs f⟩
theorem MG (v:Value) (ls:List N5) (W:World) (h:GN W v ls) (a:ls.length≤1000000):
  AO prog 34 [.agg [v].toArray] W (fun r w' =>Below W.heap.size W w' ∧BB (Value.int .i64) w' r (CM ls)):=(FY v ls W h a).mono fun _ _ ⟨c,b⟩=>⟨c,b.slT⟩
end Go.Proofs.YtblbopcaflaldaaGreatDoor

namespace Go.Proofs.YtblbopcaflaldaaGreatDoor
open Go Go.Dd Go.RowKit List
set_option maxRecDepth 100000
abbrev PV:=List Int×List (BitVec 32)
def pv (t:T4):PV:=(t.s,t.l)
def JH (t:PV) (s:List Int):Bool:=Mi t.1 t.2 && decide (t.1=s)
def NC:List PV→List N5→Bool
 |_,[]=>true
 |[],_::_=>false
 |t::ts,x::xs=>JH t x.s && NC ts xs
abbrev F2 (ls:List N5):List N5:=ls.filter fun a=>decide (a.k=2#8)
theorem Ja (ls:List N5):(CM ls).map (fun j=>ls.getD j.toNat default)=F2 ls:=by
 unfold CM
 rw [map_map]
 have e:ls=(List.range ls.length).map fun i=>ls.getD i default:=by
  refine ext_getElem (by simp) fun i a c=> ?_
  simp [a]
 conv=>rhs;unfold F2;rw [e,filter_map]
 have b:((fun j:Int=>ls.getD j.toNat default)∘fun i:Nat=>(i:Int))=fun i=>ls.getD i default:=by funext i;simp
 rw [b];rfl
theorem Mm {ls:List N5} {j:Nat} (a:j<(CM ls).length):∃i:Nat,i<ls.length∧(CM ls).getD j default=(i:Int)∧∃b:j<(F2 ls).length,(F2 ls)[j]=ls.getD i default:=by
 have d:(CM ls)[j] ∈ CM ls:=getElem_mem a
 obtain ⟨i,c,e⟩:=List.mem_map.1 (show (CM ls)[j] ∈ ((List.range ls.length).filter fun i=>decide ((ls.getD i default).k=2#8)).map fun i:Nat=>(i:Int) from d)
 have c:=List.mem_range.1 (List.mem_filter.1 c).1
 have b:j<(F2 ls).length:=by rw [← Ja,length_map];exact a
 refine ⟨i,c,by rw [getD_eq_getElem?_getD,getElem?_eq_getElem a];exact e.symm,b, ?_⟩
 have:(F2 ls)[j]? =some (ls.getD i default):=by
  rw [← Ja,getElem?_map,getElem?_eq_getElem a,← e];simp
 rw [getElem?_eq_getElem b] at this
 exact Option.some.inj this
theorem FG:∀{ws:List PV} {xs:List N5},ws.length=xs.length→(NC ws xs=true↔∀i (h:i<xs.length),JH (ws.getD i ([],[])) xs[i].s=true)
 |[],[],_=>⟨fun _ i h=>absurd h (by simp),fun _=>rfl⟩
 |t::ws,x::xs,hl=>by
  have b:=FG (ws:=ws) (xs:=xs) (by simpa using hl)
  show (JH t x.s && NC ws xs)=true↔_
  rw [Bool.and_eq_true,b]
  constructor
  ·rintro ⟨d,c⟩ i a
   cases i with
   |zero=>exact d
   |succ i=>exact c i (by simpa using a)
  ·intro h
   exact ⟨h 0 (by simp),fun i a=>h (i+1) (by simpa using a)⟩
theorem KO {ls:List N5} {a:List (List Int)} (h:FF ls=some a):ls.length≤32:=by
 unfold FF at h
 split at h
 ·cases h
 ·omega
end Go.Proofs.YtblbopcaflaldaaGreatDoor

namespace Go.Proofs.YtblbopcaflaldaaGreatDoor
open Go Go.Dd Go.RowKit List Go.Proofs.Tryz
set_option maxRecDepth 100000
def gf (l:List (BitVec 8)):BitVec 32:=Q6 (l.getD 0 default) (l.getD 1 default) (l.getD 2 default) (l.getD 3 default)
theorem N1 {l:List (BitVec 8)} (h:4≤l.length):nums l=gf l::nums (l.drop 4):=by
 have:=NZ l 0 (by omega)
 simpa [gf] using this
theorem Qd (v:Value) (l:List (BitVec 8)) (w:World) (c:BB b8 w v l) (d:4≤l.length):AO prog 153 [v] w (fun r w' =>r=u32 (gf l)∧Below w.heap.size w w'):=by
 refine A5 (n:=25) func153 O<|Ak<|Aa (Bq (show _=some (u32 (0#32)) from rfl)) O<|Al<|Aq<|Dv mixed (by kernel_rfl)<|B8 O<|A4 (fun b a=>Bd AL O O (Sl.bs ‹_› a) 0 O (by omega)) O ?_
 refine A4 (fun b a=>Bi (KY _) O (Sl.bs ‹_› a) (by omega)) O ?_
 refine A4 (fun b a=>Eg NL I7 O) O<|B8 O<|A4 (fun b a=>Bd AL O O (Sl.bs ‹_› a) 1 O (by omega)) O ?_
 refine A4 (fun b a=>Bi (KY _) O (Sl.bs ‹_› a) (by omega)) O ?_
 refine A4 (fun b a=>Eg NL I7 O) O<|A4 (fun b a=>Fz (j:=8) O O (by decide)) O<|A4 (fun b a=>Gl O O) O<|B8 O<|A4 (fun b a=>Bd AL O O (Sl.bs ‹_› a) 2 O (by omega)) O ?_
 refine A4 (fun b a=>Bi (KY _) O (Sl.bs ‹_› a) (by omega)) O ?_
 refine A4 (fun b a=>Eg NL I7 O) O<|A4 (fun b a=>Fz (j:=16) O O (by decide)) O<|A4 (fun b a=>Gl O O) O<|B8 O<|A4 (fun b a=>Bd AL O O (Sl.bs ‹_› a) 3 O (by omega)) O ?_
 refine A4 (fun b a=>Bi (KY _) O (Sl.bs ‹_› a) (by omega)) O ?_
 refine A4 (fun b a=>Eg NL I7 O) O<|A4 (fun b a=>Fz (j:=24) O O (by decide)) O<|A4 (fun b a=>Gl O O) O<|Ek O ?_
 refine Di (fun b a=> ?_)
 exact Az<|Cd<|Et<|Am rfl rfl<|⟨rfl,a⟩
theorem Kv (v:Value) (l:List (BitVec 8)) (w:World) (b:BB b8 w v l):AO prog 49 [v] w (fun r w' =>r= .tuple #[u32 (if l.length<4 then 0#32 else gf l), .int .i64 (if l.length<4 then 5 else 0)]∧Below w.heap.size w w'):=by
 refine A5 (n:=9) func49 O<|Ak<|Aa (Bq (show _=some (u32 (0#32)) from rfl)) O<|Ab O<|Bc<|Ad O<|Aa (Au AL O ‹_›) O ?_
 refine B9 O<|Al<|An O ?_ ?_
 ·intro g
  have a:l.length<4:=by have:=AF g;omega
  exact Ak<|Aa (Bq (show _=some (u32 (0#32)) from rfl)) rfl<|Ab rfl<|Bx<|Bz rfl rfl rfl<|⟨by rw [if_pos a,if_pos a],Below.refl _ _⟩
 intro g
 have a:¬l.length<4:=by have:=AE g;omega
 refine Cf<|Ad O<|Ai O O (Qd v l w b (by omega)) ?_
 rintro _ d ⟨rfl,c⟩
 exact Ab rfl<|Ab rfl<|As<|Bz rfl rfl rfl<|⟨by rw [if_neg a,if_neg a],c⟩
theorem MI (k:Nat) (w:World) (f:k≤16777216):AO prog 228 [.slice none 0 0, .int .i64 (k:Int)] w (fun r w' =>w'.ownsRow w.heap.size 82 1 r 0 []∧Below w.heap.size w w'):=by
 have a:=Cx w 1
 refine A5 (n:=27) func228 O<|Ak<|Ab O<|Bc<|Ad O<|B9 O<|Al<|Cq O false (by simp)<|B4<|Aq<|Ak<|Ad O<|Ad O<|Aa (E1 CO O) O<|Ad O<|Aa (Au CO O ‹_›) O ?_
 refine Aa (D5 O O (by omega)) O<|Aa (D5 O O (by omega)) O<|Ab O<|A0<|Ad O<|Aa (C6 O O) O<|Al<|An O ?_ ?_
 ·intro g
  have d:0<k:=by have:=AF g;omega
  refine A6<|Ad O<|Ad O<|Aa (E1 CO O) O<|Aa (Ex.as (u:= .slice none 0 0) (Es (j:=0) CO O O a (AT 0)) O) O<|Aa (Ex.as (u:= .int .i64 (k:Int)) (Bt O) (cngA (Value.int .i64) (by omega))) O<|Ar (Gn (tn:=3) (kn:= .i64) CO LJ O (by decide) H2 O O d (by omega) (by omega)) O ?_
  rintro v b ⟨cap,xs,rfl,c,e⟩
  have a:=Cx b 1
  refine Ad O<|Aa (Au CO O ‹_›) O ?_
  exact Aa (Ex.extH (j:=0) CO rfl rfl (Nat.zero_le cap)) rfl<|Ab rfl<|A0<|Ad rfl<|Ab rfl<|As<|Am rfl rfl<|⟨Hj (k:=0) (m:=k) (xs:=[]) (by simpa using c) rfl,e⟩
 ·intro g
  exact Cf<|Ad rfl<|Ab rfl<|As<|Am rfl rfl<|⟨⟨rfl, .inl ⟨rfl,rfl⟩⟩,Below.refl _ _⟩
theorem Ma (v:Value) (ps:List (Value×List (BitVec 32))) (w:World) (m:BB (fun p:Value×List (BitVec 32)=>p.1) w v ps) (y:∀p ∈ ps,BB (u32) w p.1 p.2) (s:(ps.map (·.2)).flatten.length≤16777216):
  AO prog 145 [v] w (fun r w' =>w'.ownsRow w.heap.size 82 1 r (ps.map (·.2)).flatten.length ((ps.map (·.2)).flatten.map (u32))∧Below w.heap.size w w'):=by
 have A:=m.le
 have c:∀i,i<ps.length→BB (u32) w (ps.getD i default).1 (ps.getD i default).2:=fun i l=>y _ (HV l)
 refine A5 (n:=36) func145 O<|Ak<|Ab O<|A0<|Ab O<|Bc<|Ad O<|Aa (Au Jh O ‹_›) O ?_
 refine Ad O<|Al<|Ax ?_
 refine B2 (S:=Nat) (fun i=>[(0,v),(3, .int .i64 ((((ps.take i).map (·.2)).flatten.length:Nat):Int)),(9,v),(10, .int .i64 (ps.length:Int)),(11, .int .i64 (i:Int))]) (fun i w' =>i≤ps.length∧w' =w) (fun i=>ps.length - i) (0) ⟨rfl,rfl,rfl,rfl,rfl,trivial⟩ ?_ ?_
 ·exact ⟨by omega,rfl⟩
 rintro i e ⟨l,rfl⟩
 refine Ak<|B9 O<|Al<|Aq<|An O ?_ ?_
 ·intro h
  have a:i<ps.length:=by simp at h;omega
  have q:=c i a
  have t:=KW (ps:=ps) (i+1)
  have j:=Ie a
  have k:=cngA length j
  rw [length_append] at k
  refine B4<|Aq<|Ax<|Ak<|Aa (Bd Jh O O ‹_› _ O (by omega)) O ?_
  refine Aa (Bi (Qz _) O ‹_› (by omega)) O ?_
  refine Ab O<|A0<|Ad O<|Ad O<|Aa (Au CO O ‹_›) O ?_
  refine Ce O (by omega)<|Ab O<|A0<|Ad O<|B9 O<|Al<|Cq O false (by simp;omega)<|Cj<|Ba<|Ct<|Ce O (by omega)<|Ad O<|A9 ?_
  exact Az (Bw (i+1) ⟨rfl,(cngA (fun x=>some (Value.int .i64 x)) (by omega)),rfl,rfl,rfl,trivial⟩ (⟨a,rfl⟩) (by omega))
 intro h
 have a:i=ps.length:=by simp at h;omega
 subst a
 rw [take_length]
 refine Bu<|Av<|Av<|Bf<|Ci<|Ad O<|Ai O O (MI _ e s) ?_
 rintro x B ⟨d,b⟩
 have g:=m.bs b
 refine Ab O<|Bc<|Ad O<|Aa (Au Jh O ‹_›) O ?_
 refine Ad O<|Al<|Ax ?_
 refine B2 (S:=(Nat×Value)) (fun z=>[(0,v),(6,z.2),(25,v),(26, .int .i64 (ps.length:Int)),(27, .int .i64 (z.1:Int))]) (fun z w' =>z.1≤ps.length∧w'.ownsRow e.heap.size 82 1 z.2 ((ps.take z.1).map (·.2)).flatten.length (((ps.take z.1).map (·.2)).flatten.map (u32))∧Below e.heap.size e w') (fun z=>ps.length - z.1) ((0,x)) ⟨rfl,rfl,rfl,rfl,rfl,trivial⟩ ?_ ?_
 ·exact ⟨Nat.zero_le _,by simpa using d,b⟩
 clear d b g
 rintro ⟨i,x⟩ B ⟨l,d,b⟩
 dsimp only at l d ⊢
 have g:=m.bs b
 refine Ak<|B9 O<|Al<|Aq<|An O ?_ ?_
 ·intro h
  have a:i<ps.length:=by simp at h;omega
  have q:=(c i a).bs b
  have t:=KW (ps:=ps) (i+1)
  have j:=Ie a
  have k:=cngA length j
  rw [length_append] at k
  refine B4<|Aq<|Ax<|Ak<|Aa (Bd Jh O O ‹_› _ O (by omega)) O ?_
  refine Aa (Bi (Qz _) O ‹_› (by omega)) O ?_
  refine Ab O<|Al<|A6<|Ad O<|Ad O<|Ar (Dc (base:=e.heap.size) CO LJ O (by decide) O O d q (BF (fun _=>rfl) _) (by omega) (by omega) b.size) O ?_
  rintro u C ⟨f,o, -⟩
  rw [← map_append,← j,← k] at f
  refine Ab O<|A9<|Ba<|Ct<|Ce O (by omega)<|Ad O<|A9 ?_
  exact Az (Bw ((i+1,u)) ⟨rfl,rfl,rfl,rfl,rfl,trivial⟩ (⟨a,f,b.trans o⟩) (by simp only;omega))
 intro h
 have a:i=ps.length:=by simp at h;omega
 subst a
 rw [take_length] at d
 exact Bu<|Av<|Av<|Bf<|Ci<|Ad rfl<|Ab rfl<|As<|Am rfl rfl<|⟨d,b⟩
theorem OA (k:Nat) (w:World) (f:k≤16777216):AO prog 160 [.slice none 0 0, .int .i64 (k:Int)] w (fun r w' =>w'.ownsRow w.heap.size 5 1 r 0 []∧Below w.heap.size w w'):=by
 have a:=Cx w 1
 refine A5 (n:=27) func160 O<|Ak<|Ab O<|Bc<|Ad O<|B9 O<|Al<|Cq O false (by simp)<|B4<|Aq<|Ak<|Ad O<|Ad O<|Aa (E1 AL O) O<|Ad O<|Aa (Au AL O ‹_›) O ?_
 refine Aa (D5 O O (by omega)) O<|Aa (D5 O O (by omega)) O<|Ab O<|A0<|Ad O<|Aa (C6 O O) O<|Al<|An O ?_ ?_
 ·intro g
  have d:0<k:=by have:=AF g;omega
  refine A6<|Ad O<|Ad O<|Aa (E1 AL O) O<|Aa (Ex.as (u:= .slice none 0 0) (Es (j:=0) AL O O a (AT 0)) O) O<|Aa (Ex.as (u:= .int .i64 (k:Int)) (Bt O) (cngA (Value.int .i64) (by omega))) O<|Ar (Gn (tn:=3) (kn:= .i64) AL CT O (by decide) H2 O O d (by omega) (by omega)) O ?_
  rintro v b ⟨cap,xs,rfl,c,e⟩
  have a:=Cx b 1
  refine Ad O<|Aa (Au AL O ‹_›) O ?_
  exact Aa (Ex.extH (j:=0) AL rfl rfl (Nat.zero_le cap)) rfl<|Ab rfl<|A0<|Ad rfl<|Ab rfl<|As<|Am rfl rfl<|⟨Hj (k:=0) (m:=k) (xs:=[]) (by simpa using c) rfl,e⟩
 ·intro g
  exact Cf<|Ad rfl<|Ab rfl<|As<|Am rfl rfl<|⟨⟨rfl, .inl ⟨rfl,rfl⟩⟩,Below.refl _ _⟩
theorem MP (v:Value) (ps:List (Value×List (BitVec 8))) (w:World) (m:BB (fun p:Value×List (BitVec 8)=>p.1) w v ps) (y:∀p ∈ ps,BB (b8) w p.1 p.2) (s:(ps.map (·.2)).flatten.length≤16777216):
  AO prog 56 [v] w (fun r w' =>w'.ownsRow w.heap.size 5 1 r (ps.map (·.2)).flatten.length ((ps.map (·.2)).flatten.map (b8))∧Below w.heap.size w w'):=by
 have A:=m.le
 have c:∀i,i<ps.length→BB (b8) w (ps.getD i default).1 (ps.getD i default).2:=fun i l=>y _ (HV l)
 refine A5 (n:=36) func56 O<|Ak<|Ab O<|A0<|Ab O<|Bc<|Ad O<|Aa (Au EY O ‹_›) O ?_
 refine Ad O<|Al<|Ax ?_
 refine B2 (S:=Nat) (fun i=>[(0,v),(3, .int .i64 ((((ps.take i).map (·.2)).flatten.length:Nat):Int)),(9,v),(10, .int .i64 (ps.length:Int)),(11, .int .i64 (i:Int))]) (fun i w' =>i≤ps.length∧w' =w) (fun i=>ps.length - i) (0) ⟨rfl,rfl,rfl,rfl,rfl,trivial⟩ ?_ ?_
 ·exact ⟨by omega,rfl⟩
 rintro i e ⟨l,rfl⟩
 refine Ak<|B9 O<|Al<|Aq<|An O ?_ ?_
 ·intro h
  have a:i<ps.length:=by simp at h;omega
  have q:=c i a
  have t:=KW (ps:=ps) (i+1)
  have j:=Ie a
  have k:=cngA length j
  rw [length_append] at k
  refine B4<|Aq<|Ax<|Ak<|Aa (Bd EY O O ‹_› _ O (by omega)) O ?_
  refine Aa (Bi (Hy _) O ‹_› (by omega)) O ?_
  refine Ab O<|A0<|Ad O<|Ad O<|Aa (Au AL O ‹_›) O ?_
  refine Ce O (by omega)<|Ab O<|A0<|Ad O<|B9 O<|Al<|Cq O false (by simp;omega)<|Cj<|Ba<|Ct<|Ce O (by omega)<|Ad O<|A9 ?_
  exact Az (Bw (i+1) ⟨rfl,(cngA (fun x=>some (Value.int .i64 x)) (by omega)),rfl,rfl,rfl,trivial⟩ (⟨a,rfl⟩) (by omega))
 intro h
 have a:i=ps.length:=by simp at h;omega
 subst a
 rw [take_length]
 refine Bu<|Av<|Av<|Bf<|Ci<|Ad O<|Ai O O (OA _ e s) ?_
 rintro x B ⟨d,b⟩
 have g:=m.bs b
 refine Ab O<|Bc<|Ad O<|Aa (Au EY O ‹_›) O ?_
 refine Ad O<|Al<|Ax ?_
 refine B2 (S:=(Nat×Value)) (fun z=>[(0,v),(6,z.2),(25,v),(26, .int .i64 (ps.length:Int)),(27, .int .i64 (z.1:Int))]) (fun z w' =>z.1≤ps.length∧w'.ownsRow e.heap.size 5 1 z.2 ((ps.take z.1).map (·.2)).flatten.length (((ps.take z.1).map (·.2)).flatten.map (b8))∧Below e.heap.size e w') (fun z=>ps.length - z.1) ((0,x)) ⟨rfl,rfl,rfl,rfl,rfl,trivial⟩ ?_ ?_
 ·exact ⟨Nat.zero_le _,by simpa using d,b⟩
 clear d b g
 rintro ⟨i,x⟩ B ⟨l,d,b⟩
 dsimp only at l d ⊢
 have g:=m.bs b
 refine Ak<|B9 O<|Al<|Aq<|An O ?_ ?_
 ·intro h
  have a:i<ps.length:=by simp at h;omega
  have q:=(c i a).bs b
  have t:=KW (ps:=ps) (i+1)
  have j:=Ie a
  have k:=cngA length j
  rw [length_append] at k
  refine B4<|Aq<|Ax<|Ak<|Aa (Bd EY O O ‹_› _ O (by omega)) O ?_
  refine Aa (Bi (Hy _) O ‹_› (by omega)) O ?_
  refine Ab O<|Al<|A6<|Ad O<|Ad O<|Ar (Dc (base:=e.heap.size) AL CT O (by decide) O O d q (BF (fun _=>rfl) _) (by omega) (by omega) b.size) O ?_
  rintro u C ⟨f,o, -⟩
  rw [← map_append,← j,← k] at f
  refine Ab O<|A9<|Ba<|Ct<|Ce O (by omega)<|Ad O<|A9 ?_
  exact Az (Bw ((i+1,u)) ⟨rfl,rfl,rfl,rfl,rfl,trivial⟩ (⟨a,f,b.trans o⟩) (by simp only;omega))
 intro h
 have a:i=ps.length:=by simp at h;omega
 subst a
 rw [take_length] at d
 exact Bu<|Av<|Av<|Bf<|Ci<|Ad rfl<|Ab rfl<|As<|Am rfl rfl<|⟨d,b⟩
theorem NM (x:BitVec 32) (w:World):AO prog 147 [i32 x] w (fun r w' =>r=u32 x∧Below w.heap.size w w'):=by
 exact A5 (n:=5) func147 rfl<|Ak<|Aa (Bq (show _=some (u32 (0#32)) from rfl)) rfl<|A0<|Ad rfl<|Aa (F7 Ti I7 rfl) rfl<|Ab rfl<|As<|Am rfl rfl<|⟨rfl,Below.refl _ _⟩
theorem Rx (v:Value) (l:List (BitVec 32)) (w:World) (o:BB i32 w v l) (B:l.length≤4194304):
  AO prog 146 [v, .func (.func 147) #[] #[]] w (fun r w' =>w'.ownsRow w.heap.size 82 1 r l.length (l.map u32)∧Below w.heap.size w w'):=by
 have y:=o.le
 refine A5 (n:=26) func146 O<|Ak<|Ab O<|A0<|Ad O<|Aa (Au DY O ‹_›) O ?_
 refine Ar (Fu CO LJ O O O (AT _) (by omega) (by omega)) O ?_
 rintro x q ⟨a, -,d, -⟩
 have g:=o.bs d
 obtain ⟨z,s⟩:∃z,z=replicate l.length 0#32:=⟨_,rfl⟩
 have k:l.length=z.length:=by rw [s,length_replicate]
 have t:(replicate l.length [Value.int .u32 0]).flatten=z.map u32:=by rw [s];exact HG (enc:=u32) (z:=0#32) l.length
 rw [t] at a
 refine Ab O<|Bc<|Ad O<|Aa (Au DY O ‹_›) O ?_
 refine Ad O<|Al<|Ax ?_
 refine B2 (S:=Nat) (fun i=>[(1, .func (.func 147) #[] #[]),(5,x),(11,v),(12, .int .i64 (l.length:Int)),(13, .int .i64 (i:Int))]) (fun i w' =>i≤l.length∧w'.ownsRow w.heap.size 82 1 x l.length ((l.take i++z.drop i).map u32)∧Below w.heap.size w w') (fun i=>l.length - i) (0) ⟨rfl,rfl,rfl,rfl,rfl,trivial⟩ ?_ ?_
 ·exact ⟨by omega,by rw [Ni];exact a,d⟩
 clear a d g
 rintro i q ⟨C,a,d⟩
 have g:=o.bs d
 refine Ak<|B9 O<|Al<|Aq<|An O ?_ ?_
 ·intro h
  have c:i<l.length:=by simp at h;omega
  refine B4<|Aq<|Ax<|Ak<|Ad O<|Aa (Bd DY O O ‹_› _ O (by omega)) O ?_
  refine Aa (Bi (Qx _) O ‹_› (by omega)) O ?_
  refine Ab O<|Ab O<|Al<|A6<|Ad O<|Ad O<|Ad O<|Ad O<|Eb (p:=[]) O O O (NM (l.getD i default) q) ?_
  rintro _ D ⟨rfl,f⟩
  have a:=AG a f
  have m:=(AK a).shp
  refine Aa (Fv CO O O m i O c) O<|A7 (G4 (Nj _) O O O a (by simp;omega)) ?_
  rintro A ⟨j,u, -⟩
  rw [← map_set,Pb k (by omega)] at j
  refine A9<|Ba<|Ct<|Ce O (by omega)<|Ad O<|A9 ?_
  exact Az (Bw (i+1) ⟨rfl,rfl,rfl,rfl,rfl,trivial⟩ (⟨c,j,(bt d f).grown u (AA (bt d f)) fun b e=>(AB a b e).1⟩) (by omega))
 intro h
 have c:i=l.length:=by simp at h;omega
 subst c
 rw [k,Pc k,← k] at a
 exact Bu<|Av<|Av<|Bf<|Ci<|Ad rfl<|Ab rfl<|As<|Am rfl rfl<|⟨a,d⟩
theorem R4 (v u:Value) (lb:List (BitVec 8)) (l:List (BitVec 32)) (w:World) (I:BB b8 w v lb) (p:BB u32 w u l) (L:lb.length+4*l.length≤16777216):
  AO prog 144 [v,u] w (fun r w' =>w'.ownsRow w.heap.size 5 1 r (lb++BQ l).length ((lb++BQ l).map b8)∧Below w.heap.size w w'):=by
 refine A5 (n:=42) func144 O<|Ak<|Ab O<|A0<|Ad O<|Aa (Au AL O ‹_›) O ?_
 refine Ad O<|Aa (Au AL O ‹_›) O ?_
 refine Ad O<|Aa (Au CO O ‹_›) O ?_
 refine Aa (Ew O O (by omega)) O<|Aa (Ex.as (u:= .int .i64 ((lb.length+4*l.length:Nat):Int)) (Eh O O (by omega)) (cngA (Value.int .i64) (by omega))) O<|Ar (Fu AL CT O O O (by omega) (by omega) (by omega)) O ?_
 rintro x C ⟨d, -,f, -⟩
 have k:=I.bs f
 refine Ab O<|A0<|Ad O<|Ad O<|Ar (Xw.copy AL O O O d k (AT _) (BF (fun _=>rfl) _)) O ?_
 rintro _ A ⟨rfl,g,s, -⟩
 have B:(replicate lb.length [Value.int .u8 0]).flatten.drop lb.length=[]:=by
  rw [HG (enc:=Value.int .u8) (z:=0)];simp
 rw [B,append_nil] at g
 have a:Below w.heap.size w A:=f.grown s (AA f) fun b e=>(AB d b e).1
 clear d f k s
 have o:=p.bs a
 refine Bc<|Ad O<|Aa (Au CO O ‹_›) O ?_
 refine Ad O<|Al<|Ax ?_
 refine B2 (S:=(Nat×Value)) (fun z=>[(1,u),(5,z.2),(20,u),(21, .int .i64 (l.length:Int)),(22, .int .i64 (z.1:Int))]) (fun z w' =>z.1≤l.length∧w'.ownsRow w.heap.size 5 1 z.2 (lb++BQ (l.take z.1)).length ((lb++BQ (l.take z.1)).map b8)∧Below w.heap.size w w') (fun z=>l.length - z.1) ((0,x)) ⟨rfl,rfl,rfl,rfl,rfl,trivial⟩ ?_ ?_
 ·exact ⟨Nat.zero_le _,by simpa [BQ] using g,a⟩
 clear g a o
 rintro ⟨i,x⟩ C ⟨H,d,f⟩
 dsimp only at H d ⊢
 have D:=p.bs f
 have J:=p.le
 refine Ak<|B9 O<|Al<|Aq<|An O ?_ ?_
 ·intro h
  have c:i<l.length:=by simp at h;omega
  have t:(lb++BQ (l.take i))++Crc.four (l.getD i default)=lb++BQ (l.take (i+1)):=by
   rw [take_succ_eq_append_getElem c,KQ,append_assoc]
   simp [BQ,c]
  have F:(lb++BQ (l.take i)).length+4=(lb++BQ (l.take (i+1))).length:=by
   have:=cngA length t
   simp [Crc.four] at this ⊢
   omega
  have M:(lb++BQ (l.take (i+1))).length≤16777216:=by rw [length_append,DN,length_take];omega
  refine B4<|Aq<|Ax<|Ak<|Aa (Bd CO O O ‹_› _ O (by omega)) O ?_
  refine Aa (Bi (RG _) O ‹_› (by omega)) O ?_
  refine Ab O<|Al<|A6<|Ad O<|Ad O<|Aa (C4 GJ Ho O) O<|Ad O<|Aa (D2 (j:=8) O O (by decide)) O<|Aa (C4 GJ Ho O) O<|Ad O<|Aa (D2 (j:=16) O O (by decide)) O<|Aa (C4 GJ Ho O) O<|Ad O<|Aa (D2 (j:=24) O O (by decide)) O<|Aa (C4 GJ Ho O) O<|Ar (Cb (vs:=(Crc.four (l.getD i default)).map b8) AL CT O O O O O) O ?_
  rintro y A ⟨G, -,a, -⟩
  have d:=AG d a
  refine Ar (Dc (base:=w.heap.size) AL CT O (by decide) O O d (AK G) (BF (fun _=>rfl) _) (by omega) (by omega) (bt f a).size) O ?_
  rintro E K ⟨m,q, -⟩
  rw [← map_append,t,F] at m
  refine Ab O<|A9<|Ba<|Ct<|Ce O (by omega)<|Ad O<|A9 ?_
  exact Az (Bw ((i+1,E)) ⟨rfl,rfl,rfl,rfl,rfl,trivial⟩ (⟨c,m,(bt f a).trans q⟩) (by simp only;omega))
 intro h
 have c:i=l.length:=by simp at h;omega
 subst c
 rw [take_length] at d
 exact Bu<|Av<|Av<|Bf<|Ci<|Ad rfl<|Ab rfl<|As<|Am rfl rfl<|⟨d,f⟩
theorem NS (v u:Value) (lb:List (BitVec 8)) (l:List (BitVec 32)) (w:World) (h:BB b8 w v lb) (g:BB i32 w u l) (B:lb.length+4*(l.length+1)≤4194304):
  AO prog 43 [v,u] w (fun r w' =>w'.ownsRow w.heap.size 5 1 r (lb++BQ (BitVec.ofInt 32 (l.length:Int)::l)).length ((lb++BQ (BitVec.ofInt 32 (l.length:Int)::l)).map b8)∧Below w.heap.size w w'):=by
 have f:=Below.refl w.heap.size w
 have j:(w:World)→w.heap.size≤w.heap.size:=fun _=>AT _
 refine A5 (n:=15) func43 O<|Ak<|Ab O<|A0<|Ad O<|Ad O<|Aa (Au DY O ‹_›) O ?_
 refine Aa (Ez Lj I7 O) O<|Ar (Cb (vs:=[BitVec.ofInt 32 (l.length:Int)].map u32) CO LJ O O O O O) O ?_
 rintro y w ⟨o, -,b, -⟩
 have d:=AM o
 have f:=f.bs b
 have h:=h.bs b
 have g:=g.bs b
 clear b o
 refine Ad O<|Ai O O (Rx u l w g (by omega)) ?_
 rintro z w ⟨k,b⟩
 have e:=AM k
 have f:=f.bs b
 have h:=h.bs b
 have g:=g.bs b
 have d:=d.bs b
 clear b k
 refine Ar (Cb (vs:=[y,z]) Jh S8 O O O (by simp [d.one',e.one']) O) O ?_
 rintro a w ⟨q, -,b, -⟩
 have f:=f.bs b
 have h:=h.bs b
 have g:=g.bs b
 have d:=d.bs b
 have e:=e.bs b
 refine Ai O O (Ma a [(y,[BitVec.ofInt 32 (l.length:Int)]),(z,l)] w (AK q) (by intro p m;simp at m;rcases m with rfl|rfl;exact d;exact e) (by simp;omega)) ?_
 rintro c w ⟨s,b⟩
 have i:=AM s
 have A:(([(y,[BitVec.ofInt 32 (l.length:Int)]),(z,l)]:List (Value×List (BitVec 32))).map (·.2)).flatten=BitVec.ofInt 32 (l.length:Int)::l:=by simp
 rw [A] at i
 have f:=f.bs b
 have h:=h.bs b
 have g:=g.bs b
 have d:=d.bs b
 have e:=e.bs b
 clear b s q
 have t:=AA f
 refine Ai O O (R4 v c lb _ w h i (by simp;omega)) ?_
 rintro r w ⟨x,b⟩
 have f:=f.bs b
 have h:=h.bs b
 have g:=g.bs b
 have d:=d.bs b
 have e:=e.bs b
 exact Ab rfl<|As<|Am rfl rfl<|⟨CL x t,f⟩

def AX (s:List Int):List (BitVec 8):=BitVec.ofInt 8 (s.length:Int)::s.map (BitVec.ofInt 8)
def EA (s:List Int) (i:Nat):List (BitVec 8):=BitVec.ofInt 8 (s.length:Int)::(s.take i).map (BitVec.ofInt 8)
theorem ME {s:List Int} {i:Nat} (h:i<s.length):EA s (i+1)=EA s i++[BitVec.ofInt 8 (s.getD i default)]:=by
 unfold EA
 rw [take_succ_eq_append_getElem h,map_append]
 simp [h]
theorem O2 (s:List Int):EA s s.length=AX s:=by unfold EA AX;rw [take_length]
theorem Iz {s:List Int} {i:Nat} (h:i≤s.length):(EA s i).length=i+1:=by simp [EA];omega
theorem Qo (u:Value) (a:List (BitVec 8)) (w:World) (b:BB b8 w u a):AO prog 44 [u] w (fun r w' =>r=clip u∧Below w.heap.size w w'):=by
 refine A5 (n:=9) func44 O<|Ak<|Ab O<|A0<|Ad O<|Ad O<|Aa (Au AL O ‹_›) O ?_
 refine Ad O<|Aa (Au AL O ‹_›) O ?_
 exact Aa (Fl AL rfl rfl rfl b.shp) rfl<|Ab rfl<|As<|Am rfl rfl<|⟨rfl,Below.refl _ _⟩

def GK (k:Nat):List Value:=(List.range k).map fun n=>u32 (Crc.tab (BitVec.ofNat 8 n))
theorem Ld:∃zv,(∀w,(zeroValue 287).run prog w= .ok zv w)∧zv.cells=(replicate 256 (Value.int .u32 0)).toArray:=
 ⟨.agg (replicate 256 (Value.int .u32 0)).toArray,fun w=>by kernel_rfl,rfl⟩
theorem Pd (k:Nat) (c:k<256):(GK k++replicate (256 - k) (Value.int .u32 0)).set k (u32 (Crc.tab (BitVec.ofNat 8 k)))=GK (k+1)++replicate (256 - (k+1)) (Value.int .u32 0):=by
 have a:(GK k).length=k:=by simp [GK]
 have b:256 - k=(256 - (k+1))+1:=by omega
 rw [set_append_right _ _ (by omega),a,Nat.sub_self,b,replicate_succ,set_cons_zero]
 simp [GK,range_succ]
theorem QF (w:World):AO prog 229 [] w (fun r w' =>r= .agg (GK 256).toArray∧Below w.heap.size w w'):=by
 obtain ⟨zv,t,p⟩:=Ld
 refine A5 (n:=22) func229 O<|Ak<|Ar (Xw.alloc (t _) p) O ?_
 rintro _ l ⟨rfl,g,f,u⟩
 refine Bc<|Aa (Bt (show _=some (u32 (0#32)) from rfl)) O<|Al<|Ax ?_
 refine B2 (S:=Nat) (fun k=>[(0, .pointer (some ⟨w.heap.size,0,none⟩)),(3,u32 (BitVec.ofNat 32 k))]) (fun k w' =>k≤256∧AN w' w.heap.size 287 (GK k++replicate (256 - k) (.int .u32 0))∧Below w.heap.size w w') (fun k=>256 - k) (0) ⟨rfl,rfl,trivial⟩ ?_ ?_
 ·exact ⟨by omega,g,f⟩
 clear g f u l
 rintro k l ⟨y,g,f⟩
 have d:(BitVec.ofNat 32 k).toNat=k:=by simp;omega
 refine Ak<|B9 O<|Al<|Aq<|An O ?_ ?_
 ·intro h
  refine B4<|Aq<|Ax<|Ak<|Ad O<|Ab O<|A0<|Ad O<|Ab O<|Bc<|Ad O<|Al<|Ax ?_
  refine B2 (S:=Nat) (fun j=>[(0, .pointer (some ⟨w.heap.size,0,none⟩)),(1,u32 (BitVec.ofNat 32 k)),(2,u32 (Crc.iter j (BitVec.ofNat 32 k))),(3,u32 (BitVec.ofNat 32 k)),(7, .int .i64 (j:Int))]) (fun j w' =>j≤8∧w' =l) (fun j=>8 - j) (0) ⟨rfl,rfl,rfl,rfl,rfl,trivial⟩ ?_ ?_
  ·exact ⟨by omega,rfl⟩
  rintro j _ ⟨z,rfl⟩
  refine Ak<|B9 O<|Al<|Aq<|An O ?_ ?_
  ·intro c
   have b:j<8:=by simp at c;omega
   refine B4<|Aq<|Ax<|A6<|Ad O<|Aa (D2 (j:=1) O O (by decide)) O<|Ad O<|Aa (Gz O (show _=some (u32 (1#32)) from rfl)) O<|Aa (Ex.neg32 O) O<|Aa (Gz (show _=some (u32 (3988292384#32)) from rfl) O) O<|Aa (Gu O O) O<|Ab O<|A9<|Ba<|Ct<|Ce O (by omega)<|Ad O<|A9 ?_
   exact Az (Bw (j+1) ⟨rfl,rfl,(by rw [Crc.iter_succ',← Crc.bit_prog];rfl),rfl,rfl,trivial⟩ (⟨by omega,rfl⟩) (by omega))
  ·intro c
   have b:j=8:=by simp at c;omega
   have a:k<256:=by simp [d] at h;omega
   refine Bu<|Av<|Av<|Bf<|Ct<|Ad O<|Ad O<|Aa (Ex.idxB OU Nj O O k (by rw [d]) a) O<|A7 (Ck (Nj _) O O O g (by simp [GK];omega)) ?_
   rintro x ⟨e,o,q⟩
   refine A9<|Ba<|Ct<|Aa (Ex.add32 O (show _=some (u32 (1#32)) from rfl)) O<|Ad O<|A9 ?_
   have v:(BitVec.ofNat 32 k)+1#32=BitVec.ofNat 32 (k+1):=by apply BitVec.eq_of_toNat_eq;simp
   have s:u32 (Crc.iter 8 (BitVec.ofNat 32 k))=u32 (Crc.tab (BitVec.ofNat 8 k)):=by
    have:BitVec.ofNat 32 k=(BitVec.ofNat 8 k).setWidth 32:=by apply BitVec.eq_of_toNat_eq;simp;omega
    rw [this];rfl
   rw [b,s,Nat.zero_add,Nat.mul_one,Pd k a] at e
   exact Az (Bw (k+1) ⟨rfl,(by rw [v];rfl),trivial⟩ (⟨by omega,e,f.grown o (AA f) (by rintro _ ⟨⟩;exact AT _)⟩) (by omega))
 ·intro h
  have a:k=256:=by simp [d] at h;omega
  subst a
  have i:AN l w.heap.size 287 (GK 256):=by simpa using g
  have m:(GK 256).length=256:=by simp [GK]
  refine Bu<|Av<|Av<|Bf<|Ci<|Aa (Ch (SS _) (RW _) m O i) O<|A7 (Cs O m O O (by simp [GK,Value.oneCell']) i m) ?_
  rintro x ⟨e,o,q⟩
  refine As<|Gi O O ‹_› underlying287 O O m ?_
  exact ⟨rfl,f.grown o (AA f) (by rintro _ ⟨⟩;exact AT _)⟩
theorem QE (c:BitVec 8):(GK 256)[0+c.toNat*1]? =some (u32 (Crc.tab c)):=by
 have h:c.toNat<256:=c.isLt
 have e:BitVec.ofNat 8 c.toNat=c:=by apply BitVec.eq_of_toNat_eq;simp
 simp [GK,h]
theorem Pn (r:BitVec 32) (l:List (BitVec 8)) (k:Nat) (a:k<l.length):Crc.run r (l.take (k+1))=Crc.tab ((Crc.run r (l.take k)).setWidth 8 ^^^ l.getD k default) ^^^ Crc.run r (l.take k)>>>8:=by
 rw [take_succ_eq_append_getElem a,Crc.run_append]
 simp [Crc.run,Crc.feed_tab,a]
theorem TT (s:BitVec 32) (v:Value) (l:List (BitVec 8)) (w:World) (i:BB b8 w v l):AO prog 148 [u32 s,v] w (fun r w' =>r=u32 (Crc.on s l)∧Below w.heap.size w w'):=by
 obtain ⟨zv,t,d⟩:=Ld
 have x:(GK 256).length=256:=by simp [GK]
 have z:=i.le
 refine A5 (n:=30) func148 O<|Ak<|Aa (Bq (show _=some (u32 (0#32)) from rfl)) O<|A0<|Ai O O (QF w) ?_
 rintro _ m ⟨rfl,e⟩
 refine Ad O<|Aa (Gv O) O<|Ar (Xw.alloc (t _) d) O ?_
 rintro _ B ⟨rfl,p,c,y⟩
 refine A7 (Cs O x O O (by simp [GK,Value.oneCell']) p length_replicate) ?_
 rintro g ⟨f,q,o⟩
 have b:Below w.heap.size w g:=(JL e c (AT _)).grown q (by have:=e.size;omega) (by rintro _ ⟨⟩;exact e.size)
 have u:=i.bs b
 refine Ab O<|Bc<|Ad O<|Aa (Au AL O ‹_›) O ?_
 refine Ad O<|Al<|Ax ?_
 refine B2 (S:=Nat) (fun k=>[(5, .pointer (some ⟨m.heap.size,0,none⟩)),(6,u32 (Crc.run (~~~ s) (l.take k))),(12,v),(13, .int .i64 (l.length:Int)),(14, .int .i64 (k:Int))]) (fun k w' =>k≤l.length∧w' =g) (fun k=>l.length - k) (0) ⟨rfl,rfl,rfl,rfl,rfl,trivial⟩ ?_ ?_
 ·exact ⟨by omega,rfl⟩
 rintro k _ ⟨A,rfl⟩
 refine Ak<|B9 O<|Al<|Aq<|An O ?_ ?_
 ·intro h
  have a:k<l.length:=by simp at h;omega
  refine B4<|Aq<|Ax<|Ak<|Aa (Bd AL O O ‹_› _ O (by omega)) O ?_
  refine Aa (Bi (KY _) O ‹_› (by omega)) O ?_
  refine Ab O<|Al<|A6<|Ad O<|Aa (C4 GJ Ho O) O<|Ad O<|Aa (Ex.xor8 O O) O<|Aa (Ex.idxB OU Nj O O ((Crc.run (~~~ s) (l.take k)).setWidth 8 ^^^ l.getD k default).toNat O (BitVec.isLt _)) O<|Aa (Ap (RG _) O f (QE _)) O<|Ad O<|Aa (D2 (j:=8) O O (by decide)) O<|Aa (Gu O O) O<|Ab O<|A9<|Ba<|Ct<|Ce O (by omega)<|Ad O<|A9 ?_
  exact Az (Bw (k+1) ⟨rfl,(by rw [Pn _ _ _ a];rfl),rfl,rfl,rfl,trivial⟩ (⟨by omega,rfl⟩) (by omega))
 ·intro h
  have a:k=l.length:=by simp at h;omega
  subst a
  refine Bu<|Av<|Av<|Bf<|Ci<|Ad O<|Aa (Gv O) O<|Ab O<|As<|Am O O ?_
  exact ⟨by rw [take_length];rfl,b⟩
theorem Sp (v:Value) (l:List (BitVec 8)) (w:World) (a:BB b8 w v l):AO prog 46 [v] w (fun r w' =>r=u32 (Crc.of l)∧Below w.heap.size w w'):=by
 refine A5 (n:=5) func46 O<|Ak<|Aa (Bq (show _=some (u32 (0#32)) from rfl)) O<|A0<|Ad O<|Ai O O (TT 0#32 v l w a) ?_
 rintro _ c ⟨rfl,b⟩
 exact Ab rfl<|As<|Am rfl rfl<|⟨rfl,b⟩
end Go.Proofs.YtblbopcaflaldaaGreatDoor

namespace Go.Proofs.YtblbopcaflaldaaGreatDoor
open Go Go.Dd Go.RowKit List
set_option maxRecDepth 100000
def EI (w:World) (v:Value) (ts:List T4):Prop:=Sl w 2 v ts.length (cellsOf ts)∧∀t ∈ ts,t.at w
theorem EI.bs {w w' :World} {v:Value} {ts:List T4} (h:EI w v ts) (g:Below w.heap.size w w'):EI w' v ts:=⟨h.1.bs g,fun t a=>(h.2 t a).bs g⟩
theorem EI.slice {w:World} {v:Value} {ts:List T4} (h:EI w v ts) {i:Nat} (d:i<ts.length):∃ad c k,v= .slice (some ad) c k:=by
 obtain ⟨_,a,cap,rfl,_,_,b,_⟩:=h.1
 cases a with
 |none=>have:=b rfl;omega
 |some ad=>exact ⟨_,_,_,rfl⟩
theorem K9 {ts:List T4} {i:Nat} (h:i<ts.length):∃t:T4,t=ts[i]∧t ∈ ts∧(cellsOf ts)[i*2]? =some t.x∧(cellsOf ts)[i*2+1]? =some t.y:=
 ⟨ts[i],rfl,getElem_mem h,(FN h).1,(FN h).2⟩
theorem Hh {xs:List Value} {o:Nat} {x y:Value} (b:xs[o]? =some x) (a:xs[o+1]? =some y):∀i,i<2→∃q,[x,y][i]? =some q∧xs[o+i]? =some q:=fun i c=>by
 rcases (show i=0∨i=1 by omega) with rfl|rfl
 ·exact ⟨_,rfl,b⟩
 ·exact ⟨_,rfl,a⟩
end Go.Proofs.YtblbopcaflaldaaGreatDoor

namespace Go.Dd
open Go Go.RowKit
open List hiding all
structure FE (S:Nat→Prop) (w w' :World):Prop where
 os:w'.os=w.os
 tape:w'.tape=w.tape
 output:w'.output=w.output
 size:w.heap.size≤w'.heap.size
 block:∀k,k<w.heap.size→¬S k→w'.heap[k]? =w.heap[k]?
namespace FE
variable {S T : Nat → Prop} {a b c : World}
theorem refl (S:Nat→Prop) (w:World):FE S w w:=⟨rfl,rfl,rfl,AT _,fun _ _ _=>rfl⟩
theorem trans (h:FE S a b) (k:FE S b c):FE S a c:=
 ⟨k.os.trans h.os,k.tape.trans h.tape,k.output.trans h.output,Nat.le_trans h.size k.size,fun i f d=>(k.block i (Nat.lt_of_lt_of_le f h.size) d).trans (h.block i f d)⟩
theorem mono (h:FE S a b) (d:∀k,S k→T k):FE T a b:=⟨h.os,h.tape,h.output,h.size,fun k f g=>h.block k f fun e=>g (d k e)⟩
theorem below (h:FE S a b) (k:Below b.heap.size b c):FE S a c:=
 ⟨k.os.trans h.os,k.tape.trans h.tape,k.output.trans h.output,Nat.le_trans h.size k.size,fun i d f=>(k.block i (Nat.lt_of_lt_of_le d h.size)).trans (h.block i d f)⟩
theorem grown (h:FE S a b) {r:Option Nat} (k:b.grownBy c r) (j:∀n,r=some n→S n∨a.heap.size≤n):FE S a c:=
 ⟨k.os.trans h.os,k.tape.trans h.tape,k.output.trans h.output,Nat.le_trans h.size k.size,fun i g f=>(k.block i (Nat.lt_of_lt_of_le g h.size) (fun e=>by
  rcases j i e.symm with d|d
  ·exact f d
  ·omega)).trans (h.block i g f)⟩
theorem of_below (h:Below a.heap.size a b):FE S a b:=(FE.refl S a).below h
theorem to_below {B:Nat} (h:FE S a b) (d:∀k,S k→B≤k) (g:B≤a.heap.size):Below B a b:=
 ⟨h.os,h.tape,h.output,h.size,fun k f=>h.block k (by omega) fun e=>by have:=d k e;omega⟩
end FE
theorem AN.chg {S:Nat→Prop} {w w' :World} {b:Nat} {T:TypeId} {cs:List Value} (h:AN w b T cs) (g:FE S w w') (d:¬S b):AN w' b T cs:=h.keep (g.block b (BA h) d)
theorem AS.chg {S:Nat→Prop} {w w' :World} {base:Nat} {e:TypeId} {sz:Nat} {v:Value} {n:Nat} {xs:List Value} (h:AS w base e sz v n xs) (g:FE S w w') (d:∀b,v.ownBlock=some b→¬S b):AS w' base e sz v n xs:=
 h.heap fun b e=>g.block b (h.lt b e).2 (d b e)
theorem Sl.chg {S:Nat→Prop} {w w' :World} {sz:Nat} {v:Value} {n:Nat} {xs:List Value} (h:Sl w sz v n xs) (g:FE S w w') (f:∀b,v.ownBlock=some b→b<w.heap.size→¬S b):Sl w' sz v n xs:=
 h.keep fun b d e=>g.block b d (f b e d)
structure Hd where
 v:Value
 k:Nat
 xs:List Value
 n:Int
 g:Value
def Hd.cells (h:Hd):List Value:=[h.v,h.g, .int .i64 h.n]
def CP:List Hd→List Value
 |[]=>[]
 |h::hs=>h.v::h.g:: .int .i64 h.n::CP hs
def II (hs:List Hd):Nat→Prop:=fun b=>∃h ∈ hs,h.v.ownBlock=some b
structure KOk (hs:List Hd):Prop where
 num:∀h ∈ hs,0≤h.n∧h.n≤4000000
 few:∀h ∈ hs,h.k≤16777216
 apart:hs.Pairwise fun a b=>IG a.v b.v
 new:∀h ∈ hs,h.g= .slice none 0 0
structure JP (w:World) (base:Nat) (E:TypeId) (sz:Nat) (hs:List Hd):Prop extends KOk hs where
 own:∀h ∈ hs,AS w base E sz h.v h.k h.xs
theorem JP.blk {w:World} {base:Nat} {E:TypeId} {sz:Nat} {d:List Hd} (h:JP w base E sz d) {b:Nat} (g:II d b):base≤b∧b<w.heap.size:=by
 obtain ⟨x,f,e⟩:=g
 exact (h.own x f).lt b e
theorem JP.chg {w w' :World} {base:Nat} {E:TypeId} {sz:Nat} {d:List Hd} {S:Nat→Prop} (h:JP w base E sz d) (g:FE S w w') (i:∀b,II d b→¬S b):JP w' base E sz d:=
 ⟨h.toKOk,fun x f=>(h.own x f).chg g fun b e=>i b ⟨x,f,e⟩⟩
theorem JP.bs {w w' :World} {base:Nat} {E:TypeId} {sz:Nat} {d:List Hd} (h:JP w base E sz d) (g:Below w.heap.size w w'):JP w' base E sz d:=
 ⟨h.toKOk,fun x f=>(h.own x f).bs g⟩
def PG (mk:Int→Value) (k:Nat) (n:Int):List Value:=replicate k (mk n)
def Q4 (w:World) (base:Nat) (E:TypeId) (mk:Int→Value) (hs:List Hd):Prop:=∀h ∈ hs,AS w base E 1 h.v h.k (PG mk h.k h.n)
theorem Q4.chg {w w' :World} {base:Nat} {E:TypeId} {mk:Int→Value} {d:List Hd} {S:Nat→Prop} (h:Q4 w base E mk d) (g:FE S w w') (i:∀b,II d b→¬S b):Q4 w' base E mk d:=
 fun x f=>(h x f).chg g fun b e=>i b ⟨x,f,e⟩
theorem Q4.blk {w:World} {base:Nat} {E:TypeId} {mk:Int→Value} {d:List Hd} (h:Q4 w base E mk d) {b:Nat} (g:II d b):base≤b∧b<w.heap.size:=by
 obtain ⟨x,f,e⟩:=g
 exact (h x f).lt b e
structure OL (w:World) (mk:Int→Value) (h:Hd):Prop where
 l:Sl w 1 h.v h.k (PG mk h.k h.n)
 g:Sl w 1 h.g (h.k+40) (PG mk (h.k+40) h.n)
theorem OL.chg {w w' :World} {mk:Int→Value} {h:Hd} {S:Nat→Prop} (t:OL w mk h) (g:FE S w w') (d:∀b,h.v.ownBlock=some b→b<w.heap.size→¬S b) (f:∀b,h.g.ownBlock=some b→b<w.heap.size→¬S b):OL w' mk h:=⟨t.l.chg g d,t.g.chg g f⟩
structure Mg (w:World) (hs ts:List Hd):Prop where
 len:ts.length=hs.length
 all:∀j (h:j<hs.length) (h' :j<ts.length),ts[j].v=hs[j].v∧ts[j].k=hs[j].k∧ts[j].n=hs[j].n∧∀b,ts[j].g.ownBlock=some b→hs[j].v.ownBlock=some b∨w.heap.size≤b
theorem Mg.refl (w:World) {d:List Hd} (h:∀t ∈ d,t.g= .slice none 0 0):Mg w d d:=
 ⟨rfl,fun j f _=>⟨rfl,rfl,rfl,fun b e=>by rw [h _ (getElem_mem f)] at e;cases e⟩⟩
theorem Mg.set {w:World} {d ts:List Hd} {i:Nat} {g:Value} (h:Mg w d ts) (r:i<d.length) (k:i<ts.length) (q:∀b,g.ownBlock=some b→d[i].v.ownBlock=some b∨w.heap.size≤b):Mg w d (ts.set i {ts[i] with g:=g}):=by
 refine ⟨by rw [length_set];exact h.len,fun j l f=> ?_⟩
 rw [getElem_set]
 split
 ·rename_i e
  subst e
  obtain ⟨o,m,p,_⟩:=h.all i r k
  exact ⟨o,m,p,q⟩
 ·exact h.all j l (by simpa using f)
theorem OL.bs {w w' :World} {mk:Int→Value} {h:Hd} (t:OL w mk h) (g:Below w.heap.size w w'):OL w' mk h:=⟨t.l.bs g,t.g.bs g⟩
section
variable {P : Program} {n : Nat} {E : BN} {w : World} {ty t e : TypeId} {x y : Operand} {v u : Value} {sz base : Nat}
end
end Go.Dd

namespace Go.Dd
open Go Go.RowKit List
section
variable {P : Program} {n : Nat} {E : BN} {w : World} {e ty t : TypeId} {x y z : Operand} {u v : Value}
end
theorem AS.ty {w:World} {base sz k g:Nat} {T:TypeId} {v:Value} {xs:List Value} (h:AS w base T sz v k xs) (c:v.ownBlock=some g):∃cs,AN w g T cs:=by
 rcases h with h|⟨d,a,rfl,_,b,_⟩
 ·obtain ⟨_,a,_,b,_⟩:=FI h c
  exact ⟨a,b⟩
 ·obtain rfl:d=g:=by simpa [Value.ownBlock] using c
  exact ⟨a,b⟩
theorem P3 {w:World} {base sz n m:Nat} {e:TypeId} {v:Value} {xs:List Value} (h:w.ownsRow base e sz v n xs) (i:m≤n):w.ownsRow base e sz (cut v sz 0 m) m (xs.take (m*sz)):=by
 obtain ⟨q,k⟩:=h
 have f:m*sz≤n*sz:=Nat.mul_le_mul_right _ i
 refine ⟨by rw [length_take];omega, ?_⟩
 rcases k with ⟨rfl,rfl⟩|⟨b,cap,a,rfl,o,p,d,c,g,l⟩
 ·obtain rfl:m=0:=by omega
  exact .inl ⟨rfl,rfl⟩
 ·refine .inr ⟨b,cap,a, ?_,o,p,Nat.le_trans i d,c,g, ?_⟩
  ·show Value.slice (if cap=0 then _ else Option.map _ _) (m - 0) (cap - 0)=_
   have j:(if cap=0 then some (⟨b,0,none⟩:Addr) else (some (⟨b,0,none⟩:Addr)).map (·.add (0*sz)))=some ⟨b,0,none⟩:=by
    split
    ·rfl
    ·simp [add_lit]
   rw [j];rfl
  ·rw [← l,take_take,Nat.min_eq_left f]
def Q5 (sz k:Nat) (cs:List (List Value)):Prop:=cs.length=k∧∀c ∈ cs,c.length=sz
theorem Q5.len {sz k:Nat} {cs:List (List Value)} (h:Q5 sz k cs):cs.flatten.length=k*sz:=by
 obtain ⟨rfl,h⟩:=h
 induction cs with
 |nil=>simp
 |cons c cs ih=>
  rw [flatten_cons,length_append,ih fun x a=>h x (mem_cons_of_mem _ a),h c (by simp),length_cons,Nat.succ_mul];omega
theorem Q5.take {sz k m:Nat} {cs:List (List Value)} (h:Q5 sz (k+m) cs):Q5 sz k (cs.take k):=⟨by rw [length_take,h.1];omega,fun c a=>h.2 c (mem_of_mem_take a)⟩
theorem Q5.at {sz k:Nat}:∀{cs:List (List Value)},Q5 sz k cs→∀{j:Nat} (a:j<cs.length) {i:Nat},i<sz→cs.flatten[j*sz+i]? =cs[j][i]?
 |[],_,j,a,_,_=>by cases a
 |c::cs,h,0,_,i,hi=>by
  rw [flatten_cons,Nat.zero_mul,Nat.zero_add,getElem?_append_left (by rw [h.2 c (by simp)];exact hi)];rfl
 |c::cs,h,j+1,a,i,hi=>by
  have b:=h.2 c (by simp)
  have:Q5 sz cs.length cs:=⟨rfl,fun x d=>h.2 x (mem_cons_of_mem _ d)⟩
  rw [flatten_cons,getElem?_append_right (by rw [b,Nat.succ_mul];omega),b,show (j+1)*sz+i - sz=j*sz+i by rw [Nat.succ_mul];omega,this.at (by simpa using a) hi];rfl
theorem Q5.cells {sz k:Nat} {cs:List (List Value)} (h:Q5 sz k cs) {j:Nat} (a:j<cs.length):∀i,i<sz→∃q,cs[j][i]? =some q∧cs.flatten[j*sz+i]? =some q:=fun i b=>by
 have c:=h.2 _ (getElem_mem a)
 exact ⟨cs[j][i]'(by omega),getElem?_eq_getElem _,by rw [h.at a b];exact getElem?_eq_getElem _⟩
structure Hz (B:Nat) (I:TypeId) (Φ:Int→World→List Value→Prop):Prop where
 of:∀{n:Int} {w w' :World} {c:List Value} {S:Nat→Prop},Φ n w c→FE S w w' →(∀b,S b→b<B∨∃T cs,AN w b T cs∧T≠I)→Φ n w' c
theorem Hz.chg {B:Nat} {I:TypeId} {Φ:Int→World→List Value→Prop} (h:Hz B I Φ) {n:Int} {w w' :World} {c:List Value} {S:Nat→Prop} (d:Φ n w c) (g:FE S w w') (a:∀b,S b→b<B):Φ n w' c:=h.of d g fun b e=> .inl (a b e)
theorem Hz.bs {B:Nat} {I:TypeId} {Φ:Int→World→List Value→Prop} (h:Hz B I Φ) {n:Int} {w w' :World} {c:List Value} (a:Φ n w c) (g:Below w.heap.size w w'):Φ n w' c:=h.of a (S:=fun _=>False) (FE.of_below g) (fun _ h=>h.elim)
structure MY (Φ:Int→World→List Value→Prop) (sz:Nat) (n:Int) (w:World) (k:Nat) (cs:List (List Value)):Prop where
 els:Q5 sz k cs
 each:∀c ∈ cs,Φ n w c
theorem MY.chg {Φ:Int→World→List Value→Prop} {B sz k:Nat} {I:TypeId} {n:Int} {w w' :World} {S:Nat→Prop} {cs:List (List Value)} (h:MY Φ sz n w k cs) (st:Hz B I Φ) (g:FE S w w') (a:∀b,S b→b<B):MY Φ sz n w' k cs:=⟨h.els,fun c d=>st.chg (h.each c d) g a⟩
theorem MY.bs {Φ:Int→World→List Value→Prop} {B sz k:Nat} {I:TypeId} {n:Int} {w w' :World} {cs:List (List Value)} (h:MY Φ sz n w k cs) (st:Hz B I Φ) (g:Below w.heap.size w w'):MY Φ sz n w' k cs:=⟨h.els,fun c a=>st.bs (h.each c a) g⟩
theorem MY.by {Φ:Int→World→List Value→Prop} {B sz k:Nat} {I:TypeId} {n:Int} {w w' :World} {g:Option Nat} {cs:List (List Value)} (h:MY Φ sz n w k cs) (st:Hz B I Φ) (d:w.grownBy w' g) (a:∀b,g=some b→b<B∨∃T cs,AN w b T cs∧T≠I):MY Φ sz n w' k cs:=
 ⟨h.els,fun c f=>st.of (h.each c f) (S:=fun b=>g=some b) ((FE.refl _ _).grown d fun b e=> .inl e) a⟩
theorem MY.take {Φ:Int→World→List Value→Prop} {sz k m:Nat} {n:Int} {w:World} {cs:List (List Value)} (h:MY Φ sz n w (k+m) cs):MY Φ sz n w k (cs.take k):=⟨h.els.take,fun c a=>h.each c (mem_of_mem_take a)⟩
def Mh (w:World) (base:Nat) (E:TypeId) (sz:Nat) (Φ:Int→World→List Value→Prop) (hs:List Hd):Prop:=∀h ∈ hs,∃cs,MY Φ sz h.n w h.k cs∧AS w base E sz h.v h.k cs.flatten
theorem Mh.chg {w w' :World} {base sz B:Nat} {E I:TypeId} {Φ:Int→World→List Value→Prop} {a:List Hd} {S:Nat→Prop} (h:Mh w base E sz Φ a) (st:Hz B I Φ) (g:FE S w w') (j:∀b,S b→b<B) (f:∀b,II a b→¬S b):Mh w' base E sz Φ a:=fun x c=>by
 obtain ⟨cs,i,d⟩:=h x c
 exact ⟨cs,i.chg st g j,d.chg g fun b e=>f b ⟨x,c,e⟩⟩
theorem Mh.blk {w:World} {base sz:Nat} {E:TypeId} {Φ:Int→World→List Value→Prop} {a:List Hd} (h:Mh w base E sz Φ a) {b:Nat} (d:II a b):base≤b∧b<w.heap.size:=by
 obtain ⟨x,f,e⟩:=d
 obtain ⟨_,_,c⟩:=h x f
 exact c.lt b e
structure K1 (w:World) (sz:Nat) (Φ:Int→World→List Value→Prop) (h:Hd):Prop where
 l:∃cs,MY Φ sz h.n w h.k cs∧Sl w sz h.v h.k cs.flatten
 g:∃cs,MY Φ sz h.n w (h.k+40) cs∧Sl w sz h.g (h.k+40) cs.flatten
theorem K1.chg {w w' :World} {sz B:Nat} {I:TypeId} {Φ:Int→World→List Value→Prop} {h:Hd} {S:Nat→Prop} (t:K1 w sz Φ h) (st:Hz B I Φ) (g:FE S w w') (a:∀b,S b→b<B) (i:∀b,h.v.ownBlock=some b→b<w.heap.size→¬S b) (d:∀b,h.g.ownBlock=some b→b<w.heap.size→¬S b):K1 w' sz Φ h:=by
 obtain ⟨⟨cs,f,k⟩,⟨ds,j,c⟩⟩:=t
 exact ⟨⟨cs,f.chg st g a,k.chg g i⟩,⟨ds,j.chg st g a,c.chg g d⟩⟩
theorem K1.bs {w w' :World} {sz B:Nat} {I:TypeId} {Φ:Int→World→List Value→Prop} {h:Hd} (t:K1 w sz Φ h) (st:Hz B I Φ) (g:Below w.heap.size w w'):K1 w' sz Φ h:=by
 obtain ⟨⟨cs,b,d⟩,⟨ds,c,a⟩⟩:=t
 exact ⟨⟨cs,b.bs st g,d.bs g⟩,⟨ds,c.bs st g,a.bs g⟩⟩
theorem AZ {w:World} {b:Nat} {T U:TypeId} {cs ds:List Value} (h:AN w b T cs) (k:AN w b U ds):T=U:=by
 unfold AN at h k
 rw [h] at k
 cases k;rfl
end Go.Dd

namespace Go.Proofs.YtblbopcaflaldaaGreatDoor
open Go Go.Dd Go.RowKit List Go.Proofs.Tryz
set_option maxRecDepth 100000
structure Ml (w w' :World) (v y:Value):Prop where
 g:w.grownBy w' v.ownBlock
 c:y.ownBlock=v.ownBlock∨∀b,y.ownBlock=some b→w.heap.size≤b
theorem Ff (w:World) (v:Value):Ml w w v v:=⟨AY (Below.refl _ _) _, .inl rfl⟩
theorem Ml.bs {w a b:World} {v y:Value} (h:Ml w a v y) (g:Below a.heap.size a b):Ml w b v y:=⟨AQ h.g (AY g _),h.c⟩
theorem Ml.app {w d j:World} {v y i:Value} (h:Ml w d v y) (g:d.grownBy j y.ownBlock) (c:i.ownBlock=y.ownBlock∨∀b,i.ownBlock=some b→d.heap.size≤b):Ml w j v i:=by
 have z:=h.g.size
 refine ⟨⟨g.os.trans h.g.os,g.tape.trans h.g.tape,g.output.trans h.g.output,Nat.le_trans z g.size,fun b k a=> ?_⟩, ?_⟩
 ·refine (g.block b (Nat.lt_of_lt_of_le k z) fun e=> ?_).trans (h.g.block b k a)
  rcases h.c with f|f
  ·exact a (by rw [e,f])
  ·have:=f b e.symm;omega
 ·rcases c with c|c
  ·rw [c];exact h.c
  ·exact .inr fun b e=>Nat.le_trans z (c b e)
theorem EE (v u:Value) (b:List (BitVec 8)) (l:List Int) (W w:World) (H:Below W.heap.size W w) (h:w.ownsRow W.heap.size 5 1 v b.length (b.map b8)) (D:BB (Value.int .i64) W u l) (V:b.length+l.length+1≤16777216):
  AO prog 42 [v,u] w (fun r w' =>Below W.heap.size W w' ∧w'.ownsRow W.heap.size 5 1 r (b++AX l).length ((b++AX l).map b8)∧Ml w w' v r):=by
 have a:=Ff w v
 have L:=D.bs H
 refine A5 (n:=26) func42 O<|Ak<|Ab O<|A0<|Ad O<|Ad O<|Aa (Au AH O ‹_›) O ?_
 refine Aa (Ee Lj Ho O) O<|Ar (Cb (vs:=[BitVec.ofInt 8 (l.length:Int)].map b8) AL CT O O O O O) O ?_
 rintro q T ⟨d, -,A, -⟩
 have h:=AG h A
 have s:=bt H A
 have a:=a.bs A
 refine Ar (B7 (base:=W.heap.size) AL CT O (by decide) O O h (AK d) (BF (fun _=>rfl) _) (by omega) (by omega) s.size) O ?_
 rintro J Y ⟨k,f,B,F⟩
 have a:=a.app B (F.imp id fun e b o=>by rw [e] at o;cases o;omega)
 have x:=s.trans f
 have C:=D.bs x
 have I:b.map b8++[BitVec.ofInt 8 (l.length:Int)].map b8=(b++EA l 0).map b8:=by rw [← map_append];rfl
 have N:b.length+1=(b++EA l 0).length:=by rw [length_append];rfl
 rw [I,N] at k
 clear h d L A
 refine Ab O<|Bc<|Ad O<|Aa (Au AH O ‹_›) O ?_
 refine Ad O<|Al<|Ax ?_
 refine B2 (S:=(Nat×Value)) (fun z=>[(0,z.2),(13,u),(14, .int .i64 (l.length:Int)),(15, .int .i64 (z.1:Int))]) (fun z w' =>z.1≤l.length∧Below W.heap.size W w' ∧w'.ownsRow W.heap.size 5 1 z.2 (b++EA l z.1).length ((b++EA l z.1).map b8)∧Ml w w' v z.2) (fun z=>l.length - z.1) ((0,J)) ⟨rfl,rfl,rfl,rfl,trivial⟩ ?_ ?_
 ·exact ⟨Nat.zero_le _,x,k,a⟩
 clear k C a
 rintro ⟨i,y⟩ U ⟨G,j,p,a⟩
 dsimp only at G j p a ⊢
 have M:=D.bs j
 refine Ak<|B9 O<|Al<|Aq<|An O ?_ ?_
 ·intro g
  have c:i<l.length:=by have:=AF g;omega
  have o:(b++EA l i).length+1=(b++EA l (i+1)).length:=by rw [length_append,length_append,Iz G,Iz c];rfl
  have X:(b++EA l (i+1)).length=b.length+(i+2):=by rw [length_append,Iz c]
  have Q:(b++EA l i)++[BitVec.ofInt 8 (l.getD i default)]=b++EA l (i+1):=by rw [ME c,append_assoc]
  refine B4<|Aq<|Ax<|Ak<|Aa (Bd AH O O ‹_› _ O (by omega)) O ?_
  refine Aa (Bi (BD _) O ‹_› (by omega)) O ?_
  refine Ab O<|Al<|A6<|Ad O<|Ad O<|Aa (Ee Lj Ho O) O<|Ar (Cb (vs:=[BitVec.ofInt 8 (l.getD i default)].map b8) AL CT O O O O O) O ?_
  rintro q R ⟨d, -,m, -⟩
  have p:=AG p m
  have f:=bt j m
  have a:=a.bs m
  refine Ar (B7 (base:=W.heap.size) AL CT O (by decide) O O p (AK d) (BF (fun _=>rfl) _) (by omega) (by omega) f.size) O ?_
  rintro K Z ⟨t,E,B,F⟩
  have a:=a.app B (F.imp id fun e b o=>by rw [e] at o;cases o;omega)
  rw [← map_append,Q,o] at t
  refine Ab O<|A9<|Ba<|Ct<|Ce O (by omega)<|Ad O<|A9 ?_
  exact Az (Bw ((i+1,K)) ⟨rfl,rfl,rfl,rfl,trivial⟩ (⟨c,f.trans E,t,a⟩) (by simp only;omega))
 intro g
 have c:i=l.length:=by have:=AE g;omega
 subst c
 rw [O2] at p
 exact Bu<|Av<|Av<|Bf<|Ci<|Ad rfl<|Ab rfl<|As<|Am rfl rfl<|⟨j,p,a⟩
def EF (ls:List N5) (ws:List T4):Bool:=(FF ls).isSome && (decide ((F2 ls).length=ws.length) && NC (ws.map pv) (F2 ls))
theorem GN.ad {w:World} {v:Value} {ls:List N5} (h:GN w v ls) {i:Nat} (d:i<ls.length):∃ad c k,v= .slice (some ad) c k:=by
 obtain ⟨_,a,cap,rfl,_,_,b,_⟩:=h.sl
 cases a with
 |none=>have:=b rfl;omega
 |some ad=>exact ⟨_,_,_,rfl⟩
theorem GN.cell {w:World} {v:Value} {ls:List N5} (h:GN w v ls) {i:Nat} (a:i<ls.length):(HY N5.cells ls)[i*5+0]? =some (b8 ls[i].k)∧(HY N5.cells ls)[i*5+2]? =some ls[i].y:=by
 obtain ⟨q,e,c⟩:=h.cells a 0 (by decide)
 obtain ⟨r,g,d⟩:=h.cells a 2 (by decide)
 have b:b8 ls[i].k=q:=Option.some.inj e
 have f:ls[i].y=r:=Option.some.inj g
 exact ⟨by rw [b];exact c,by rw [f];exact d⟩
theorem Sx (v u:Value) (A i:Nat) (ls:List N5) (t:T4) (W:World) (f:AN W A 27 [v,u]) (h:GN W v ls) (j:i<ls.length) (e:t.at W):
  AO prog 142 [.int .i64 (i:Int),t.v, .pointer (some ⟨A,0,none⟩)] W (fun r w' =>r= .bool (JH (pv t) ls[i].s)∧Below W.heap.size W w'):=by
 have k:=Below.refl W.heap.size W
 have o:=h.ad j
 have m:=(h.cell j).2
 have l:=(h.each _ (getElem_mem j)).s
 refine A5 (n:=20) func142 O<|Ak<|Cv (cs:=[t.x,t.y]) O O O ?_
 rintro y w p s d -
 have k:=k.bs d
 have h:=h.bs d
 have e:=e.bs d
 have f:=f.bs d
 have l:=l.bs d
 refine Ab O<|Al<|Aq ?_
 rename World=>b
 refine Cw.any mixed (fun z c _=> ?_)
 refine Da (fun w' =>Below b.heap.size b w') (fun C=> ?_) (c)
 refine B1 (Af A8)<|Ah 0 O (fun b a=>Ch (Ih _) (HA _) O O (AN.bs ‹_› a)) O<|Bn ?_
 refine AJ.only ‹_› (i:=1) (by kernel_rfl) O ?_
 refine Ai O O (Lo t.x t.y t.s t.l z (e.bs c).1 (e.bs c).2) ?_
 rintro _ x ⟨rfl,d⟩
 have c:=bt c d
 refine AJ.back<|B1 (Af A8)<|Ah 2 O (fun b a=>Bt O) O<|Bn ?_
 refine F4 8 O ?_ ?_
 ·intro g
  refine Br (i:=3) (dj:=8) (Af A8) O O O (by kernel_rfl) (by kernel_rfl) (by kernel_rfl) (fun b a=>Cm underlying75 O (BK _)) O<|Br (i:=4) (dj:=8) (Af A8) O O O (by kernel_rfl) (by kernel_rfl) (by kernel_rfl) (fun b a=>Ap (AV _) O (AN.bs ‹_› a) O) O<|Br (i:=5) (dj:=8) (Af A8) O O O (by kernel_rfl) (by kernel_rfl) (by kernel_rfl) (fun b a=>Cm underlying27 O (BT _)) O<|Br (i:=6) (dj:=8) (Af A8) O O O (by kernel_rfl) (by kernel_rfl) (by kernel_rfl) (fun b a=>Cm underlying24 O (BY _)) O<|Br (i:=7) (dj:=8) (Af A8) O O O (by kernel_rfl) (by kernel_rfl) (by kernel_rfl) (fun b a=>Ap (DF _) O (AN.bs ‹_› a) O) O<|Br (i:=8) (dj:=8) (Af A8) O O O (by kernel_rfl) (by kernel_rfl) (by kernel_rfl) (fun b a=>Bt O) O<|Br (i:=9) (dj:=8) (Af A8) O O O (by kernel_rfl) (by kernel_rfl) (by kernel_rfl) (fun b a=>C5 BV O O (h.sl.bs a) i O j) O<|Br (i:=10) (dj:=8) (Af A8) O O O (by kernel_rfl) (by kernel_rfl) (by kernel_rfl) (fun b a=>Dp (q:=0) underlying79 O (BK _) O o) O<|Br (i:=11) (dj:=8) (Af A8) O O O (by kernel_rfl) (by kernel_rfl) (by kernel_rfl) (fun b a=>F0 (AV _) O (h.sl.bs a) m) O<|AJ.only ‹_› (i:=12) (by kernel_rfl) O ?_
  refine Aj (dj:=8) O O<|Ai O O (GW t.x ls[i].y t.s ls[i].s x (e.bs c).1 (l.bs c)) ?_
  rintro _ B ⟨rfl,d⟩
  have c:=bt c d
  refine AJ.back<|B1 (Af A8)<|Ah 13 O (fun b a=>Db O O) O<|Ah 14 O (fun b a=>Bq O) O<|Bn<|AJ.done ‹_› (by kernel_rfl) ?_
  refine Az<|Cd<|Et<|Am O O ?_
  exact ⟨cngA Value.bool (show decide (t.s=ls[i].s)=(Mi t.s t.l && decide (t.s=ls[i].s)) by rw [g];rfl),bt k c⟩
 intro g
 refine Bl (i:=3) (dj:=8) (Af A8) O O O O (by kernel_rfl) (by kernel_rfl) (by kernel_rfl) O<|Bl (i:=4) (dj:=8) (Af A8) O O O O (by kernel_rfl) (by kernel_rfl) (by kernel_rfl) O<|Bl (i:=5) (dj:=8) (Af A8) O O O O (by kernel_rfl) (by kernel_rfl) (by kernel_rfl) O<|Bl (i:=6) (dj:=8) (Af A8) O O O O (by kernel_rfl) (by kernel_rfl) (by kernel_rfl) O<|Bl (i:=7) (dj:=8) (Af A8) O O O O (by kernel_rfl) (by kernel_rfl) (by kernel_rfl) O<|Bl (i:=8) (dj:=8) (Af A8) O O O O (by kernel_rfl) (by kernel_rfl) (by kernel_rfl) O<|Bl (i:=9) (dj:=8) (Af A8) O O O O (by kernel_rfl) (by kernel_rfl) (by kernel_rfl) O<|Bl (i:=10) (dj:=8) (Af A8) O O O O (by kernel_rfl) (by kernel_rfl) (by kernel_rfl) O<|Bl (i:=11) (dj:=8) (Af A8) O O O O (by kernel_rfl) (by kernel_rfl) (by kernel_rfl) O<|Bl (i:=12) (dj:=8) (Af A8) O O O O (by kernel_rfl) (by kernel_rfl) (by kernel_rfl) O<|B1 (Af A8)<|Ah 13 O (fun b a=>Dm O O) O<|Ah 14 O (fun b a=>Bq O) O<|Bn<|AJ.done ‹_› (by kernel_rfl) ?_
 refine Az<|Cd<|Et<|Am O O ?_
 exact ⟨cngA Value.bool (show false=(Mi t.s t.l && decide (t.s=ls[i].s)) by rw [g];rfl),bt k c⟩
theorem TD (q u:Value) (b:List Int) (ws:List T4) (f:FuncId) (cap:List Value) (P:Nat→Bool) (w:World) (D:BB (Value.int .i64) w q b) (z:EI w u ws)
  (L:∀i w',i<b.length→∀(h:i<ws.length),Below w.heap.size w w' →AO prog f ([]++[.int .i64 (b.getD i default),ws[i].v]++cap) w' (fun r A=>r= .bool (P i)∧Below w'.heap.size w' A)):
  AO prog 141 [q,u, .func (.func f) #[] cap.toArray] w (fun r w' =>r= .bool (decide (b.length=ws.length) && (List.range b.length).all P)∧Below w.heap.size w w'):=by
 have G:=D.le
 have H:=z.1
 refine A5 (n:=32) func141 O<|Ak<|Ab O<|Bc<|Ad O<|Aa (Au AH O ‹_›) O ?_
 refine Ad O<|Aa (Au CR O ‹_›) O ?_
 refine Aa (Cz O O) O<|Al<|An O ?_ ?_
 ·intro g
  have g:¬b.length=ws.length:=fun e=>by rw [e] at g;simp at g
  refine Ak<|Ab O<|Bx<|Am O O ?_
  exact ⟨by rw [decide_eq_false g];rfl,Below.refl _ _⟩
 intro g
 have g:b.length=ws.length:=by simp at g;omega
 rw [decide_eq_true g,Bool.true_and]
 refine B4<|Aq<|Ak<|Ad O<|Aa (Au AH O ‹_›) O ?_
 refine Ad O<|Al<|Ax ?_
 refine B2 (S:=Nat) (fun i=>[(1,u),(2, .func (.func f) #[] cap.toArray),(15,q),(16, .int .i64 (b.length:Int)),(17, .int .i64 (i:Int))]) (fun i w' =>i≤b.length∧(∀j,j<i→P j=true)∧Below w.heap.size w w') (fun i=>b.length - i) (0) ⟨rfl,rfl,rfl,rfl,rfl,trivial⟩ ?_ ?_
 ·exact ⟨Nat.zero_le _,fun _ h=>by omega,Below.refl _ _⟩
 rintro i U ⟨W,hall,o⟩
 have F:=D.bs o
 have k:=(z.bs o).1
 refine Ak<|B9 O<|Al<|Aq<|An O ?_ ?_
 ·intro C
  have c:i<b.length:=by have:=AF C;omega
  have y:i<ws.length:=by omega
  obtain ⟨a,R,t,J,K⟩:=K9 y
  have v:=(z.bs o).2 a t
  refine B4<|Aq<|Ax<|Ak<|Ad O<|Aa (Bd AH O O ‹_› _ O (by omega)) O ?_
  refine Aa (Bi (BD _) O ‹_› (by omega)) O ?_
  refine Ab O<|Ab O<|A0<|Ad O<|Ad O<|Aa (C5 CR O O k i O y) O<|Aa (D0 (cs:=[a.x,a.y]) (Ih _) (HA _) O k O (by decide) (Hh J K)) O<|C1 (cs:=[a.x,a.y]) J9 O O O O (fun _=>rfl) (v.one) ?_
  rintro M T E N Q I
  have l:=bt o Q
  have m:=L i T c y l
  rw [← R] at m
  refine A0<|Ad O<|Ad O<|Aa (Ch (Ih _) (HA _) O O ‹_›) O ?_
  refine Eb (p:=[]) (q:=cap) O O O (m) ?_
  rintro _ V ⟨rfl,x⟩
  have s:=bt l x
  refine Aa (Cy O) O<|Al<|An O ?_ ?_
  ·intro d
   have d:P i=false:=by simpa using d
   refine Ak<|Ab O<|As<|Be<|Ay<|Ay<|Be<|Ay<|Am O O ?_
   refine ⟨?_,s⟩
   congr 1
   exact (List.all_eq_false.2 ⟨i,List.mem_range.2 c,by rw [d];decide⟩).symm
  intro d
  have d:P i=true:=by simpa using d
  refine Cj<|Ba<|Ct<|Ce O (by omega)<|Ad O<|A9 ?_
  exact Az (Bw (i+1) ⟨rfl,rfl,rfl,rfl,rfl,trivial⟩ (⟨c,fun j B=>(Nat.lt_succ_iff_lt_or_eq.1 B).elim (hall j) (fun e=>by rw [e];exact d),s⟩) (by omega))
 intro C
 have c:i=b.length:=by have:=AE C;omega
 refine Bu<|Av<|Av<|Bf<|Ci<|Ab O<|As<|Am O O ?_
 refine ⟨?_,o⟩
 congr 1
 exact (List.all_eq_true.2 fun j B=>hall j (by rw [c];exact List.mem_range.1 B)).symm
theorem R5 (v u:Value) (ls:List N5) (ws:List T4) (W:World) (h:GN W v ls) (d:EI W u ws):
  AO prog 41 [.agg [v,u].toArray] W (fun r w' =>r= .bool (EF ls ws)∧Below W.heap.size W w'):=by
 have f:=Below.refl W.heap.size W
 refine A5 (n:=16) func41 O<|Ak<|Cv (cs:=[v,u]) O O O ?_
 rintro m w y b a -
 have f:=f.bs a
 have h:=h.bs a
 have d:=d.bs a
 refine Ab O<|Bc<|Bb underlying27 O (BT _)<|Aa (D7 (ds:=[v]) (EX _) (BT _) O O ‹_› rfl) O ?_
 refine Ai O O (HW v ls w h) ?_
 rintro _ w ⟨a,rfl⟩
 have f:=f.bs a
 have h:=h.bs a
 have d:=d.bs a
 have b:=b.bs a
 refine Aa (Cy O) O<|Al<|An O ?_ ?_
 ·intro g
  have g:(FF ls).isSome=false:=by simpa using g
  refine Ak<|Ab O<|Bx<|Am O O ?_
  exact ⟨by unfold EF;rw [g];rfl,f⟩
 intro g
 obtain ⟨p,o⟩:∃p,FF ls=some p:=by
  cases e:FF ls with
  |none=>rw [e] at g;cases g
  |some p=>exact ⟨p,rfl⟩
 have x:=KO o
 refine Cf<|Bb underlying27 O (BT _)<|Aa (D7 (ds:=[v]) (EX _) (BT _) O O ‹_› rfl) O ?_
 refine Ai O O (MG v ls w h (by omega)) ?_
 rintro q w ⟨a,t⟩
 have f:=f.bs a
 have h:=h.bs a
 have d:=d.bs a
 have b:=b.bs a
 have D:∀j w',j<(CM ls).length→∀(k:j<ws.length),Below w.heap.size w w' →AO prog 142 ([]++[.int .i64 ((CM ls).getD j default),ws[j].v]++[.pointer (some ⟨m,0,none⟩)]) w' (fun r w'' =>r= .bool (JH ((ws.map pv).getD j ([],[])) ((F2 ls).getD j default).s)∧Below w'.heap.size w' w''):=by
  intro j w' G k a
  obtain ⟨i,c,B,z,E⟩:=Mm G
  have:=Sx v u m i ls ws[j] w' (b.bs a) (h.bs a) c ((d.bs a).2 _ (getElem_mem k))
  have F:(ws.map pv).getD j ([],[])=pv ws[j]:=by rw [getD_eq_getElem?_getD,getElem?_map,getElem?_eq_getElem k];rfl
  have C:((F2 ls).getD j default).s=ls[i].s:=by
   rw [getD_eq_getElem?_getD,getElem?_eq_getElem z,Option.getD_some,E,getD_eq_getElem?_getD,getElem?_eq_getElem c];rfl
  rw [B,F,C]
  exact this
 refine Ab O<|A0<|Ad O<|Bb underlying27 O (DC _)<|Aa (Ap (FO _) O ‹_› rfl) O ?_
 refine Aa (Er (vs:=[]) O O) O<|Ai O O (TD q u (CM ls) ws 142 [.pointer (some ⟨m,0,none⟩)] (fun j=>JH ((ws.map pv).getD j ([],[])) ((F2 ls).getD j default).s) w t d D) ?_
 rintro _ w ⟨rfl,a⟩
 refine Ab O<|As<|Am O O ?_
 refine ⟨?_,bt f a⟩
 have A:(CM ls).length=(F2 ls).length:=by rw [← Ja,length_map]
 unfold EF
 rw [o,A]
 congr 1
 show _=(true && _)
 rw [Bool.true_and]
 by_cases hl:(F2 ls).length=ws.length
 ·rw [decide_eq_true hl,Bool.true_and,Bool.true_and,Bool.eq_iff_iff,FG (by rw [length_map,hl]),all_eq_true]
  constructor
  ·intro s i c
   have:=s i (List.mem_range.2 c)
   rwa [getD_eq_getElem?_getD (l:=F2 ls),getElem?_eq_getElem c] at this
  ·intro s i c
   have c:=List.mem_range.1 c
   have:=s i c
   rw [getD_eq_getElem?_getD (l:=F2 ls),getElem?_eq_getElem c]
   exact this
 ·rw [decide_eq_false hl];rfl

-- dd: text
theorem Hg (v u:Value) (d:List (List UInt8)) (a:List Int) (W w:World) (Y:IK W) (L:Below W.heap.size W w) (h:w.ownsRow W.heap.size 9 1 v d.length (d.map st)) (Q:∀w',Below W.heap.size W w' →w.grownBy w' v.ownBlock→BB (Value.int .i64) w' u a) (Z:∀n ∈ a, -9223372036854775808≤n∧n≤9223372036854775807) (hl:d.length+a.length≤1000000):
  AO prog 119 [v,u] w (fun r w' =>Below W.heap.size W w' ∧w'.ownsRow W.heap.size 9 1 r (d++a.map Lib.itoa).length ((d++a.map Lib.itoa).map st)∧Ml w w' v r):=by
 have X:=Q w L (Ff w v).g
 refine A5 (n:=20) func119 O<|Ak<|Ab O<|Bc<|Ad O<|Aa (Au AH O ‹_›) O ?_
 refine Ad O<|Al<|Ax ?_
 refine B2 (S:=(Nat×Value)) (fun z=>[(0,z.2),(7,u),(8, .int .i64 (a.length:Int)),(9, .int .i64 (z.1:Int))]) (fun z w' =>z.1≤a.length∧Below W.heap.size W w' ∧w'.ownsRow W.heap.size 9 1 z.2 (d++(a.take z.1).map Lib.itoa).length ((d++(a.take z.1).map Lib.itoa).map st)∧Ml w w' v z.2) (fun z=>a.length - z.1) ((0,v)) ⟨rfl,rfl,rfl,rfl,trivial⟩ ?_ ?_
 ·exact ⟨Nat.zero_le _,L,by simpa using h,Ff w v⟩
 rintro ⟨i,y⟩ s ⟨V,l,m,o⟩
 dsimp only at V m o ⊢
 have T:=Q s l o.g
 have K:IK s:=Y.bs l
 have zB:=l.size
 refine Ak<|B9 O<|Al<|Aq<|An O ?_ ?_
 ·intro g
  have c:i<a.length:=by have:=AF g;omega
  have H:=Z (a.getD i default) (by rw [getD_eq_getElem?_getD,getElem?_eq_getElem c];exact getElem_mem c)
  obtain ⟨x,t⟩:∃x,x=a.getD i default:=⟨_,rfl⟩
  rw [← t] at H
  have N:(a.take (i+1)).map Lib.itoa=(a.take i).map Lib.itoa++[Lib.itoa x]:=by
   rw [take_succ_eq_append_getElem c,map_append,t,getD_eq_getElem?_getD,getElem?_eq_getElem c];rfl
  refine B4<|Aq<|Ax<|Ak<|Aa (Bd AH O O ‹_› _ O (by omega)) O ?_
  refine Aa (Bi (BD _) O ‹_› (by omega)) O ?_
  refine Ab O<|Al<|A6<|Ad O<|Ad O ?_
  rw [← t]
  refine Ai O O (S5 x s K H.1 H.2) ?_
  rintro _ w2 ⟨rfl,j⟩
  have z2:=j.size
  have I:=AG m j
  have J:=o.bs j
  refine Ar (Cb (vs:=[Lib.itoa x].map st) BW JY O O O O O) O ?_
  rintro q w3 ⟨F, -,f, -⟩
  have z3:=f.size
  have A:=AG I f
  have C:=J.bs f
  refine Ar (B7 (base:=W.heap.size) BW JY O (by decide) O O A (AK F) (Jg _) (by simp;omega) (by simp;omega) (by omega)) O ?_
  rintro M w4 ⟨k,p,B,G⟩
  have E:=C.app B (G.imp id fun e b (U:M.ownBlock=some b)=>Nat.le_of_eq (Option.some.inj (e.symm.trans U)))
  have D:=((l.trans (j.mono (by omega))).trans (f.mono (by omega))).trans p
  have R:(d++(a.take i).map Lib.itoa).map st++[Lib.itoa x].map st=(d++(a.take (i+1)).map Lib.itoa).map st:=by rw [N,← map_append,append_assoc]
  have e1:(d++(a.take i).map Lib.itoa).length+1=(d++(a.take (i+1)).map Lib.itoa).length:=by rw [N,← append_assoc,length_append (bs:=[_])];rfl
  rw [R,e1] at k
  refine Ab O<|A9<|Ba<|Ct<|Ce O (by omega)<|Ad O<|A9 ?_
  exact Az (Bw ((i+1,M)) ⟨rfl,rfl,rfl,rfl,trivial⟩ (⟨c,D,k,E⟩) (by simp only;omega))
 intro g
 have c:i=a.length:=by have:=AE g;omega
 subst c
 rw [take_length] at m
 exact Bu<|Av<|Av<|Bf<|Ci<|Ad rfl<|Ab rfl<|As<|Am rfl rfl<|⟨l,m,o⟩
def Rw.shaped (r:Rw):Bool:=decide (r.least=0)||decide (r.nxt=[116,111])
theorem Lq (r:Rw) (w:World):AO prog 120 [.agg r.cells.toArray] w (fun v w' =>v= .bool r.shaped∧Below w.heap.size w w'):=by
 have a:=Below.refl w.heap.size w
 refine A5 (n:=11) func120 O<|Ak<|Cv (cs:=r.cells) O O O ?_
 rintro d w b c f -
 have a:=a.bs f
 refine Ab O<|A0<|Bb underlying125 O (BZ _)<|Aa (Ap (BD _) O ‹_› rfl) O ?_
 refine Aa (Cn O O) O<|Ad O ?_
 refine Cc 6 O ?_ ?_
 ·intro g
  have g:r.least=0:=by have:=AF g;omega
  refine Ae (dj:=6) O O O O<|Ae (dj:=6) O O O O<|Ae (dj:=6) O O O O<|Bv O<|Ab O<|As<|Am O O ?_
  exact ⟨by unfold Rw.shaped;rw [decide_eq_true g];rfl,a⟩
 intro g
 have g:¬r.least=0:=fun e=>by have:=AE g;omega
 refine Aj (dj:=6) O O<|Bb underlying125 O (H9 _)<|Aj (dj:=6) O O<|Aa (Ap (GA _) O ‹_› rfl) O ?_
 refine Aj (dj:=6) O O<|Aa (Ey O O) O<|Cl O<|Ab O<|As<|Am O O ?_
 exact ⟨by unfold Rw.shaped;rw [decide_eq_false g];rfl,a⟩
end Go.Proofs.YtblbopcaflaldaaGreatDoor

namespace Go.Proofs.YtblbopcaflaldaaGreatDoor
open Go Go.Dd Go.RowKit List
set_option maxRecDepth 100000



def cn (i:Int):List Int→Nat
 |[]=>0
 |x::l=>(if x=i then 1 else 0)+cn i l
def fl (m:Int):List Int→Nat
 |[]=>0
 |x::l=>(if 0≤x∧x<m then 1 else 0)+fl m l
theorem Ky (i:Int):∀a b:List Int,cn i (a++b)=cn i a+cn i b
 |[],b=>by simp [cn]
 |x::a,b=>by simp only [cons_append,cn];rw [Ky i a b];omega
theorem MQ {i:Int}:∀{l:List Int},i ∈ l→1≤cn i l
 |x::l,h=>by
  simp only [cn]
  rcases List.mem_cons.1 h with rfl|h
  ·rw [if_pos rfl];omega
  ·have:=MQ h;omega
theorem IT (m:Nat):∀l:List Int,fl ((m+1:Nat):Int) l=fl (m:Int) l+cn (m:Int) l
 |[]=>rfl
 |x::l=>by
  simp only [fl,cn]
  rw [IT m l]
  split<;>split<;>split<;>omega
theorem N2:∀l:List Int,fl 0 l=0
 |[]=>rfl
 |x::l=>by
  simp only [fl]
  rw [N2 l,if_neg (by omega)]
theorem Qg (m:Int):∀l:List Int,fl m l≤l.length
 |[]=>AT _
 |x::l=>by
  have:=Qg m l
  simp only [fl,length_cons]
  split<;>omega
theorem Qh {m:Int}:∀{l:List Int},fl m l=l.length→∀x ∈ l,0≤x∧x<m
 |[],_,x,a=>by simp at a
 |y::l,h,x,a=>by
  have:=Qg m l
  simp only [fl,length_cons] at h
  by_cases g:0≤y∧y<m
  ·rw [if_pos g] at h
   rcases List.mem_cons.1 a with rfl|a
   ·exact g
   ·exact Qh (by omega) x a
  ·rw [if_neg g] at h;omega
theorem SO {l:List Int} (h:∀i:Nat,i<l.length→cn (i:Int) l=1):Hv l=true:=by
 have e:∀m:Nat,m≤l.length→fl (m:Int) l=m:=fun m=>by
  induction m with
  |zero=>intro _;exact N2 l
  |succ m ih=>intro d;rw [IT,ih (by omega),h m (by omega)]
 have a:=Qh (e l.length (AT _))
 refine It.2 fun j b=> ?_
 have d:l.getD j default ∈ l:=by simp [b]
 have c:=a _ d
 unfold P5
 rw [decide_eq_true c.1,decide_eq_true c.2]
 cases hc:(l.take j).contains (l.getD j default) with
 |false=>rfl
 |true=>
  have f:l.getD j default ∈ l.take j:=by simpa using hc
  have o:=MQ f
  have k:cn (l.getD j default) (l.drop j)=1+cn (l.getD j default) (l.drop (j+1)):=by
   rw [drop_eq_getElem_cons b]
   simp [cn,b]
  have n:cn (l.getD j default) l=cn (l.getD j default) (l.take j)+cn (l.getD j default) (l.drop j):=by rw [← Ky,take_append_drop]
  have g:=h (l.getD j default).toNat (by omega)
  rw [Int.toNat_of_nonneg c.1] at g
  omega
theorem Ks (i:Nat):∀n,PS (fun x=>if x=i then 1 else 0) n=if i<n then 1 else 0
 |0=>rfl
 |n+1=>by
  simp only [PS]
  rw [Ks i n]
  split<;>split<;>split<;>omega
theorem N7 (i:Nat):∀{l:List Int},(∀x ∈ l,0≤x)→(cn (i:Int) l:Int)=HO (fun x=>if x=i then 1 else 0) (Sn l)
 |[],_=>rfl
 |x::l,h=>by
  have c:=h x (by simp)
  have a:=N7 i (l:=l) fun y b=>h y (by simp [b])
  simp only [Sn] at a ⊢
  simp only [map_cons,HO,cn]
  rw [← a]
  by_cases g:x=(i:Int)
  ·rw [if_pos g,if_pos (by omega)];omega
  ·rw [if_neg g,if_neg (by omega)];omega
theorem Sm {l:List Int} (h:Hv l=true) (b:l.length≤4) {i:Nat} (d:i<l.length):cn (i:Int) l=1:=by
 have c:∀x ∈ l,0≤x:=fun x f=>by
  obtain ⟨j,a,e⟩:=getElem_of_mem f
  have:=(Ir h a).1
  rwa [show l.getD j default=x by simp [a,e]] at this
 have e:=N7 i c
 rw [Og (P4 h b),J1,Ks,if_pos d] at e
 omega
end Go.Proofs.YtblbopcaflaldaaGreatDoor

namespace Go.Dd
open Go Go.RowKit
open List hiding get
section
variable {P : Program} {Q : BC} {n : Nat} {E : BN} {w : World} {ty t s e : TypeId} {x y : Operand} {a b : ByteArray} {u v z : Value}
theorem Pw.ret3 {d:Func} {R:Value→World→Prop} {p q r:Nat} (i:d.results= #[.tmp p, .tmp q, .tmp r]) (f:get E p=some u) (g:get E q=some v) (j:get E r=some z) (h:R (.tuple #[u,v,z]) w):Pw n E (OO P d R .ret) w:=fun a c=>
 bodyPost_ret (v:= .tuple #[u,v,z]) (by rw [results_tmp3 i];simp [Array.getD_eq_getD_getElem?,c.has _ _ f,c.has _ _ g,c.has _ _ j]) c.dfr ⟨_,rfl,h⟩
theorem Jm {j:Func} {p q r:Tmp} {c:TypeId} (h:j.results= #[.cell p c, .tmp q, .tmp r]) (tmps:Array Value) (w:World) (g:Nat) (i:TypeId) (cs:Array Value) (k:Nat×Nat) (d:TypeDesc)
  (m:tmps.getD p undef= .pointer (some ⟨g,0,none⟩)) (A:w.heap[g]? =some (.cells cs i k))
  (o:P.underlying c=some d) (l:(match d with| .struct _| .array _ _=>true|_=>false)=true) (B:(P.info? c).map (·.size)=some cs.size):
  (results j tmps).run P w= .ok (.tuple #[.agg cs,tmps.getD q undef,tmps.getD r undef]) w:=by
 have f:tmps[p]?.getD undef= .pointer (some ⟨g,0,none⟩):=by simpa using m
 simp [results,h,f,asAddr,run_loadVar_row w g i c cs k d A o l B]
theorem Eo {f:Func} {R:Value→World→Prop} {p q r b k:Nat} {T:TypeId} {cs:List Value} {d:TypeDesc} (m:f.results= #[.cell p e, .tmp q, .tmp r]) (i:get E p=some (.pointer (some ⟨b,0,none⟩))) (l:get E q=some u) (C:get E r=some v) (A:AN w b T cs)
  (o:P.underlying e=some d) (g:(match d with| .struct _| .array _ _=>true|_=>false)=true) (B:(P.info? e).map (·.size)=some k) (j:cs.length=k) (h:R (.tuple #[.agg cs.toArray,u,v]) w):Pw n E (OO P f R .ret) w:=fun a c=>by
 subst j
 have:=Jm m a.tmps w b T cs.toArray (0,0) d (by simp [Array.getD_eq_getD_getElem?,c.has _ _ i]) A o g (by simpa using B)
 rw [show a.tmps.getD q undef=u by simp [Array.getD_eq_getD_getElem?,c.has _ _ l],show a.tmps.getD r undef=v by simp [Array.getD_eq_getD_getElem?,c.has _ _ C]] at this
 exact bodyPost_ret this c.dfr ⟨_,rfl,h⟩
end
end Go.Dd

namespace Go.Proofs.YtblbopcaflaldaaGreatDoor
open Go Go.Dd Go.RowKit List
set_option maxRecDepth 100000
theorem RB {l:List Int}:∀m:Nat,(∀i:Nat,i<m→1≤cn (i:Int) l)→m≤fl (m:Int) l
 |0,_=>Nat.zero_le _
 |m+1,h=>by
  have:=RB m fun i a=>h i (by omega)
  have:=h m (by omega)
  rw [IT];omega
theorem RA {l:List Int} {j:Nat} (a:2≤cn (j:Int) l):∀m:Nat,j<m→(∀i:Nat,i<m→1≤cn (i:Int) l)→m+1≤fl (m:Int) l
 |0,h,_=>by omega
 |m+1,h,hh=>by
  rw [IT]
  by_cases e:j=m
  ·have:=RB m fun i b=>hh i (by omega)
   rw [← e] at this ⊢;omega
  ·have:=RA a m (by omega) fun i b=>hh i (by omega)
   have:=hh m (by omega)
   omega
theorem N6 {i:Int}:∀{l:List Int},i ∉ l→cn i l=0
 |[],_=>rfl
 |x::l,h=>by
  simp only [cn]
  rw [N6 fun a=>h (mem_cons_of_mem _ a),if_neg fun e=>h (by rw [e];simp)]
theorem JA (s:List Int):IH s=(decide (s.length≤4) && Hv s):=by
 unfold IH
 by_cases h4:s.length≤4
 ·rw [decide_eq_true h4,Bool.and_true,Bool.true_and,Bool.eq_iff_iff]
  constructor
  ·intro c
   have d:∀i:Nat,i<s.length→1≤cn (i:Int) s:=fun i a=>MQ (by simpa using Ia.1 c i a)
   refine SO fun i a=> ?_
   have h:=d i a
   by_cases e:2≤cn (i:Int) s
   ·have:=RA e s.length a d
    have:=Qg (s.length:Int) s
    omega
   ·omega
  ·intro f
   refine Ia.2 fun j g=> ?_
   have:=Sm f h4 g
   cases c:s.contains (j:Int) with
   |true=>rfl
   |false=>
    exfalso
    have b:(j:Int) ∉ s:=by simpa using c
    have k:cn (j:Int) s=0:=N6 b
    omega
 ·rw [decide_eq_false h4];simp

def BX (k:BitVec 8):Rw:=(H7.find? fun r=>decide (r.k=k.toNat)).getD ⟨0,[],0,0,[],[]⟩
def EM (r:Rw) (x:N5):List (List UInt8):=
 [r.word]++x.i.map Lib.itoa++(if r.nxt=[] then [] else [r.nxt])++(if r.shaped then x.s.map Lib.itoa else if r.nxt=[] then [] else [Lib.itoa x.n])++(if r.last=[] then [] else [r.last,Lib.itoa x.p])
def J4 (x:N5):List UInt8:=Lib.join (EM (BX x.k) x) [32]++[10]
def CQ (ls:List N5):List UInt8:=(ls.map J4).flatten
def Ke (ls:List N5):Int:=if (FF ls).isSome then 0 else 1
def Kc (ls:List N5):List UInt8:=if (FF ls).isSome then CQ ls else []
theorem QM:∀k:BitVec 8,(CN k).isSome=true→BX k ∈ H7∧((BX k).k:Int)=(k.toNat:Int):=by decide+kernel
theorem Lx:∀r ∈ H7,∀q ∈ H7,r.k=q.k→r=q:=by decide+kernel
theorem Pq {k:BitVec 8} (h:(CN k).isSome=true):RD (b8 k) (.agg (BX k).cells.toArray)∧∀v,RD (b8 k) v→v= .agg (BX k).cells.toArray:=by
 obtain ⟨a,d⟩:=QM k h
 refine ⟨⟨BX k,a,by rw [d],rfl⟩,fun v ⟨q,b,c,e⟩=> ?_⟩
 have:(k.toNat:Int)=(q.k:Int):=by injection c
 rw [e,Lx (BX k) a q b (by omega)]
structure I4 (x:N5):Prop where
 kd:(CN x.k).isSome=true
 ii:∀j ∈ x.i,0≤j∧j≤65536
 ss:∀d ∈ x.s,0≤d∧d≤65536
 nn:0≤x.n∧x.n≤64
 pp:0≤x.p∧x.p≤64
 il:((BX x.k).least:Int)≤x.i.length∧x.i.length≤4
 sl:x.s.length≤4
 s0:(BX x.k).shaped=false→x.s=[]
 n0:((BX x.k).nxt=[]∨(BX x.k).shaped=true)→x.n=0
 p0:(BX x.k).last=[]→x.p=0
 im:(x.i.length:Int)≤(BX x.k).most
theorem QR {s:List Int} (h:Hv s=true) (c:s.length≤4):∀d ∈ s,0≤d∧d≤65536:=fun d b=>by
 obtain ⟨j,a,rfl⟩:=List.mem_iff_getElem.1 b
 have:=Ir h a
 rw [getD_eq_getElem?_getD,getElem?_eq_getElem a] at this
 simp only [Option.getD_some] at this
 omega
theorem Se:∀k:BitVec 8,(match CN k with
  |some [a,b,c,d,e,f]=>decide (((BX k).least:Int)=a) && decide (b≤(BX k).most) && decide (b≤4) && decide (0≤c) && decide (d≤64) && decide (e≤64) && (decide (f=0)||(BX k).shaped) && (!(decide ((BX k).nxt=[])||(BX k).shaped)||(decide (c=0) && decide (d=0))) && (!decide ((BX k).last=[])||decide (e=0))
  |_=>true)=true:=by decide+kernel
theorem QY {x:N5} (h:DA x.k x.i x.s x.n x.p=true) (s:∀j ∈ x.i,0≤j∧j≤65536):I4 x:=by
 unfold DA at h
 have l:=Se x.k
 cases i:CN x.k with
 |none=>rw [i] at h;cases h
 |some r=>
  obtain ⟨_,_,t⟩:=IS i
  obtain ⟨a,b,c,d,e,f,rfl⟩:=Mx t
  rw [i] at h l
  simp only [Bool.and_eq_true,Bool.or_eq_true,Bool.not_eq_true',decide_eq_true_eq] at l
  obtain ⟨⟨⟨⟨⟨⟨⟨⟨u,E⟩,w⟩,F⟩,z⟩,D⟩,o⟩,n⟩,p⟩:=l
  obtain ⟨⟨y,G,A,C,B,v⟩,g⟩:=FK.1 h
  refine ⟨by rw [i];rfl,s, ?_,by omega,by omega,by omega, ?_,fun m=> ?_,fun k=> ?_,fun q=> ?_,by omega⟩
  ·split at g
   ·intro d i
    rw [eq_nil_of_length_eq_zero (AF g)] at i
    cases i
   ·split at g
    ·intro d i
     have:=((Shapes.ok_iff _).1 g).2.1 d i
     omega
    ·rw [JA,Bool.and_eq_true,decide_eq_true_eq] at g
     exact QR g.2 g.1
  ·split at g
   ·have:=AF g
    omega
   ·split at g
    ·exact ((Shapes.ok_iff _).1 g).1.2
    ·rw [JA,Bool.and_eq_true,decide_eq_true_eq] at g
     exact g.1
  ·rcases o with e|e
   ·rw [if_pos e] at g
    exact eq_nil_of_length_eq_zero (AF g)
   ·rw [e] at m;cases m
  ·rcases n with e|e
   ·simp only [Bool.or_eq_false_iff,decide_eq_false_iff_not] at e
    rcases k with k|k
    ·exact absurd k e.1
    ·rw [e.2] at k;cases k
   ·omega
  ·rcases p with e|e
   ·exact absurd q (by simpa using e)
   ·omega
end Go.Proofs.YtblbopcaflaldaaGreatDoor

namespace Go.Dd
open Go Go.RowKit
open List hiding get
def Ik (P:Program) (f:FuncId) (args:List Value) (w:World) (pv:Value) (R:Value→World→Prop) (K:World→Prop):Prop:=
 (∃ fn, P.funcs[f]? = some fn ∧ (fn.name == "runtime.NumGoroutine") = false ∧ fn.body.isSome = true) ∧ Calls P f args.toArray w (fun e w' => (∃ v, e = .returned v ∧ R v w') ∨ (e = .panicked [{ v := pv, recovered := false }] ∧ K w'))
def MX (P:Program) (fn:Func) (pv:Value) (R:Value→World→Prop) (K:World→Prop):BC:=bodyPost P fn (fun e w' =>(∃v,e= .returned v∧R v w')∨(e= .panicked [{v:=pv,recovered:=false}]∧K w'))
section
variable {P : Program} {Q : BC} {n : Nat} {E : BN} {w : World} {l0 rest : List Oper} {ty : TypeId} {pos : String} {af : Array Edge} {x : Operand} {pv : Value}
theorem Ik.mono {f:FuncId} {args:List Value} {R c:Value→World→Prop} {K d:World→Prop} (h:Ik P f args w pv R K) (g:∀v w',R v w' →c v w') (e:∀w',K w' →d w'):Ik P f args w pv c d:=
 ⟨h.1,h.2.mono fun _ _ q=>q.imp (fun ⟨v,b,a⟩=>⟨v,b,g _ _ a⟩) (fun ⟨b,a⟩=>⟨b,e _ a⟩)⟩
theorem Dr {f : FuncId} {b : Func} {c : Code} {args : List Value} {R : Value → World → Prop} {K : World → Prop} (g : P.funcs[f]? = some b) (a : (b.name == "runtime.NumGoroutine") = false) (j : b.body = some c)
  (m:b.ntmps=n) (l:Nat.ble args.length n=true) (h:Cw P (MX P b pv R K) n c (params 0 args) w):Ik P f args w pv R K:=by
 refine ⟨⟨b,g,a,by simp [j]⟩,calls_of_wp g j (h _ ⟨rfl, ?_,fun i v k=> ?_⟩)⟩
 ·have:args.length≤n:=Nat.le_of_ble_eq_true l
  simp [m];omega
 ·have e:=(CW args 0 i v k).2
  simp only [Nat.sub_zero] at e
  have d:i<args.length:=by
   rcases Nat.lt_or_ge i args.length with h|h
   ·exact h
   ·simp [getElem?_eq_none h] at e
  rw [Array.getElem?_append]
  simp only [size_toArray,d,if_true,getElem?_toArray]
  exact e
theorem Fb {c:Func} {R:Value→World→Prop} {K:World→Prop} {t:Nat} {v:Value} (e:c.results= #[.tmp t]) (d:get E t=some v) (h:R v w):Pw n E (MX P c pv R K .ret) w:=fun a b=>
 bodyPost_ret (v:=v) (by rw [results_tmp e];simp [Array.getD_eq_getD_getElem?,b.has _ _ d]) b.dfr (.inl ⟨v,rfl,h⟩)
theorem Pw.ret0q {a:Func} {R:Value→World→Prop} {K:World→Prop} (c:a.results= #[]) (h:R (.tuple #[]) w):Pw n E (MX P a pv R K .ret) w:=fun _ b=>
 bodyPost_ret (v:= .tuple #[]) (by rw [results_none c]) b.dfr (.inl ⟨_,rfl,h⟩)
theorem Fx {a:Func} {R:Value→World→Prop} {K:World→Prop} (c:a.results= #[]) (h:R (.tuple #[]) w):Pw n E (MX P a pv R K .normal) w:=fun _ b=>
 bodyPost_end (v:= .tuple #[]) (by rw [results_none c]) b.dfr (.inl ⟨_,rfl,h⟩)
theorem Cu {b:Func} {R:Value→World→Prop} {K:World→Prop} (h:K w):Pw n E (MX P b pv R K (.panic [{v:=pv,recovered:=false}])) w:=fun _ a=>⟨a.dfr, .inr ⟨rfl,h⟩⟩
theorem Dl {b:Func} {R:Value→World→Prop} {K:World→Prop}:AD (MX P b pv R K):=fun _ a _ o v h=>by
 cases o with
 |none=>exact h
 |some d=>exact h
theorem Bh {K:Act→World→Prop} {c:List PanicEntry} (h:Pw n E (Q (.panic c)) w):Pw n E (BP K Q (.panic c)) w:=h
theorem C7 {a:Nat} {c:List PanicEntry} (h:Pw n E (Q (.panic c)) w):Pw n E (Hf a Q (.panic c)) w:=h
theorem Lw.callQ {d:Nat} {i:Op} {f:FuncId} {vs:List Value} {R:Value→World→Prop} {K:World→Prop} (h:Xc P n E i ty w f vs) (j:Nat.blt d n=true) (l:Ik P f vs w pv R K)
  (m:∀w',K w' →Pw n E (Q (.panic [{v:=pv,recovered:=false}])) w') (k:∀v w',R v w' →Lw P l0 Q n rest ((d,v)::E) w'):Lw P l0 Q n (⟨some d,i,ty,pos,af,none⟩::rest) E w:=
 fun a c=>wpList_plain rfl fun o g=>by
  unfold Oper.wp
  rw [h a c]
  refine l.2.mono fun e w' q=> ?_
  rcases q with ⟨v,rfl,b⟩|⟨rfl,b⟩
  ·exact g _ _ (k v w' b _ (c.put v j))
  ·exact m w' b a c
theorem Cr {d:Nat} {f:FuncId} {xs:List Operand} {vs:List Value} {ts:Array TypeId} {R:Value→World→Prop} {K:World→Prop} (c:evs E xs=some vs) (b:Nat.blt d n=true) (a:Ik P f vs w pv R K)
  (e:∀w',K w' →Pw n E (Q (.panic [{v:=pv,recovered:=false}])) w') (k:∀v w',R v w' →Lw P l0 Q n rest ((d,v)::E) w'):Lw P l0 Q n (⟨some d, .call {callee:= .value (.func f),args:=xs.toArray,argTypes:=ts},ty,pos,af,none⟩::rest) E w:=
 Lw.callQ (Xc.mk a.1 c) b a e k
theorem D1 {T:TypeId} {d:Array Field} {v:Value} (c:P.underlying T=some (.struct d)) (e:ev E x=some v):Ex P n E (.makeInterface T x) ty w (.iface T v):=fun a b _ _ _ _=>by
 simp [execOp,b.ev e,Instr.makeInterface,run_underlying c]
theorem Ea {d:Option Nat} {T:TypeId} {v:Value} (c:ev E x=some (.iface T v)) (h:Pw n E (Q (.panic [{v:= .iface T v,recovered:=false}])) w):Lw P l0 Q n (⟨d, .panic x,ty,pos,af,none⟩::rest) E w:=
 fun a b=>wpList_plain rfl fun f _=>by
  unfold Oper.wp
  have e:(execOp a.eval ⟨d, .panic x,ty,pos,af,none⟩).run P w= .halt (.panic (.iface T v)) w:=by simp [execOp,b.ev c,Instr.panic]
  rw [e]
  exact h a b
end
end Go.Dd

namespace Go.Proofs.YtblbopcaflaldaaGreatDoor
open Go Go.Dd Go.RowKit List Go.Proofs.Tryz
set_option maxRecDepth 100000
def MS:Value:= .iface 106 (.agg #[])
structure K2 (W w:World) (A:Nat) (v:Value) (l:List (BitVec 8)):Prop where
 sl:BB b8 W v l
 bel:Below W.heap.size W w
 lo:W.heap.size≤A
 cell:AN w A 99 [v]
theorem KE (W w:World) (A n:Nat) (v:Value) (l:List (BitVec 8)) (i:K2 W w A v l):
  Ik prog 57 [.pointer (some ⟨A,0,none⟩), .int .i64 (n:Int)] w MS
   (fun r w' =>n≤l.length∧w.grownBy w' (some A)∧w'.heap.size=w.heap.size∧BB b8 W r (l.take n)∧∃v',K2 W w' A v' (l.drop n)) (fun w' =>l.length<n∧w' =w):=by
 obtain ⟨a,e,d,b⟩:=i
 have h:=a.bs e
 refine Dr (n:=31) func57 (by kernel_rfl) O O O<|Ak<|Ab O<|Bc<|Ad O<|Ad O<|Aa (Cp O) O<|Bb underlying99 O (Kf _)<|Aa (Ap (Hy _) O ‹_› rfl) O ?_
 refine Aa (Au AL O ‹_›) O ?_
 refine Aa (C6 O O) O<|Al<|An O ?_ ?_
 ·intro g
  have g:=AF g
  refine A6<|Aa (Bp (vs:=[]) (cs:=[]) O (by kernel_rfl)) O<|Aa (D1 underlying106 O) O ?_
  refine Ea O (Bh (Cu (⟨by omega,rfl⟩)))
 intro g
 have g:=AE g
 have c:n≤l.length:=by omega
 refine Cf<|Ad O<|Aa (Cp O) O<|Bb underlying99 O (Kf _)<|Aa (Ap (Hy _) O ‹_› rfl) O ?_
 refine Ad O<|Aa (Es AL O O ‹_› (by omega)) O ?_
 refine Ab O<|A0<|Ad O<|Ad O<|Aa (Cp O) O<|Bb underlying99 O (Kf _)<|Aa (Ap (Hy _) O ‹_› rfl) O ?_
 refine Ad O<|Aa (Fj AL O O ‹_› (by omega)) O ?_
 refine Aa (Cp O) O<|Bb underlying99 O (Kf _)<|A7 (Ck (Kf _) O O (a.drop c).one' b (show 0<1 by omega)) ?_
 rintro w ⟨b,f,j⟩
 refine A0<|Ad O<|Ab O<|As<|Fb O O ?_
 exact ⟨c,f,j,a.take c,_,⟨a.drop c,e.grown f (AA e) (by rintro _ ⟨⟩;omega),d,b⟩⟩
theorem K2.le {W w:World} {A:Nat} {v:Value} {l:List (BitVec 8)} (h:K2 W w A v l):l.length≤9223372036854775807:=h.sl.le
theorem Pr (W w:World) (A:Nat) (v:Value) (l:List (BitVec 8)) (g:K2 W w A v l):
  Ik prog 52 [.pointer (some ⟨A,0,none⟩)] w MS
   (fun r w' =>1≤l.length∧w.grownBy w' (some A)∧w'.heap.size=w.heap.size∧r= .int .i64 ((l.getD 0 default).toNat:Int)∧∃v',K2 W w' A v' (l.drop 1)) (fun w' =>l.length<1∧w' =w):=by
 refine Dr (n:=8) func52 (by kernel_rfl) O O O<|Ak<|Ab O<|A0<|Ad O<|Cr O O (KE W w A 1 v l g) (fun w' h=>Bh (Cu (h))) ?_
 rintro r k ⟨f,i,j,d,v',c⟩
 have e:=d.bs c.bel
 have a:0<(l.take 1).length:=by rw [length_take];omega
 have a:0<(l.take 1).length:=by rw [length_take];omega
 refine Aa (Fv AL O O e.shp 0 O a) O<|Aa (Bi (KY _) O ‹_› (by omega)) O ?_
 refine Aa (F1 NL H2 O) O<|Ab O<|As<|Fb O O ?_
 refine ⟨f,i,j, ?_,v',c⟩
 cases l with
 |nil=>simp at f
 |cons b t=>rfl
def DU (t:List (BitVec 8)):List Int:=t.map fun b=>(b.toNat:Int)
theorem Iy (t:List (BitVec 8)):(DU t).length=t.length:=length_map ..
theorem MD {t:List (BitVec 8)} {i:Nat} (a:i<t.length):DU (t.take (i+1))=DU (t.take i)++[((t.getD i default).toNat:Int)]:=by
 unfold DU
 rw [take_succ_eq_append_getElem a,map_append,getD_eq_getElem?_getD,getElem?_eq_getElem a]
 rfl
set_option maxHeartbeats 1000000 in
theorem QL (W w:World) (A:Nat) (v:Value) (l:List (BitVec 8)) (Y:K2 W w A v l):
  Ik prog 53 [.pointer (some ⟨A,0,none⟩)] w MS
   (fun r w' =>1≤l.length∧(l.getD 0 default).toNat≤(l.drop 1).length∧w.grownBy w' (some A)∧
    AS w' w.heap.size 3 1 r (DU ((l.drop 1).take (l.getD 0 default).toNat)).length ((DU ((l.drop 1).take (l.getD 0 default).toNat)).map (Value.int .i64))∧
    ∃v',K2 W w' A v' ((l.drop 1).drop (l.getD 0 default).toNat))
   (fun w' =>(l.length<1∨(l.drop 1).length<(l.getD 0 default).toNat)∧w.grownBy w' (some A)):=by
 obtain ⟨n,B⟩:∃n,n=(l.getD 0 default).toNat:=⟨_,rfl⟩
 have J:n<256:=by rw [B];exact (l.getD 0 default).isLt
 rw [← B]
 refine Dr (n:=22) func53 (by kernel_rfl) O O O<|Ak<|Ab O<|Bc<|Ad O<|Ad O<|Cr O O (Pr W w A v l Y) (fun w' k=>Bh (Bh (Cu (⟨.inl k.1,k.2 ▸ AY (Below.refl _ _) _⟩)))) ?_
 rintro _ G ⟨L,m,M,rfl,N,D⟩
 rw [← B]
 refine Cr O O (KE W G A n N _ D) (fun w' k=>Bh (Bh (Cu (⟨.inr k.1,k.2 ▸ m⟩)))) ?_
 rintro r s ⟨H,u,U,p,V,a⟩
 obtain ⟨t,E⟩:∃t,t=(l.drop 1).take n:=⟨_,rfl⟩
 rw [← E] at p ⊢
 have K:=AQ m u
 have T:s.heap.size=w.heap.size:=by omega
 have f:=p.bs a.bel
 have lt:t.length≤255:=by rw [E,length_take];omega
 refine Aa (Au AL O ‹_›) O ?_
 refine Ad O<|Al<|Ax ?_
 refine B2 (S:=(Nat×Value)) (fun z=>[(0, .pointer (some ⟨A,0,none⟩)),(2,z.2),(8,r),(9, .int .i64 (t.length:Int)),(10, .int .i64 (z.1:Int))]) (fun z w' =>z.1≤t.length∧Below s.heap.size s w' ∧w'.ownsRow s.heap.size 3 1 z.2 (DU (t.take z.1)).length ((DU (t.take z.1)).map (Value.int .i64))) (fun z=>t.length - z.1) ((0, .slice none 0 0)) ⟨rfl,rfl,rfl,rfl,rfl,trivial⟩ ?_ ?_
 ·exact ⟨Nat.zero_le _,Below.refl _ _,World.ownsRow_nil _ _ _ _⟩
 rintro ⟨i,y⟩ I ⟨X,b,e⟩
 dsimp only at X b e ⊢
 have f:=f.bs b
 refine Ak<|B9 O<|Al<|Aq<|An O ?_ ?_
 ·intro g
  have c:i<t.length:=by have:=AF g;omega
  have R:(DU (t.take i)).length+1=(DU (t.take (i+1))).length:=by rw [Iy,Iy,length_take,length_take];omega
  have Z:(DU (t.take i)).length=i:=by rw [Iy,length_take];omega
  refine B4<|Aq<|Ax<|Ak<|Aa (Fv AL O O f.shp i O c) O<|Aa (Bi (KY _) O ‹_› (by omega)) O ?_
  refine Ab O<|Al<|A6<|Ad O<|Ad O<|Aa (F1 NL H2 O) O<|Ar (Cb (vs:=[((t.getD i default).toNat:Int)].map (Value.int .i64)) AH DX O O O O O) O ?_
  rintro q F ⟨x, -,h, -⟩
  have e:=AG e h
  have o:=bt b h
  refine Ar (Dc (base:=s.heap.size) AH DX O (by decide) O O e (AK x) (BF (fun _=>rfl) _) (by omega) (by omega) o.size) O ?_
  rintro Q w5 ⟨j,C, -⟩
  rw [← map_append,← MD c,R] at j
  refine Ab O<|A9<|Ba<|Ct<|Ce O (by omega)<|Ad O<|A9 ?_
  exact Az (Bw ((i+1,Q)) ⟨rfl,rfl,rfl,rfl,rfl,trivial⟩ (⟨c,o.trans C,j⟩) (by simp only;omega))
 intro g
 have c:i=t.length:=by have:=AE g;omega
 subst c
 rw [take_length] at e
 refine Bu<|Av<|Av<|Bf<|Ci<|Ad O<|Ai O O (JK y (DU t) I (AM e)) ?_
 rintro _ F ⟨rfl,d⟩
 refine Ab O<|As<|Fb O O ?_
 refine ⟨L,H,AQ K (AY (bt b d) _), ?_,V, ?_⟩
 ·rw [← T];exact (AS.clip e).bs d
 ·exact ⟨a.sl,a.bel.trans ((bt b d).mono (AA a.bel)),a.lo,a.cell.bs (bt b d)⟩
end Go.Proofs.YtblbopcaflaldaaGreatDoor

namespace Go.Proofs.YtblbopcaflaldaaGreatDoor
open Go Go.Dd Go.RowKit List
set_option maxRecDepth 100000
abbrev Bs:=List (BitVec 8)
abbrev PN:=BitVec 8×List Int×List Int×Int×Int
def pn (a:N5):PN:=(a.k,a.i,a.s,a.n,a.p)
def un (p:PN):N5:=⟨p.1, .slice none 0 0, .slice none 0 0,p.2.1,p.2.2.1,p.2.2.2.1,p.2.2.2.2⟩
def H5:Bs→Option (BitVec 8×Bs)
 |[]=>none
 |b::t=>some (b,t)
def Ht (l:Bs):Option (List Int×Bs):=match H5 l with
 |none=>none
 |some (b,t)=>if b.toNat≤t.length then some (DU (t.take b.toNat),t.drop b.toNat) else none
def EL (l:Bs):Option (PN×Bs):=match H5 l with
 |none=>none
 |some (k,l)=>match Ht l with
  |none=>none
  |some (i,l)=>match Ht l with
   |none=>none
   |some (s,l)=>match H5 l with
    |none=>none
    |some (n,l)=>match H5 l with
     |none=>none
     |some (p,l)=>some ((k,i,s,(n.toNat:Int),(p.toNat:Int)),l)
def CJ:Nat→Bs→Option (List PN×Bs)
 |0,l=>some ([],l)
 |n+1,l=>match EL l with
  |none=>none
  |some (x,l)=>(CJ n l).map fun q=>(x::q.1,q.2)
def Nb (s:List Int) (l:Bs):Option (PV×Bs):=
 if Shapes.ok s=true∧4*(Shapes.size s).toNat≤l.length then some ((s,nums (l.take (4*(Shapes.size s).toNat))),l.drop (4*(Shapes.size s).toNat)) else none
def ED:List (List Int)→Bs→Option (List PV×Bs)
 |[],l=>some ([],l)
 |s::ss,l=>match Nb s l with
  |none=>none
  |some (x,l)=>(ED ss l).map fun q=>(x::q.1,q.2)
def K5 (ns:List PN):List (List Int):=(ns.filter fun a=>decide (a.1=2#8)).map fun a=>a.2.2.1
def DE (l:Bs):Option (List PN×List PV×Bs):=match H5 l with
 |none=>none
 |some (b,l)=>match CJ b.toNat l with
  |none=>none
  |some (ns,l)=>(ED (K5 ns) l).map fun q=>(ns,q.1,q.2)
def MH (ns:List PN):Option (List (List Int)):=FF (ns.map un)
def GB (l:Bs):Option (List PN×List PV):=match DE l with
 |none=>none
 |some (ns,ws,r)=>if r=[]∧(MH ns).isSome=true then some (ns,ws) else none
def JB (b:Bs):Int:=if b.length<4 then 5 else if gf (b.drop (b.length - 4))≠Crc.of (b.take (b.length - 4)) then 11 else if (GB (b.take (b.length - 4))).isSome then 0 else 4
def LS (b:Bs):Option (List PN×List PV):=if b.length<4 then none else if gf (b.drop (b.length - 4))≠Crc.of (b.take (b.length - 4)) then none else GB (b.take (b.length - 4))
theorem Nz:∀(ls:List N5) (a:List (List Int)),EG a (ls.map fun x=>un (pn x))=EG a ls
 |[],_=>rfl
 |x::ls,a=>by
  show (match La a x with|some s=>EG (a++[s]) (ls.map fun x=>un (pn x))|none=>none)=match La a x with|some s=>EG (a++[s]) ls|none=>none
  cases La a x with
  |none=>rfl
  |some s=>exact Nz ls _
theorem Qn (k:BitVec 8):∀ls:List N5,((ls.map fun x=>un (pn x)).filter fun a=>decide (a.k=k)).length=(ls.filter fun a=>decide (a.k=k)).length
 |[]=>rfl
 |x::ls=>by
  have b:=Qn k ls
  rw [map_cons,filter_cons,filter_cons,show (un (pn x)).k=x.k from rfl]
  split
  ·rw [length_cons,length_cons,b]
  ·exact b
theorem HS (ls:List N5):MH (ls.map pn)=FF ls:=by
 unfold MH
 rw [map_map]
 show FF (ls.map fun x=>un (pn x))=FF ls
 unfold FF
 have b:FA (ls.map fun x=>un (pn x))=FA ls:=Qn _ ls
 have a:((ls.map fun x=>un (pn x)).getD (ls.length - 1) default).k=(ls.getD (ls.length - 1) default).k:=by
  rw [getD_eq_getElem?_getD,getD_eq_getElem?_getD,getElem?_map]
  cases ls[ls.length - 1]? <;>rfl
 rw [length_map,Nz,b,a]
theorem K4 (ls:List N5):K5 (ls.map pn)=(F2 ls).map (·.s):=by
 unfold K5 F2
 rw [filter_map,map_map]
 rfl
theorem NW {l:Bs}:H5 l=none↔l.length<1:=by cases l<;>simp [H5]
theorem Kl {l:Bs} (h:1≤l.length):H5 l=some (l.getD 0 default,l.drop 1):=by
 cases l with
 |nil=>simp at h
 |cons b t=>rfl
theorem Mv {l:Bs}:Ht l=none↔(l.length<1∨(l.drop 1).length<(l.getD 0 default).toNat):=by
 cases l with
 |nil=>simp [Ht,H5]
 |cons b t=>
  simp only [Ht,H5]
  split
  ·rename_i h;simp;omega
  ·rename_i h;simp;omega
theorem Mu {l:Bs} (a:1≤l.length) (b:(l.getD 0 default).toNat≤(l.drop 1).length):Ht l=some (DU ((l.drop 1).take (l.getD 0 default).toNat),(l.drop 1).drop (l.getD 0 default).toNat):=by
 unfold Ht
 rw [Kl a]
 exact if_pos b
theorem Le:∀{a:List (List Int)} {l r:Bs} {ws:List PV},ED a l=some (ws,r)→ws.map Prod.fst=a∧∀p ∈ ws,Mi p.1 p.2=true
 |[],l,r,ws,h=>by cases h;exact ⟨rfl,fun _ h=>by cases h⟩
 |s::a,l,r,ws,h=>by
  unfold ED at h
  cases h1:Nb s l with
  |none=>rw [h1] at h;cases h
  |some q=>
   obtain ⟨x,f⟩:=q
   rw [h1] at h
   simp only at h
   cases h2:ED a f with
   |none=>rw [h2] at h;cases h
   |some q2=>
    obtain ⟨g,j⟩:=q2
    rw [h2] at h
    cases h
    obtain ⟨d,i⟩:=Le h2
    unfold Nb at h1
    split at h1
    ·rename_i c
     cases h1
     refine ⟨by rw [map_cons,d],fun p b=> ?_⟩
     rcases List.mem_cons.1 b with rfl|b
     ·have:=Shapes.size_le s
      have e:=L4 (Shapes.size s).toNat (l.take (4*(Shapes.size s).toNat)) (by rw [length_take];omega)
      unfold Mi
      rw [c.1,e,Bool.true_and,decide_eq_true_eq]
      show ((Shapes.size s).toNat:Int)=Shapes.size s
      omega
     ·exact i p b
    ·cases h1
theorem PF {ls:List N5} {ts:List T4} {l r:Bs} (h:ED (K5 (ls.map pn)) l=some (ts.map pv,r)):EF ls ts=(FF ls).isSome:=by
 obtain ⟨b,g⟩:=Le h
 rw [K4,map_map] at b
 have d:(F2 ls).length=ts.length:=by have:=cngA length b;simpa using this.symm
 have j:NC (ts.map pv) (F2 ls)=true:=by
  refine (FG (by rw [length_map,d])).2 fun i f=> ?_
  have a:i<ts.length:=by omega
  rw [getD_eq_getElem?_getD,getElem?_map,getElem?_eq_getElem a]
  show JH (pv ts[i]) _=true
  have e:=g (pv ts[i]) (mem_map_of_mem (getElem_mem a))
  have c:(ts.map (Prod.fst∘pv))[i]? =((F2 ls).map (·.s))[i]? :=by rw [b]
  rw [getElem?_map,getElem?_map,getElem?_eq_getElem a,getElem?_eq_getElem f] at c
  unfold JH
  rw [e,Bool.true_and,decide_eq_true_eq]
  exact Option.some.inj c
 unfold EF
 rw [d,j,decide_eq_true rfl,Bool.true_and,Bool.and_true]
theorem L7 {n:Nat} {b l c:Bs} {a:List PN} {x:PN} {m:Nat} (h:CJ m b=(CJ (n+1) l).map fun q=>(a++q.1,q.2)) (d:EL l=some (x,c)):CJ m b=(CJ n c).map fun q=>(a++[x]++q.1,q.2):=by
 rw [h]
 show ((match EL l with|none=>none|some (x,l)=>(CJ n l).map fun q=>(x::q.1,q.2)):Option _).map _=_
 rw [d]
 simp only [Option.map_map]
 congr 1
 funext q
 simp
theorem Od {n:Nat} {b l:Bs} {a:List PN} {m:Nat} (h:CJ m b=(CJ (n+1) l).map fun q=>(a++q.1,q.2)) (c:EL l=none):CJ m b=none:=by
 rw [h]
 show ((match EL l with|none=>none|some (x,l)=>(CJ n l).map fun q=>(x::q.1,q.2)):Option _).map _=_
 rw [c];rfl
theorem ND {c b:List (List Int)} {s:List Int} {d l e:Bs} {a:List PV} {x:PV} (h:ED b d=(ED (s::c) l).map fun q=>(a++q.1,q.2)) (f:Nb s l=some (x,e)):ED b d=(ED c e).map fun q=>(a++[x]++q.1,q.2):=by
 rw [h]
 show ((match Nb s l with|none=>none|some (x,l)=>(ED c l).map fun q=>(x::q.1,q.2)):Option _).map _=_
 rw [f]
 simp only [Option.map_map]
 congr 1
 funext q
 simp
theorem Q9 {d a:List (List Int)} {s:List Int} {c l:Bs} {b:List PV} (h:ED a c=(ED (s::d) l).map fun q=>(b++q.1,q.2)) (e:Nb s l=none):ED a c=none:=by
 rw [h]
 show ((match Nb s l with|none=>none|some (x,l)=>(ED d l).map fun q=>(x::q.1,q.2)):Option _).map _=_
 rw [e];rfl
theorem Lf {s:List Int} {l:Bs} (h:Shapes.ok s=false∨l.length<4*(Shapes.size s).toNat):Nb s l=none:=by
 unfold Nb
 refine if_neg fun a=> ?_
 rcases h with h|h
 ·rw [h] at a;cases a.1
 ·omega
theorem OP {s:List Int} {l:Bs} (h:Shapes.ok s=true) (a:4*(Shapes.size s).toNat≤l.length):Nb s l=some ((s,nums (l.take (4*(Shapes.size s).toNat))),l.drop (4*(Shapes.size s).toNat)):=if_pos ⟨h,a⟩

def HE (a:Nat) (s:List UInt8):Nat:=s.foldl (fun a c=>10*a+(c.toNat - 48)) a
def MM (s:List UInt8):Bool:=s.all fun c=>decide (48≤c.toNat) && decide (c.toNat≤57)
def GD (s:List UInt8):Option Int:=if (decide (1≤s.length) && decide (s.length≤9) && (decide (s.length=1)|| !decide (s.headD 0=48)) && MM s)=true then some (HE 0 s:Int) else none
theorem IU {d:Nat} (h:d<10):(UInt8.ofNat (48+d)).toNat=48+d:=by
 rw [UInt8.toNat_ofNat'];omega
theorem Qk {c:UInt8} (h:48≤c.toNat∧c.toNat≤57):UInt8.ofNat (48+(c.toNat - 48))=c:=by
 apply UInt8.toNat_inj.1
 rw [IU (by omega)]
 omega
theorem Kh (s:List UInt8) (c:UInt8):HE 0 (s++[c])=10*HE 0 s+(c.toNat - 48):=by simp [HE]
theorem LY (u:Nat):MM (Lib.decDigits u)=true∧HE 0 (Lib.decDigits u)=u∧(0<u→(Lib.decDigits u).headD 0≠48)∧Lib.decDigits u≠[]:=by
 induction u using Nat.strongRecOn with
 |_ u ih=>
  rw [Lib.decDigits]
  split
  ·rename_i h
   have e:=IU h
   refine ⟨by simp only [MM,all_cons,all_nil,e];simp;omega,by simp only [HE,foldl_cons,List.foldl_nil,e];omega,fun i b=> ?_,by simp⟩
   have b:UInt8.ofNat (48+u)=48:=b
   rw [b] at e
   have e:48=48+u:=e
   omega
  ·rename_i h
   obtain ⟨c,f,d,g⟩:=ih (u / 10) (by omega)
   have e:=IU (show u % 10<10 by omega)
   refine ⟨?_, ?_,fun _=> ?_,by simp⟩
   ·unfold MM at c ⊢
    rw [List.all_append,c,Bool.true_and,all_cons,all_nil,e];simp;omega
   ·rw [Kh,f,e];omega
   ·cases hd:Lib.decDigits (u / 10) with
    |nil=>exact absurd hd g
    |cons a l=>rw [hd] at d;exact d (by omega)
theorem Qj:∀(n:Nat) (s:List UInt8),s.length=n→s≠[]→MM s=true→s.headD 0≠48→Lib.decDigits (HE 0 s)=s∧0<HE 0 s:=by
 intro n
 induction n with
 |zero=>intro s h d;exact absurd (eq_nil_of_length_eq_zero h) d
 |succ n ih=>
  intro s p d b i
  obtain ⟨l,c,rfl⟩:∃l c,s=l++[c]:=⟨s.dropLast,s.getLast d,(List.dropLast_concat_getLast d).symm⟩
  have g:MM l=true∧48≤c.toNat∧c.toNat≤57:=by
   unfold MM at b ⊢
   rw [List.all_append,Bool.and_eq_true] at b
   refine ⟨b.1, ?_⟩
   have:=b.2
   simp only [all_cons,all_nil,Bool.and_true,Bool.and_eq_true,decide_eq_true_eq] at this
   exact this
  obtain ⟨o,k⟩:=g
  rw [Kh]
  cases hl:l with
  |nil=>
   subst hl
   have q:c≠48:=i
   have:c.toNat≠48:=fun e=>q (UInt8.toNat_inj.1 e)
   rw [show HE 0 []=0 from rfl,Nat.mul_zero,Nat.zero_add,Lib.decDigits_one (by omega),Qk k]
   exact ⟨rfl,by omega⟩
  |cons a t=>
   have f:l≠[]:=by rw [hl];simp
   have j:l.headD 0≠48:=by rw [hl] at i ⊢;exact i
   obtain ⟨m,r⟩:=ih l (by simp at p;omega) f o j
   rw [← hl,Lib.decDigits,dif_neg (by omega),show (10*HE 0 l+(c.toNat - 48)) / 10=HE 0 l by omega,show (10*HE 0 l+(c.toNat - 48)) % 10=c.toNat - 48 by omega,m,Qk k]
   exact ⟨rfl,by omega⟩
theorem Kx {u:Nat} (h:(Lib.decDigits u).length≤9):u<1000000000:=by
 have a:=Lib.lt_pow_nDigits u
 rw [Lib.decDigits_length] at h
 have b:10 ^ Lib.nDigits u≤10 ^ 9:=Nat.pow_le_pow_right (by decide) h
 have:(10:Nat) ^ 9=1000000000:=by decide
 omega
theorem Jv {s:List UInt8} {n:Int}:GD s=some n↔∃u:Nat,n=(u:Int)∧Lib.decDigits u=s∧s.length≤9:=by
 unfold GD
 constructor
 ·intro h
  split at h
  ·rename_i g
   simp only [Bool.and_eq_true,Bool.or_eq_true,decide_eq_true_eq,Bool.not_eq_true',decide_eq_false_iff_not] at g
   obtain ⟨⟨⟨f,j⟩,b⟩,i⟩:=g
   refine ⟨HE 0 s,(Option.some.inj h).symm, ?_,j⟩
   have d:s≠[]:=fun e=>by rw [e] at f;exact absurd f (by decide)
   by_cases a:s.headD 0=48
   ·rcases b with b|b
    ·obtain ⟨c,rfl⟩:=List.length_eq_one_iff.1 b
     have a:c=48:=a
     subst a
     rw [show HE 0 [48]=0 from rfl,Lib.decDigits_one (by omega)]
     rfl
    ·exact absurd a b
   ·exact (Qj _ s rfl d i a).1
  ·cases h
 ·rintro ⟨u,rfl,rfl,k⟩
  obtain ⟨o,l,p,m⟩:=LY u
  rw [if_pos,l]
  simp only [Bool.and_eq_true,Bool.or_eq_true,decide_eq_true_eq,Bool.not_eq_true',decide_eq_false_iff_not]
  refine ⟨⟨⟨?_,k⟩, ?_⟩,o⟩
  ·exact List.length_pos_iff.2 m
  by_cases hu:u<10
  ·left;rw [Lib.decDigits_one hu];rfl
  ·exact .inr (p (by omega))
theorem Oy {s:List UInt8} {n:Int} (h:GD s=some n):Lib.itoa n=s∧0≤n∧n≤999999999:=by
 obtain ⟨u,rfl,rfl,a⟩:=Jv.1 h
 have:=Kx a
 exact ⟨Lib.itoa_nonneg u,by omega,by omega⟩
theorem Pv (M:Nat):∀(l r:List UInt8) (a:Nat),Lib.parseUintM M a (l++r)=match Lib.parseUintM M a l with
  | .ok v=>Lib.parseUintM M v r
  |x=>x
 |[],r,a=>by simp only [Lib.parseUintM,nil_append]
 |c::l,r,a=>by
  simp only [cons_append,Lib.parseUintM]
  split
  ·split
   ·rfl
   ·split
    ·rfl
    ·exact Pv M l r _
  ·rfl
theorem Sf (u:Nat):u≤4294967295→Lib.parseUintM 4294967295 0 (Lib.decDigits u)= .ok u:=by
 have b:∀a d,d<10→a<1844674407370955162→a*10+d≤4294967295→Lib.parseUintM 4294967295 a [UInt8.ofNat (48+d)]= .ok (a*10+d):=by
  intro a d e g f
  unfold Lib.parseUintM
  rw [IU e,if_pos (by omega),if_neg (by omega),if_neg (by omega)]
  unfold Lib.parseUintM
  rw [show 48+d - 48=d by omega]
 induction u using Nat.strongRecOn with
 |_ u ih=>
  intro h
  rw [Lib.decDigits]
  split
  ·rename_i c
   have:=b 0 u c (by omega) (by omega)
   rwa [show 0*10+u=u by omega] at this
  ·rename_i c
   rw [Pv,ih (u / 10) (by omega) (by omega)]
   simp only
   rw [b (u / 10) (u % 10) (by omega) (by omega) (by omega)]
   congr 1
   omega
theorem Oc (s:List UInt8):GD s=match Lib.parseUintB 32 s with
  | .ok u=>if s.length≤9∧Lib.decDigits u=s then some (u:Int) else none
  |_=>none:=by
 cases hn:GD s with
 |some n=>
  obtain ⟨u,rfl,rfl,a⟩:=Jv.1 hn
  have b:Lib.parseUintB 32 (Lib.decDigits u)= .ok u:=by
   unfold Lib.parseUintB
   rw [if_neg (LY u).2.2.2]
   exact Sf u (by have:=Kx a;omega)
  rw [b]
  simp only
  simp [a]
 |none=>
  cases b:Lib.parseUintB 32 s with
  |ok u=>
   simp only
   rw [if_neg]
   rintro ⟨c,d⟩
   rw [Jv.2 ⟨u,rfl,d,c⟩] at hn
   cases hn
  |_=>rfl
def DG:Nat→List (List UInt8)→List Int×List (List UInt8)
 |0,l=>([],l)
 |_+1,[]=>([],[])
 |m+1,w::l=>match GD w with
  |some n=>(n::(DG m l).1,(DG m l).2)
  |none=>([],w::l)
theorem Km:∀(m:Nat) (l:List (List UInt8)),(DG m l).1.map Lib.itoa++(DG m l).2=l∧(DG m l).1.length≤m∧∀n ∈ (DG m l).1,0≤n∧n≤999999999
 |0,l=>⟨rfl,AT _,fun n a=>by cases a⟩
 |_+1,[]=>⟨rfl,Nat.zero_le _,fun n a=>by cases a⟩
 |m+1,w::l=>by
  cases h:GD w with
  |none=>simp only [DG,h];exact ⟨rfl,Nat.zero_le _,fun n a=>by cases a⟩
  |some n=>
   obtain ⟨e,g,f⟩:=Km m l
   obtain ⟨c,d⟩:=Oy h
   simp only [DG,h]
   refine ⟨by rw [map_cons,cons_append,e,c],by rw [length_cons];omega,fun x b=> ?_⟩
   rcases List.mem_cons.1 b with rfl|b
   ·exact d
   ·exact f x b
def ET (s:List UInt8) (l:List (List UInt8)):Option (List (List UInt8)):=if s=[] then some l else match l with
 |[]=>none
 |x::r=>if x=s then some r else none
def ON (least most:Nat) (l:List (List UInt8)):Option (List Int×List (List UInt8)):=if (DG most l).1.length<least then none else some (DG most l)
def DT (s:List UInt8):BitVec 8:=((H7.find? fun r=>decide (r.word=s)).map fun r=>BitVec.ofNat 8 r.k).getD 0#8
def JX (r:Rw) (l:List (List UInt8)):Option (List Int×Int×List (List UInt8)):=if r.shaped=true then (ON 1 65536 l).map fun q=>(q.1,0,q.2) else if r.nxt=[] then some ([],0,l) else (ON 1 1 l).map fun q=>([],q.1.headD 0,q.2)
def ML (r:Rw) (l:List (List UInt8)):Option (Int×List (List UInt8)):=if r.last=[] then some (0,l) else (ET r.last l).bind fun l5=>(ON 1 1 l5).map fun q=>(q.1.headD 0,q.2)
def DI (l:List (List UInt8)):Option PN:=
 if (BX (DT (l.headD []))).word=[] then none else
 (ET (BX (DT (l.headD []))).word l).bind fun l1=>(ON (BX (DT (l.headD []))).least (BX (DT (l.headD []))).most l1).bind fun q=>
 (ET (BX (DT (l.headD []))).nxt q.2).bind fun l3=>(JX (BX (DT (l.headD []))) l3).bind fun t=>(ML (BX (DT (l.headD []))) t.2.2).bind fun e=>
 if e.2=[] then some (DT (l.headD []),q.1,t.1,t.2.1,e.1) else none
theorem Il {s:List UInt8} {l r:List (List UInt8)} (h:ET s l=some r):l=(if s=[] then [] else [s])++r:=by
 unfold ET at h
 split at h
 ·rename_i e;rw [if_pos e];exact Option.some.inj h
 ·rename_i e
  rw [if_neg e]
  split at h
  ·cases h
  ·split at h
   ·rename_i a;rw [a,Option.some.inj h];rfl
   ·cases h
theorem Ig {a b:Nat} {l:List (List UInt8)} {q:List Int×List (List UInt8)} (h:ON a b l=some q):l=q.1.map Lib.itoa++q.2∧a≤q.1.length∧q.1.length≤b∧∀n ∈ q.1,0≤n∧n≤999999999:=by
 unfold ON at h
 split at h
 ·cases h
 ·rename_i e
  cases h
  obtain ⟨d,c,f⟩:=Km b l
  exact ⟨d.symm,by omega,c,f⟩
theorem P7 {l:List (List UInt8)} {q:List Int×List (List UInt8)} (h:ON 1 1 l=some q):l=[Lib.itoa (q.1.headD 0)]++q.2:=by
 obtain ⟨a,b,c, -⟩:=Ig h
 obtain ⟨n,e⟩:=List.length_eq_one_iff.1 (show q.1.length=1 by omega)
 rw [a,e];rfl
theorem PC {r:Rw} {l:List (List UInt8)} {t:List Int×Int×List (List UInt8)} (h:JX r l=some t):l=(if r.shaped then t.1.map Lib.itoa else if r.nxt=[] then [] else [Lib.itoa t.2.1])++t.2.2:=by
 unfold JX at h
 split at h
 ·rename_i e
  rw [if_pos e]
  obtain ⟨q,a,rfl⟩:=Option.map_eq_some_iff.1 h
  exact (Ig a).1
 ·rename_i e
  rw [if_neg e]
  split at h
  ·rename_i b;rw [if_pos b];cases h;rfl
  ·rename_i b
   rw [if_neg b]
   obtain ⟨q,a,rfl⟩:=Option.map_eq_some_iff.1 h
   exact P7 a
end Go.Proofs.YtblbopcaflaldaaGreatDoor

namespace Go.Dd
open Go Go.RowKit List
def dfr (f:FuncId) (caps:List Value):Deferred:={target:= .fn (.func f) caps.toArray,args:= #[]}
def SZ (P:Program) (fn:Func) (R:Value→World→Prop):BC:=bodyPostD P fn (fun e w' =>∃v,e= .returned v∧R v w')
section
variable {P : Program} {Q : BC} {n : Nat} {E : BN} {w w2 : World} {D : List Deferred} {l0 rest : List Oper} {ty : TypeId} {pos : String} {af : Array Edge} {f : FuncId} {caps : List Value} {fn : Func} {R : Value → World → Prop} {pv : Value}
theorem G6 {f : FuncId} {c : Code} {args : List Value} (e : P.funcs[f]? = some fn) (a : (fn.name == "runtime.NumGoroutine") = false) (g : fn.body = some c)
  (l:fn.ntmps=n) (k:Nat.ble args.length n=true) (h:Cg none [] P (SZ P fn R) n c (params 0 args) w):AO P f args w R:=by
 refine ⟨⟨fn,e,a,by simp [g]⟩,calls_of_wp_defers e g ((wpIn_wide (n:=9)).1 (h _ ⟨rfl, ?_,fun i v j=> ?_⟩))⟩
 ·have:args.length≤n:=Nat.le_of_ble_eq_true k
  simp [l];omega
 ·have d:=(CW args 0 i v j).2
  simp only [Nat.sub_zero] at d
  have b:i<args.length:=by
   rcases Nat.lt_or_ge i args.length with h|h
   ·exact h
   ·simp [getElem?_eq_none h] at d
  rw [Array.getElem?_append]
  simp only [size_toArray,b,if_true,getElem?_toArray]
  exact d
theorem Lg.defer {y:Operand} {ts:Array TypeId} (c:ev E y=some (.func (.func f) #[] caps.toArray)) (k:Lg none (dfr f caps::D) P l0 Q n rest E w):
  Lg none D P l0 Q n (⟨none, .defer {callee:= .value y,args:= #[],argTypes:=ts},ty,pos,af,none⟩::rest) E w:=fun a b=>wpListIn_plain rfl fun K e=>by
 refine ⟨fun _ _=>trivial, ?_⟩
 have d:(execOp a.eval ⟨none, .defer {callee:= .value y,args:= #[],argTypes:=ts},ty,pos,af,none⟩).run P w= .ok (.defer (dfr f caps)) w:=by
  simp [execOp,resolve,b.ev c,Deferred.ofValue,dfr]
 rw [show (rnd none).round=none from rfl,Oper.semAt_none,d]
 exact e _ _ (k _ ⟨by show dfr f caps::a.defers=_;rw [b.dfr],b.size,b.has⟩)
theorem Pg.retD (j:(invoke (.fn (.func f) caps.toArray) #[]).run P w= .ok (.enter f caps.toArray) w) (g:CallsD P f caps.toArray .returning w fun e d w' =>e= .returned (.tuple #[])∧d= .returning∧w' =w)
  (b:∀a,BR [dfr f caps] n E a→∃v,(results fn a.tmps).run P w= .ok v w∧R v w):Pg [dfr f caps] n E (SZ P fn R .ret) w:=fun a c=>by
 show Leaves P fn a.tmps _ a.defers .returning w
 rw [c.dfr]
 refine leaves_cons (by simp) j (g.mono ?_)
 rintro e d w' ⟨rfl,rfl,rfl⟩
 obtain ⟨v,i,h⟩:=b a c
 exact ⟨v,i,v,rfl,h⟩
theorem Pg.panD {g:World→Prop} (l:(invoke (.fn (.func f) caps.toArray) #[]).run P w= .ok (.enter f caps.toArray) w) (i:CallsD P f caps.toArray (.panicking [{v:=pv,recovered:=false}]) w fun e d w' =>e= .returned (.tuple #[])∧d= .panicking [{v:=pv,recovered:=true}]∧g w')
  (b:∀w2,g w2→∀a,BR [dfr f caps] n E a→∃v,(results fn a.tmps).run P w2= .ok v w2∧R v w2):Pg [dfr f caps] n E (SZ P fn R (.panic [{v:=pv,recovered:=false}])) w:=fun a c=>by
 show Leaves P fn a.tmps _ a.defers (.panicking _) w
 rw [c.dfr]
 refine leaves_cons (by simp) l (i.mono ?_)
 rintro e d w' ⟨rfl,rfl,h⟩
 obtain ⟨v,k,j⟩:=b w' h a c
 exact ⟨v,k,v,rfl,j⟩
theorem Pg.thenP {K:Act→World→Prop} {c:List PanicEntry} (h:Pg D n E (Q (.panic c)) w):Pg D n E (BP K Q (.panic c)) w:=h
theorem Pg.lowP {c:List PanicEntry} (h:Pg D n E (Q (.panic c)) w):Pw n E (Hs D Q (.panic c)) w:=fun a b=>h _ (b.g D)
theorem Lw.callVQ {d:Nat} {y:Operand} {ts:Array TypeId} {K:World→Prop} (j:ev E y=some (.func (.func f) #[] caps.toArray)) (i:Nat.blt d n=true) (h:Ik P f caps w pv R K)
  (m:∀w',K w' →Pw n E (Q (.panic [{v:=pv,recovered:=false}])) w') (k:∀v w',R v w' →Lw P l0 Q n rest ((d,v)::E) w'):Lw P l0 Q n (⟨some d, .call {callee:= .value y,args:= #[],argTypes:=ts},ty,pos,af,none⟩::rest) E w:=
 fun a c=>wpList_plain rfl fun o g=>by
  unfold Oper.wp
  have l:(execOp a.eval ⟨some d, .call {callee:= .value y,args:= #[],argTypes:=ts},ty,pos,af,none⟩).run P w= .ok (.enter f caps.toArray) w:=by
   simp [execOp,resolve,c.ev j,Deferred.ofValue,invoke,DD (P:=P) (w:=w) h.1]
  rw [l]
  refine h.2.mono fun e w' q=> ?_
  rcases q with ⟨v,rfl,b⟩|⟨rfl,b⟩
  ·exact g _ _ (k v w' b _ (c.put v i))
  ·exact m w' b a c
def SX (P:Program) (fn:Func) (c₀:Frame) (cs:List Frame) (u:FrameMode) (R:Ending→FrameMode→World→Prop):BC:=fun e a w=>bodyPostS P fn c₀ cs R e a ({c₀ with mode:=u}::cs) w
theorem Gq {a:Frame} {cs:List Frame} {u:FrameMode} {R:Ending→FrameMode→World→Prop} (c:fn.results= #[]) (h:R (.returned (.tuple #[])) u w):Pw n E (SX P fn a cs u R .normal) w:=fun _ b=>
 ⟨b.dfr,u,rfl, .tuple #[],by rw [results_none c],h⟩
theorem Mc {f:FuncId} {args:List Value} {R:Ending→FrameMode→World→Prop} {l d:Nat} {c:Call} {rest:Code} {v:Value} {a:List PanicEntry} (m:P.funcs[f]? =some fn)
  (t:fn.body=some (.seq (.region l #[⟨some d, .call c,ty,pos, #[],none⟩] false) rest)) (u:∀(ρ:Operand→Value),(execOp ρ ⟨some d, .call c,ty,pos, #[],none⟩).run P w= .ok .recover w) (x:fn.ntmps=n) (p:Nat.ble args.length n=true) (k:Nat.blt d n=true)
  (h:∀e cs,Cw P (SX P fn e cs (.panicking ({v,recovered:=true}::a)) R) n rest ((d,v)::params 0 args) w):CallsD P f args.toArray (.panicking ({v,recovered:=false}::a)) w R:=by
 refine callsD_of_wpS m t fun e cs s=>wpS_seq (wpS_region ?_)
 have b:BH n (params 0 args) {tmps:=args.toArray++Array.replicate (fn.ntmps - args.toArray.size) undef,defers:=[]}:=by
  refine ⟨rfl, ?_,fun i v o=> ?_⟩
  ·have:args.length≤n:=Nat.le_of_ble_eq_true p
   simp [x];omega
  ·have j:=(CW args 0 i v o).2
   simp only [Nat.sub_zero] at j
   have g:i<args.length:=by
    rcases Nat.lt_or_ge i args.length with h|h
    ·exact h
    ·simp [getElem?_eq_none h] at j
   rw [Array.getElem?_append]
   simp only [size_toArray,g,if_true,getElem?_toArray]
   exact j
 have r:=h e cs _ (b.put v k)
 have q:=wpS_of_wp (cs:={e with mode:= .panicking ({v,recovered:=true}::a)}::cs) (Q:=bodyPostS P fn e cs R) r
 simp only [size_toArray,length_cons,length_nil]
 show wpOpsS P _ _ [0] _ _ _
 simp only [wpOpsS,getElem?_toArray,getElem?_cons_zero,Region.wanted,u,recoverD,s]
 exact q
theorem Mb {f:FuncId} {args:List Value} {R:Ending→FrameMode→World→Prop} {o d:Nat} {c:Call} {rest:Code} (p:P.funcs[f]? =some fn)
  (t:fn.body=some (.seq (.region o #[⟨some d, .call c,ty,pos, #[],none⟩] false) rest)) (u:∀(ρ:Operand→Value),(execOp ρ ⟨some d, .call c,ty,pos, #[],none⟩).run P w= .ok .recover w) (x:fn.ntmps=n) (r:Nat.ble args.length n=true) (m:Nat.blt d n=true)
  (h:∀a cs,Cw P (SX P fn a cs .returning R) n rest ((d, .nilIface)::params 0 args) w):CallsD P f args.toArray .returning w R:=by
 refine callsD_of_wpS p t fun a cs k=>wpS_seq (wpS_region ?_)
 have b:BH n (params 0 args) {tmps:=args.toArray++Array.replicate (fn.ntmps - args.toArray.size) undef,defers:=[]}:=by
  refine ⟨rfl, ?_,fun i v q=> ?_⟩
  ·have:args.length≤n:=Nat.le_of_ble_eq_true r
   simp [x];omega
  ·have j:=(CW args 0 i v q).2
   simp only [Nat.sub_zero] at j
   have g:i<args.length:=by
    rcases Nat.lt_or_ge i args.length with h|h
    ·exact h
    ·simp [getElem?_eq_none h] at j
   rw [Array.getElem?_append]
   simp only [size_toArray,g,if_true,getElem?_toArray]
   exact j
 have e:({a with mode:= .returning}:Frame)=a:=by cases a;simp only at k;rw [k]
 have s:=h a cs _ (b.put .nilIface m)
 have l:=wpS_of_wp (cs:={a with mode:= .returning}::cs) (Q:=bodyPostS P fn a cs R) s
 rw [e] at l
 show wpOpsS P _ _ [0] _ _ _
 simp only [wpOpsS,getElem?_toArray,getElem?_cons_zero,Region.wanted,u,recoverD,k]
 exact l
theorem Hu {p b:Nat} {T:TypeId} {v:Value} {d:TypeDesc} (h:fn.results= #[.cell p ty]) (j:AN w b T [v]) (i:P.underlying ty=some d) (c:(match d with| .struct _| .array _ _=>true|_=>false)=false) {a:Act} (e:a.tmps[p]? =some (.pointer (some ⟨b,0,none⟩))):
  (results fn a.tmps).run P w= .ok v w:=by
 have k:w.cell? ⟨b,0,none⟩=some v:=by simp [World.cell?,show w.heap[b]? =_ from j]
 have g:(isAgg ty).run P w= .ok false w:=by
  simp [isAgg,run_underlying i]
  revert c
  cases d<;>simp
 simp [results,h,e,asAddr,loadVar,g,go_sem,k]
theorem Gc {x:Operand} {t s:TypeId} (c:P.underlying t=some (.interface (P.methodsAt t))) (d:ev E x=some .nilIface):Ex P n E (.binOp .eql t x (.const .nilIface) s) ty w (.bool true):=fun a b _ _ _ _=>by
 simp only [execOp,b.ev d,show a.eval (.const .nilIface)= .nilIface from rfl,eqGuard_nil_constR]
 simp [run_eql_nil_nil w t c]
theorem Gd {x:Operand} {t s T:TypeId} {u:Value} (c:P.underlying t=some (.interface (P.methodsAt t))) (d:ev E x=some (.iface T u)):Ex P n E (.binOp .eql t x (.const .nilIface) s) ty w (.bool false):=fun a b _ _ _ _=>by
 simp only [execOp,b.ev d,show a.eval (.const .nilIface)= .nilIface from rfl,show ∀(p q:Operand),eqGuard .eql t p q (.iface T u) .nilIface=pure () from fun _ _=>rfl]
 simp [run_eql_held_nil w t T u c]
theorem Gy {x:Operand} {t T:TypeId} {u:Value} (c:∀w,(Instr.typeAssert (.iface T u) t T true).run P w= .ok (.tuple #[u, .bool true]) w) (d:ev E x=some (.iface T u)):Ex P n E (.typeAssert x t T true) ty w (.tuple #[u, .bool true]):=fun a b _ _ _ _=>by
 simp [execOp,b.ev d,c w]
end
end Go.Dd

namespace Go.Proofs.YtblbopcaflaldaaGreatDoor
open Go Go.Dd Go.RowKit Go.Proofs.Tryz
open List hiding range
set_option maxRecDepth 100000
-- dd: text
theorem QI (i:Nat) (h:i<100) (w:World):AO prog 278 [.int .i64 (i:Int)] w (fun r w' =>r=st (Lib.decDigits i)∧w' =w):=
 G9 func278 (by kernel_rfl) (by kernel_rfl) ((D3 i h w).mono fun e w' ⟨b,a⟩=>⟨_,b,rfl,a⟩)
theorem L5 (u:Nat) (b:1≤u) (a:u<18446744073709551616) (w:World) (h:IK w):AO prog 279 [.int .u64 (u:Int)] w (fun r w' =>r= .int .i64 (Lib.nDigits u:Int)∧w' =w):=
 G9 func279 (by kernel_rfl) (by kernel_rfl) ((Dy u b a w h.tab).mono fun e w' ⟨b,a⟩=>⟨_,b,rfl,a⟩)
def LX (b:UInt8):Value:= .int .u8 (b.toNat:Int)
theorem KP {w:World} {g n:Nat} (d:Array UInt8):w.grownBy ((Sort.putRow LX w g 0 d).drewN n) (some g):=by
 refine ⟨rfl,rfl,rfl,by show w.heap.size≤(Sort.putRow LX w g 0 d).heap.size;simp,fun k b a=> ?_⟩
 have:g≠k:=fun e=>a (by rw [e])
 show (Sort.putRow LX w g 0 d).heap[k]? =_
 simp [Sort.putRow,Sort.mapBlock,Array.getElem?_modify,this]
theorem MJ (b u:Nat) (T:TypeId) (cs:List Value) (w:World) (m:AN w b T cs) (v:∀j,j<Lib.nDigits u→cs[j]? =some (.int .u8 0)) (B:u<1000000000000) (y:Lib.nDigits u≤24):
  AO prog 280 [.slice (some ⟨b,0,none⟩) (Lib.nDigits u) 24, .int .u64 (u:Int)] w (fun r w' =>w.grownBy w' (some b)∧∃l,BB b8 w' (.slice (some ⟨b,0,none⟩) (Lib.nDigits u) 24) l∧l.map UInt8.ofBitVec=Lib.decDigits u):=by
 have o:Sort.Holds LX w b 0 (Array.replicate (Lib.nDigits u) (0:UInt8)):=fun j d=>by
  have i:j<Lib.nDigits u:=by simpa using d
  refine ⟨?_, ?_⟩
  ·rw [Nat.zero_add,m.cell,v j i,getElem!_pos _ j d]
   simp [LX]
  ·have k:w.heap[b]? =some (.cells cs.toArray T (0,0)):=m
   simp [World.frozen?,k]
 have g:(Array.replicate (Lib.nDigits u) (0:UInt8)).size=Lib.nDigits u:=by simp
 have q:=Dq b 0 24 u (Array.replicate (Lib.nDigits u) (0:UInt8)) w o (by rw [g];exact Lib.lt_pow_nDigits u) (by omega) (by rw [g];omega)
 rw [g] at q
 refine G9 func280 (by kernel_rfl) (by kernel_rfl) (q.mono ?_)
 rintro e w' ⟨z,n,v',c,rfl,f⟩
 have s:c.toList=Lib.decDigits u:=by
  refine ext_getElem (by rw [Array.length_toList,f.size,Lib.decDigits_length]) fun j A t=> ?_
  rw [Lib.row_is_numeral f j t,Array.getElem_toList,getElem!_pos]
 refine ⟨_,z,KP c,c.toList.map UInt8.toBitVec,⟨by rw [length_map,Nat.mul_one],some ⟨b,0,none⟩,24, ?_,by rw [length_map,Array.length_toList,f.size];exact y,by decide,(fun h=>by cases h), ?_⟩, ?_⟩
 ·rw [length_map,Array.length_toList,f.size]
 ·rintro a ⟨⟩ j x p
  have d:j<c.size:=by
   have:=(List.getElem?_eq_some_iff.1 p).1
   simpa using this
  have:=Sort.cell?_putRow LX w b 0 _ c o (by rw [f.size,g]) j d
  rw [add_lit]
  show (Sort.putRow LX w b 0 c).cell? _=_
  rw [this,← p,getElem!_pos c j d]
  simp [LX,d]
 ·rw [map_map,← s]
  refine (map_congr_left fun a _=> ?_).trans (List.map_id _)
  rfl
theorem S6:GE prog 324 [.int .u8 0, .int .u8 0, .int .u8 0, .int .u8 0, .int .u8 0, .int .u8 0, .int .u8 0, .int .u8 0, .int .u8 0, .int .u8 0, .int .u8 0, .int .u8 0, .int .u8 0, .int .u8 0, .int .u8 0, .int .u8 0, .int .u8 0, .int .u8 0, .int .u8 0, .int .u8 0, .int .u8 0, .int .u8 0, .int .u8 0, .int .u8 0] 24:=⟨⟨_,(show Tryz.prog.info? 324=some Tryz.t324 by kernel_rfl),rfl,rfl,_,rfl,rfl⟩⟩
theorem M8 {u:Nat} (h:u<1000000000000):Lib.nDigits u≤24:=by
 have:=Lib.itoa_length_le (u:Int) (by omega) (by omega)
 rw [Lib.itoa_nonneg,Lib.decDigits_length] at this
 omega
theorem O1 (u:Nat) (w:World) (h:IK w) (k:u<1000000000000):AO prog 289 [.int .u64 (u:Int), .int .i64 10] w (fun r w' =>r=st (Lib.decDigits u)∧Below w.heap.size w w'):=by
 have b:=Below.refl w.heap.size w
 refine A5 (n:=32) func289 O<|Ak<|Ab O<|Bc<|Ad O<|Aa (Cn O O) O<|Al<|Cq O true (rfl)<|Aq<|Ak<|Ad O<|B9 O<|Al<|An O ?_ ?_
 ·intro g
  have g:u<100:=by have:=AF g;omega
  refine Ak<|Ad O<|Aa (Ed Mq H2 O (by omega)) O<|Ai O O (QI u g w) ?_
  rintro _ i ⟨rfl,rfl⟩
  exact Ab rfl<|Bx<|Ay<|Am rfl rfl<|⟨rfl,b⟩
 intro g
 have g:100≤u:=by have:=AE g;omega
 refine Cf<|Dg S6 O ?_
 rintro c i m d e p
 have y:=e.size
 replace b:=bt b e
 have f:=h.bs e
 refine A0<|Ad O<|Ai O O (L5 u (by omega) (by omega) i f) ?_
 rintro _ t ⟨rfl,rfl⟩
 have a:=M8 k
 refine Ab O<|A0<|Ad O<|Aa (Ex.arrH underlying324 Tn O O a) O<|Ad O ?_
 refine Ai O O (MJ c u _ _ t d (fun j x=>by show (replicate 24 (Value.int .u8 0))[j]? =_;rw [List.getElem?_replicate,if_pos (by omega)]) k a) ?_
 rintro _ v ⟨o,l,s,q⟩
 refine A0<|Ad O<|Aa (Ex.arrH underlying324 Tn O O a) O<|Aa (Ex.as (Ex.strOf AL Ho Ll O s) (by unfold Sc;rw [q])) O<|Ab O<|Bx<|Am O O ?_
 exact ⟨rfl,b.grown o (AA b) (by rintro _ ⟨⟩;omega)⟩
theorem Qe (u:Nat) (w:World) (h:IK w) (a:u<1000000000000):AO prog 274 [.int .u64 (u:Int), .int .i64 10] w (fun r w' =>r=st (Lib.decDigits u)∧Below w.heap.size w w'):=by
 refine A5 (n:=8) func274 O<|Ak<|Ab O<|A0<|Ad O<|Ad O<|Ai O O (O1 u w h a) ?_
 rintro _ c ⟨rfl,b⟩
 exact Ab rfl<|As<|Am rfl rfl<|⟨rfl,b⟩
theorem MR (w:World) (T:TypeId) (s:ByteArray):Below w.heap.size w (Lib.bytesWorld w T s):=by
 exact ⟨rfl,rfl,rfl,by rw [Lib.bytesWorld_size];omega,fun k a=>Lib.bytesWorld_at_old w T s k a⟩
theorem L1 (s:List UInt8) (w:World) (h:IK w) (l:s.length≤281474976710656):AO prog 273 [st s, .int .i64 10, .int .i64 32] w (fun r w' =>Below w.heap.size w w' ∧((∃u:Nat,Lib.parseUintB 32 s= .ok u∧u≤4294967295∧r= .tuple #[.int .u64 (u:Int), .nilIface])∨((∀u,Lib.parseUintB 32 s≠ .ok u)∧∃v T x,0≤v∧v≤4294967295∧r= .tuple #[.int .u64 v, .iface T x]))):=by
 refine G9 func273 (by kernel_rfl) (by kernel_rfl) ?_
 have e:(ba s).data.toList=s:=EH s
 have z:(ba s).size=s.length:=IY s
 obtain ⟨k,j,f⟩:=h.es
 obtain ⟨m,i,g⟩:=h.er
 cases hp:Lib.parseUintB 32 s with
 |ok u=>
  refine (Ds (ba s) (by rw [z];omega) u (by rw [e];exact hp) w).mono ?_
  rintro e w' ⟨a,d⟩
  refine ⟨_,a, ?_, .inl ⟨u,rfl,Lib.parseUintB_le hp,rfl⟩⟩
  rcases d with rfl|rfl
  ·exact Below.refl _ _
  ·exact MR _ _ _
 |range=>
  refine (Dh (ba s) (by rw [z];omega) (by rw [e];exact hp) _ w g (.inr ⟨_,_,rfl⟩)).mono ?_
  rintro e w' ⟨N,a, -, -,c⟩
  exact ⟨_,a,c, .inr ⟨(fun u b=>by cases b),_,_,_,(by decide),(by decide),rfl⟩⟩
 |_=>
  refine (De (ba s) (by rw [z];omega) (by rw [e];exact hp) _ w f (.inr ⟨_,_,rfl⟩)).mono ?_
  rintro e w' ⟨N,a, -, -,c⟩
  exact ⟨_,a,c, .inr ⟨(fun u b=>by cases b),_,_,_,(by decide),(by decide),rfl⟩⟩
theorem P9 (s:List UInt8) (w:World) (h:IK w) (m:s.length≤281474976710656):AO prog 246 [st s] w (fun r w' =>Below w.heap.size w w' ∧∃v,r= .tuple #[v, .bool (GD s).isSome]∧∀n,GD s=some n→v= .int .i64 n):=by
 have b:=Oc s
 refine A5 (n:=26) func246 O<|Ak<|Ab O<|Ab O<|A0<|Ad O<|Ai O O (L1 s w h m) ?_
 rintro _ f ⟨c,⟨u,e,o,rfl⟩|⟨d,v,T,x,j,l,rfl⟩⟩
 ·rw [e] at b
  simp only at b
  refine Ad O<|Aa (A3 (i:=0) O O) O<|Aa (A3 (i:=1) O O) O<|Ab O<|Ab O<|A0<|Ad O<|Aa (Ed Mq H2 O (by omega)) O<|Ad O<|Aa (Gc (by kernel_rfl) O) O<|Ad O<|Co 15 (v' := .bool true) O (cngA Value.bool (rfl))<|Aj (dj:=15) O O<|Ad O<|Aj (dj:=15) O O<|Aa (Gb Ll O) O<|Aj (dj:=15) O O<|Aa (Ec O O) O<|Bv O<|Ad O ?_
  refine Cc 20 O ?_ ?_
  ·intro g
   have g:s.length≤9:=by have:=AF g;omega
   refine Aj (dj:=20) O O<|Ad O<|Aj (dj:=20) O O<|Ai O O (Qe u f (h.bs c) (by omega)) ?_
   rintro _ p ⟨rfl,a⟩
   refine Aj (dj:=20) O O<|Ad O<|Aj (dj:=20) O O<|Aa (Ey O O) O<|Bv O<|Ab O<|Ab O<|As<|Bz O O O ?_
   refine ⟨bt c a, .int .i64 (u:Int), ?_,fun n a=> ?_⟩
   ·rw [b]
    by_cases e2:Lib.decDigits u=s
    ·rw [decide_eq_true e2,if_pos ⟨g,e2⟩];rfl
    ·rw [decide_eq_false e2,if_neg fun k=>e2 k.2];rfl
   ·rw [b] at a
    split at a
    ·cases a;rfl
    ·cases a
  intro g
  have g:¬s.length≤9:=by have:=AE g;omega
  rw [if_neg fun k=>g k.1] at b
  refine Ae (dj:=20) O O O O<|Ae (dj:=20) O O O O<|Ae (dj:=20) O O O O<|Ae (dj:=20) O O O O<|Cl O<|Ab O<|Ab O<|As<|Bz O O O ?_
  exact ⟨c,_,(by rw [b];rfl),fun n a=>by rw [b] at a;cases a⟩
 have b:GD s=none:=by
  rw [b]
  cases hq:Lib.parseUintB 32 s with
  |ok u=>exact absurd hq (d u)
  |_=>rfl
 refine Ad O<|Aa (A3 (i:=0) O O) O<|Aa (A3 (i:=1) O O) O<|Ab O<|Ab O<|A0<|Ad O<|Aa (Ed Mq H2 O (by omega)) O<|Ad O<|Aa (Gd (by kernel_rfl) O) O<|Ad O<|Co 15 (v' := .bool false) O (cngA Value.bool (rfl))<|Ae (dj:=15) O O O O<|Ae (dj:=15) O O O O<|Ae (dj:=15) O O O O<|Cl O<|Ad O<|Ae (dj:=20) O O O O<|Ae (dj:=20) O O O O<|Ae (dj:=20) O O O O<|Ae (dj:=20) O O O O<|Cl O<|Ab O<|Ab O<|As<|Bz O O O ?_
 exact ⟨c,_,(by rw [b];rfl),fun n a=>by rw [b] at a;cases a⟩
end Go.Proofs.YtblbopcaflaldaaGreatDoor

namespace Go.Proofs.YtblbopcaflaldaaGreatDoor
open Go Go.Dd Go.RowKit List
set_option maxRecDepth 100000
abbrev RE:TypeId:=55

structure Bk (w:World) (lo A:Nat) (n:Int) (hb hi hn:List Hd) (ub ui un:Value):Prop where
 box:AN w A RE [.int .i64 n,ub,ui,un, .slice none 0 0, .slice none 0 0, .slice none 0 0, .slice none 0 0, .slice none 0 0, .slice none 0 0, .slice none 0 0, .slice none 0 0, .slice none 0 0, .slice none 0 0, .slice none 0 0, .slice none 0 0]
 ob:w.ownsRow lo 179 3 ub hb.length (CP hb)
 oi:w.ownsRow lo 182 3 ui hi.length (CP hi)
 on:w.ownsRow lo 185 3 un hn.length (CP hn)
 loA:lo≤A
 ab:ub.ownBlock≠some A
 ai:ui.ownBlock≠some A
 an:un.ownBlock≠some A
 bi:IG ub ui
 bn:IG ub un
 nn:IG ui un
 many:hb.length+hi.length+hn.length≤900
 num:0≤n∧n≤900
theorem Bk.size {w:World} {a A:Nat} {n:Int} {d e f:List Hd} {b c un:Value} (h:Bk w a A n d e f b c un):a<w.heap.size:=Nat.lt_of_le_of_lt h.loA (BA h.box)
theorem Bk.bs {w w' :World} {d A:Nat} {n:Int} {c e f:List Hd} {a b un:Value} (h:Bk w d A n c e f a b un) (g:Below w.heap.size w w'):Bk w' d A n c e f a b un:=
 ⟨h.box.bs g,AG h.ob g,AG h.oi g,AG h.on g,h.loA,h.ab,h.ai,h.an,h.bi,h.bn,h.nn,h.many,h.num⟩
theorem Bk.low {w w' :World} {a A:Nat} {n:Int} {i k l:List Hd} {c g un u:Value} (h:Bk w a A n i k l c g un) (f:∀b,u.ownBlock=some b→a≤b) (j:FE (fun b=>b=A∨u.ownBlock=some b) w w'):Below a w w' :=j.to_below (fun b d=>by
 rcases d with rfl|e
 ·exact h.loA
 ·exact f b e) (Nat.le_of_lt h.size)

theorem _root_.Go.Dd.Twn.own {α:Type} {w:World} {base:Nat} {T:TypeId} {enc:α→Value} {a v:Value} {l:List α} (h:Twn w base T enc a v l):w.ownsRow base T 1 v l.length (l.map enc):=by
 obtain ⟨b,cap,rfl,c⟩:=h
 exact Hj c (by simp)

structure FD (w:World) (lo hi:Nat) (c:T4):Prop where
 rx:AS w lo 3 1 c.x c.s.length (c.s.map (Value.int .i64))
 ry:AS w lo 21 1 c.y c.l.length (c.l.map i32)
 bx:∀b,c.x.ownBlock=some b→lo≤b∧b<hi
 by' :∀b,c.y.ownBlock=some b→lo≤b∧b<hi
 apart:IG c.y c.x
theorem FD.bs {w w' :World} {a b:Nat} {c:T4} (h:FD w a b c) (g:Below w.heap.size w w'):FD w' a b c:=⟨h.rx.bs g,h.ry.bs g,h.bx,h.by',h.apart⟩
theorem FD.below {w w' :World} {d a B:Nat} {c:T4} (h:FD w d a c) (g:Below B w w') (f:a≤B):FD w' d a c:=
 ⟨h.rx.heap fun b e=>g.block b (by have:=h.bx b e;omega),h.ry.heap fun b e=>g.block b (by have:=h.by' b e;omega),h.bx,h.by',h.apart⟩
theorem FD.at {w:World} {a b:Nat} {c:T4} (h:FD w a b c):c.at w:=⟨h.rx.slT,h.ry.slT⟩
theorem FD.wide {w:World} {g i a d:Nat} {c:T4} (h:FD w g i c) (f:a≤g) (j:i≤d):FD w a d c:=
 ⟨h.rx.mono f,h.ry.mono f,fun b e=>by have:=h.bx b e;omega,fun b e=>by have:=h.by' b e;omega,h.apart⟩
theorem H0.held {W w:World} {x y:Value} {s:List Int} {l:List (BitVec 32)} (h:H0 W w x y s l):FD w W.heap.size w.heap.size ⟨x,y,s,l⟩:=
 ⟨h.row, .inl h.own,h.row.lt,AB h.own,h.apart⟩
def AU (w:World):Nat→Nat→List T4→Prop
 |base,top,[]=>base≤top
 |base,top,c::cs=>∃lo hi,base≤lo∧lo≤hi∧FD w lo hi c∧AU w hi top cs
theorem AU.le:∀{w:World} {cs:List T4} {base a:Nat},AU w base a cs→base≤a
 |_,[],_,_,h=>h
 |_,_::_,_,_,⟨_,_,h1,h2,_,h3⟩=>by have:=h3.le;omega
theorem AU.bs {w w' :World} (g:Below w.heap.size w w'):∀{cs:List T4} {base a:Nat},AU w base a cs→AU w' base a cs
 |[],_,_,h=>h
 |_::_,_,_,⟨lo,hi,h1,h2,h3,h4⟩=>⟨lo,hi,h1,h2,h3.bs g,AU.bs g h4⟩
theorem AU.each:∀{w:World} {cs:List T4} {base b:Nat},AU w base b cs→∀c ∈ cs,FD w base b c
 |_,[],_,_,_=>fun c a=>by cases a
 |_,d::ds,_,_,⟨lo,hi,h1,h2,h3,h4⟩=>fun c a=>by
  have:=h4.le
  rcases List.mem_cons.1 a with rfl|a
  ·exact h3.wide h1 (by omega)
  ·exact (h4.each c a).wide (by omega) (AT _)
structure K3 (w:World) (base top:Nat) (hi hn:List Hd):Prop where
 ki:JP w base 3 1 hi
 kn:JP w base 21 1 hn
 li:∀b,II hi b→b<top
 ln:∀b,II hn b→b<top
 xin:∀b,II hi b→¬II hn b
theorem K3.bs {w w' :World} {base a:Nat} {b c:List Hd} (h:K3 w base a b c) (g:Below w.heap.size w w'):K3 w' base a b c:=⟨h.ki.bs g,h.kn.bs g,h.li,h.ln,h.xin⟩
theorem K3.below {w w' :World} {base a:Nat} {d f:List Hd} (h:K3 w base a d f) (g:Below a w w'):K3 w' base a d f:=
 ⟨⟨h.ki.toKOk,fun x c=>(h.ki.own x c).heap fun b e=>g.block b (h.li b ⟨x,c,e⟩)⟩,⟨h.kn.toKOk,fun x c=>(h.kn.own x c).heap fun b e=>g.block b (h.ln b ⟨x,c,e⟩)⟩,h.li,h.ln,h.xin⟩
structure JO (w:World) (lo hi:Nat) (x y:Value) (a:T4):Prop where
 held:FD w lo hi ⟨x,y,a.s,a.l⟩
 tx:Twn w lo 3 (Value.int .i64) (Value.int .i64 (77)) x a.s
 ty:Twn w lo 21 i32 (i32 (77#32)) y a.l
theorem JO.bs {w w' :World} {b c:Nat} {x y:Value} {a:T4} (h:JO w b c x y a) (g:Below w.heap.size w w'):JO w' b c x y a:=⟨h.held.bs g,h.tx.bs g,h.ty.bs g⟩
theorem Twn.mono {α:Type} {w:World} {B c:Nat} {T:TypeId} {enc:α→Value} {a v:Value} {l:List α} (h:Twn w B T enc a v l) (e:c≤B):Twn w c T enc a v l:=by
 obtain ⟨b,cap,rfl,d⟩:=h
 exact ⟨b,cap,rfl,CL d e⟩
theorem Twn.by {α:Type} {w w' :World} {B r:Nat} {T:TypeId} {enc:α→Value} {a v:Value} {l:List α} (h:Twn w B T enc a v l) (d:w.grownBy w' (some r)) (f:r<B):Twn w' B T enc a v l:=by
 obtain ⟨b,cap,rfl,c⟩:=h
 exact ⟨b,cap,rfl,c.kept d (.inr fun e=>by have:=(AB c r e).1;omega)⟩

structure NK (w:World) (lo hi:Nat) (c:N5):Prop where
 rx:AS w lo 3 1 c.x c.i.length (c.i.map (Value.int .i64))
 ry:AS w lo 3 1 c.y c.s.length (c.s.map (Value.int .i64))
 bx:∀b,c.x.ownBlock=some b→lo≤b∧b<hi
 by' :∀b,c.y.ownBlock=some b→lo≤b∧b<hi
 apart:IG c.x c.y
theorem NK.bs {w w' :World} {a b:Nat} {c:N5} (h:NK w a b c) (g:Below w.heap.size w w'):NK w' a b c:=⟨h.rx.bs g,h.ry.bs g,h.bx,h.by',h.apart⟩
theorem NK.below {w w' :World} {d a B:Nat} {c:N5} (h:NK w d a c) (g:Below B w w') (f:a≤B):NK w' d a c:=
 ⟨h.rx.heap fun b e=>g.block b (by have:=h.bx b e;omega),h.ry.heap fun b e=>g.block b (by have:=h.by' b e;omega),h.bx,h.by',h.apart⟩
theorem AC {w w' :World} {a sz k:Nat} {E T:TypeId} {v:Value} {xs:List Value} {r:Option Nat} (h:AS w a E sz v k xs) (g:w.grownBy w' r) (f:∀b,r=some b→∃cs,AN w b T cs) (i:E≠T):AS w' a E sz v k xs:=
 h.heap fun b e=>g.block b (h.lt b e).2 fun j=>by
  obtain ⟨cs,c⟩:=f b j.symm
  obtain ⟨ds,d⟩:=h.ty e
  exact i (AZ d c)
theorem NK.other {w w' :World} {e f:Nat} {T:TypeId} {c:N5} {r:Option Nat} (h:NK w e f c) (g:w.grownBy w' r) (a:∀b,r=some b→∃cs,AN w b T cs) (d:3≠T):NK w' e f c:=
 ⟨AC h.rx g a d,AC h.ry g a d,h.bx,h.by',h.apart⟩
theorem NK.wide {w:World} {g i a d:Nat} {c:N5} (h:NK w g i c) (f:a≤g) (j:i≤d):NK w a d c:=
 ⟨h.rx.mono f,h.ry.mono f,fun b e=>by have:=h.bx b e;omega,fun b e=>by have:=h.by' b e;omega,h.apart⟩
theorem NK.at {w:World} {a b:Nat} {c:N5} (h:NK w a b c):N5.at w c:=⟨h.rx.slT,h.ry.slT⟩
def FR (w:World):Nat→Nat→List N5→Prop
 |base,top,[]=>base≤top
 |base,top,c::cs=>∃lo hi,base≤lo∧lo≤hi∧NK w lo hi c∧FR w hi top cs
theorem FR.le:∀{w:World} {cs:List N5} {base a:Nat},FR w base a cs→base≤a
 |_,[],_,_,h=>h
 |_,_::_,_,_,⟨_,_,h1,h2,_,h3⟩=>by have:=h3.le;omega
theorem FR.bs {w w' :World} (g:Below w.heap.size w w'):∀{cs:List N5} {base a:Nat},FR w base a cs→FR w' base a cs
 |[],_,_,h=>h
 |_::_,_,_,⟨lo,hi,h1,h2,h3,h4⟩=>⟨lo,hi,h1,h2,h3.bs g,FR.bs g h4⟩
theorem FR.below {w w' :World} {B:Nat} (g:Below B w w'):∀{cs:List N5} {base a:Nat},FR w base a cs→a≤B→FR w' base a cs
 |[],_,_,h,_=>h
 |_::_,_,_,⟨lo,hi,h1,h2,h3,h4⟩,hB=>⟨lo,hi,h1,h2,h3.below g (Nat.le_trans h4.le hB),FR.below g h4 hB⟩
theorem FR.other {w w' :World} {T:TypeId} {r:Option Nat} (g:w.grownBy w' r) (c:∀b,r=some b→∃cs,AN w b T cs) (d:3≠T):∀{cs:List N5} {base a:Nat},FR w base a cs→FR w' base a cs
 |[],_,_,h=>h
 |_::_,_,_,⟨lo,hi,q1,q2,q3,q4⟩=>⟨lo,hi,q1,q2,q3.other g c d,FR.other g c d q4⟩
theorem FR.snoc {w:World} {c:N5} {b d:Nat} (f:NK w b d c) (e:b≤d):∀{cs:List N5} {base a:Nat},FR w base a cs→a≤b→FR w base d (cs++[c])
 |[],_,_,h,ht=>⟨b,d,Nat.le_trans h ht,e,f,AT _⟩
 |_::_,_,_,⟨l1,h1,q1,q2,q3,q4⟩,ht=>⟨l1,h1,q1,q2,q3,FR.snoc f e q4 ht⟩
theorem FR.top {w:World} {b:Nat}:∀{cs:List N5} {base a:Nat},FR w base a cs→a≤b→FR w base b cs
 |[],_,_,h,ht=>Nat.le_trans h ht
 |_::_,_,_,⟨l1,h1,q1,q2,q3,q4⟩,ht=>⟨l1,h1,q1,q2,q3,FR.top q4 ht⟩
theorem FR.each:∀{w:World} {cs:List N5} {base b:Nat},FR w base b cs→∀c ∈ cs,NK w base b c
 |_,[],_,_,_=>fun c a=>by cases a
 |_,d::ds,_,_,⟨lo,hi,h1,h2,h3,h4⟩=>fun c a=>by
  have:=h4.le
  rcases List.mem_cons.1 a with rfl|a
  ·exact h3.wide h1 (by omega)
  ·exact (h4.each c a).wide (by omega) (AT _)
theorem FR.low {w:World} {cs:List N5} {base a b:Nat} (h:FR w base b cs) (d:a≤base):FR w a b cs:=by
 cases cs with
 |nil=>exact Nat.le_trans d h
 |cons c cs=>
  obtain ⟨g,i,f,e⟩:=h
  exact ⟨g,i,Nat.le_trans d f,e⟩
theorem FR.gn {w:World} {cs:List N5} {base b e:Nat} {v:Value} (h:FR w base b cs) (c:AS w e 79 5 v cs.length (HY N5.cells cs)):GN w v cs:=⟨c.sl,fun a d=>(h.each a d).at⟩
theorem FD.other {w w' :World} {d e:Nat} {T:TypeId} {c:T4} {r:Option Nat} (h:FD w d e c) (g:w.grownBy w' r) (a:∀b,r=some b→∃cs,AN w b T cs) (i:3≠T) (f:21≠T):FD w' d e c:=
 ⟨AC h.rx g a i,AC h.ry g a f,h.bx,h.by',h.apart⟩
theorem AU.other {w w' :World} {T:TypeId} {r:Option Nat} (g:w.grownBy w' r) (d:∀b,r=some b→∃cs,AN w b T cs) (e:3≠T) (c:21≠T):∀{cs:List T4} {base a:Nat},AU w base a cs→AU w' base a cs
 |[],_,_,h=>h
 |_::_,_,_,⟨lo,hi,q1,q2,q3,q4⟩=>⟨lo,hi,q1,q2,q3.other g d e c,AU.other g d e c q4⟩
theorem AU.snocM {w:World} {c:T4} {b d:Nat} (f:FD w b d c) (e:b≤d):∀{cs:List T4} {base a:Nat},AU w base a cs→a≤b→AU w base d (cs++[c])
 |[],_,_,h,ht=>⟨b,d,Nat.le_trans h ht,e,f,AT _⟩
 |_::_,_,_,⟨l1,h1,q1,q2,q3,q4⟩,ht=>⟨l1,h1,q1,q2,q3,AU.snocM f e q4 ht⟩
theorem AU.topM {w:World} {b:Nat}:∀{cs:List T4} {base a:Nat},AU w base a cs→a≤b→AU w base b cs
 |[],_,_,h,ht=>Nat.le_trans h ht
 |_::_,_,_,⟨l1,h1,q1,q2,q3,q4⟩,ht=>⟨l1,h1,q1,q2,q3,AU.topM q4 ht⟩
structure JZ (w:World) (lo hi:Nat) (v u:Value) (ls:List N5) (ts:List T4):Prop where
 nodes:∃mid,FR w lo mid ls∧AU w mid hi ts
 nv:AS w lo 79 5 v ls.length (HY N5.cells ls)
 wv:AS w lo 75 2 u ts.length (cellsOf ts)
end Go.Proofs.YtblbopcaflaldaaGreatDoor

namespace Go.Proofs.YtblbopcaflaldaaGreatDoor
open Go Go.Dd Go.RowKit List Go.Proofs.Tryz
set_option maxRecDepth 100000
theorem Rs (v:Value) (w:World) (e:v.cells=[v].toArray):AO prog 157 [v, .int .i64 4] w (fun r w' =>Below w.heap.size w w' ∧∃p q,r= .func (.func 231) #[] #[.pointer (some ⟨p,0,none⟩), .pointer (some ⟨q,0,none⟩)]∧w.heap.size≤p∧p<q∧AN w' p 28 [v]∧AN w' q 3 [.int .i64 4]):=by
 refine A5 (n:=9) func157 O<|Ak<|Ar (Xw.box (cs:=[v]) O e) O ?_
 rintro _ j ⟨rfl,c,a,g⟩
 refine Ar (Xw.box (cs:=[.int .i64 4]) O O) O ?_
 rintro _ k ⟨rfl,i,b,d⟩
 have c:=c.bs b
 have f:=a.size
 have h:=a.trans (b.mono f)
 refine Ab O<|Bc<|Aa (Ap (BD _) O ‹_› rfl) O ?_
 exact B9 rfl<|Al<|Cq rfl false (rfl)<|Cf<|Aa (Er (vs:=[]) rfl rfl) rfl<|Ab rfl<|As<|Am rfl rfl<|⟨h,_,_,rfl,AT _,by omega,c,i⟩
theorem Rp {v:Value} {c i j sz:Nat} (h:MW v c) (e:i≤j) (f:j≤c):MW (cut v sz i j) (j - i):=by
 obtain ⟨b,cap,rfl,k,g,d⟩:=h
 refine ⟨_,cap - i,rfl,by omega,by omega,fun a=> ?_⟩
 by_cases he:cap=i
 ·omega
 ·rw [if_neg he] at a
  cases b with
  |none=>have:=d rfl;omega
  |some _=>cases a
def parts (v:Value) (K:Nat):List Value:=(List.range K).map fun i=>cutp v 1 (4*i) (4*i+4)
theorem H4 (v:Value) (K:Nat):parts v (K+1)=parts v K++[cutp v 1 (4*K) (4*K+4)]:=by simp [parts,range_succ]
theorem NU {v:Value} {k K:Nat} (h:k≤K):parts v k<+:parts v K:=by
  induction K with
  | zero => obtain rfl : k = 0 := by omega
            exact ⟨[],by simp⟩
  |succ K ih=>
    by_cases h1:k≤K
    · exact (ih h1).trans ⟨_,(H4 v K).symm⟩
    · obtain rfl:k=K+1:=by omega
      exact ⟨[],by simp⟩
theorem Qp (p q K:Nat) (v:Value) (w:World) (d:AN w p 28 [v]) (a:AN w q 3 [.int .i64 4]) (r:MW v (4*K)) (L:K≤100000):
  Sq prog 231 [] [.pointer (some ⟨p,0,none⟩), .pointer (some ⟨q,0,none⟩)] (fun x:Value=>[x]) (fun b=>b=p∨b=q) none (parts v K) w:=by
 intro A J W s F E e
 show AO prog 231 [.func (.yield A) #[] #[], .pointer (some ⟨p,0,none⟩), .pointer (some ⟨q,0,none⟩)] W (fun _ D=>J (parts v K) D)
 have d:=d.bs s
 have a:=a.bs s
 refine Fy (n:=31) func231 (by kernel_rfl) O O O<|Dw<|C9 (by kernel_rfl)<|Ab O ?_
 refine A9 (Pg.low ?_)
 refine C3 (Dx ?_)
 refine Cg.block ?_
 refine Cg.loop (S:=Nat) (fun k=>[(0, .func (.yield A) #[] #[]),(1, .pointer (some ⟨p,0,none⟩)),(2, .pointer (some ⟨q,0,none⟩)),(4, .int .i64 ((4*k:Nat):Int))]) (fun k w' =>k≤K∧J (parts v k) w' ∧AN w' p 28 [v]∧AN w' q 3 [.int .i64 4]) (fun k=>K - k) (0) ⟨rfl,rfl,rfl,rfl,trivial⟩ ?_ ?_
 ·exact ⟨Nat.zero_le _,e,d,a⟩
 clear e d a s
 rintro k w ⟨I,e,d,l⟩
 refine Dw<|Dw<|C9 (by kernel_rfl)<|Ad O<|Aa (Ap (Hy _) O ‹_› rfl) O ?_
 refine Aa (D6 AL O r) O<|B9 O ?_
 refine A9 (Pg.low ?_)
 refine C3 (Dx ?_)
 refine Cg.cond O ?_ ?_
 ·intro g
  have c:k<K:=by have:=AF g;omega
  refine Cg.skip ?_
  refine C3 (Dx ?_)
  refine Dw<|Cg.block<|Dw<|Cg.quiet mixed (by kernel_rfl) (by kernel_rfl)<|A4 (fun o a=>Ap (BD _) O (l.bs a) O) O<|A4 (fun o a=>Ap (Hy _) O (AN.bs ‹_› a) O) O ?_
  refine B8 O<|A4 (fun o a=>Fi (i:=4*k) AL O O r (by omega)) O<|A4 (fun o a=>D6 AL O (Rp r (by omega) (AT _))) O<|A4 (fun o a=>Ex.as (Ex.min2 O O) (cngA (Value.int .i64) (show (if ((4*K - 4*k:Nat):Int)<4 then ((4*K - 4*k:Nat):Int) else 4)=4 by split<;>omega))) O<|Ek O ?_
  refine Di (fun G a=>(Pg.low ?_))
  refine C3 (Dx ?_)
  refine Dw ?_
  have f:=d.bs a
  have m:=l.bs a
  have u:=F _ _ _ e ⟨none,AY a none, .inl rfl⟩
  have h:parts v k++[cutp v 1 (4*k) (4*k+4)]<+:parts v K:=by rw [← H4];exact NU c
  refine F3<|Lg.plain 10 (by kernel_rfl)<|Ad O<|Aa (Ap (Hy _) O ‹_› rfl) O ?_
  refine Ad O<|Ad O<|Ad O<|Aa (Ex.as (Eh O O (by omega)) (cngA (Value.int .i64) (show ((4*k:Nat):Int)+4=((4*k+4:Nat):Int) by omega))) O<|Ad O<|Ad O<|Aa (Ex.as (Eh O O (by omega)) (cngA (Value.int .i64) (show ((4*k:Nat):Int)+4=((4*k+4:Nat):Int) by omega))) O<|Aa (Ex.cutP (i:=4*k) (j:=4*k+4) AL O O O O r (by omega) (by omega)) O ?_
  refine A9 (Pg.low (G5 ?_))
  refine Lg.yield O O O (E (parts v k) (cutp v 1 (4*k) (4*k+4)) G u h) ?_
  rintro _ H ⟨rfl,B,C⟩
  rw [← H4] at B
  have t:=f.keep (C.2 p (.inl rfl) (BA f))
  have y:=m.keep (C.2 q (.inr rfl) (BA m))
  refine Lg.plain 1 (by kernel_rfl)<|Aa (Cy O) O ?_
  refine A9 (Pg.low (G5 (Lg.nil ?_)))
  refine C3 (Dx ?_)
  refine Cg.condB O false (rfl)<|Cg.skip<|Gj ?_
  refine C3 (Dx ?_)
  refine C9 (by kernel_rfl)<|Ad O<|Aa (Ap (BD _) O ‹_› rfl) O ?_
  refine Ce O (by omega)<|Ab O ?_
  refine A9 (Pg.low ?_)
  exact C3 (Pg.next (k+1) ⟨rfl,rfl,rfl,(cngA (fun z=>some (Value.int .i64 z)) (by omega)),trivial⟩ (⟨c,B,t,y⟩) (by omega))
 intro g
 have c:k=K:=by have:=AE g;omega
 subst c
 exact Cg.exit<|Gr<|Gr<|Pg.blkHit<|Pg.closeE<|Pw.end0 rfl<|e
theorem NV {v:Value} {c:Nat} (a:MW v c) {K:Nat}:(parts v K).all (·.oneCell')=true:=List.all_eq_true.2 fun x b=>by
 obtain ⟨i, -,rfl⟩:=List.mem_map.1 b
 obtain ⟨d,cap,rfl, -⟩:=a
 exact Ql ⟨_,_,_,rfl⟩
theorem Hi (v:Value) (K:Nat):(parts v K).length=K:=by simp [parts]
theorem No {v:Value} {c K:Nat} {a:List Value} {x:Value} (b:MW v c) (h:a++[x]<+:parts v K):[x].all (·.oneCell')=true:=by
 obtain ⟨t,h⟩:=h
 have:=NV b (K:=K)
 rw [← h,List.all_append,List.all_append,Bool.and_eq_true,Bool.and_eq_true] at this
 exact this.1.2
theorem Mf (p q K:Nat) (v:Value) (W:World) (hp:AN W p 28 [v]) (hq:AN W q 3 [.int .i64 4]) (Y:MW v (4*K)) (hK:K≤100000):
  AO prog 230 [.slice none 0 0, .func (.func 231) #[] #[.pointer (some ⟨p,0,none⟩), .pointer (some ⟨q,0,none⟩)]] W (fun r w' =>Below W.heap.size W w' ∧w'.ownsRow W.heap.size 28 1 r K (parts v K)):=by
 have f:=Below.refl W.heap.size W
 refine Fy (n:=13) func230 (by kernel_rfl) O O O<|Dw<|C9 (by kernel_rfl)<|Ar (Xw.box (cs:=[.slice none 0 0]) O O) O ?_
 rintro _ w ⟨rfl,a,t,hz⟩
 have f:=bt f t
 have I:=hp.bs t
 have V:=hq.bs t
 have yp:=BA hp
 have yq:=BA hq
 have ys:=BA a
 refine Ab O ?_
 refine A9 (Pg.low ?_)
 refine C3 (Dx ?_)
 refine Dw<|Dw<|C9 (by kernel_rfl)<|Ad O ?_
 refine A9 (Pg.low ?_)
 refine C3 (Dx ?_)
 refine Cg.block ?_
 refine Cg.range O ((Qp p q K v w I V Y hK)) (fun i e=>by have e:i=p∨i=q:=e;omega) (fun _=>rfl) (by kernel_rfl) (fun (c:List (Value)) w' =>∃y,AN w' W.heap.size 166 [y]∧w'.ownsRow W.heap.size 28 1 y c.length c∧Below W.heap.size W w') (by rintro _ ⟨⟩) ?_ ?_ ?_ ?_ ?_
 ·exact ⟨_,a,World.ownsRow_nil _ _ _ _,f⟩
 ·rintro c A A' ⟨y,M,H,U⟩ B
  exact ⟨y,M.nc B,KH H B,U.nc B (Nat.le_of_lt ys) (AT _)⟩
 ·rintro c A A' ⟨y,M,H,U⟩ B
  obtain ⟨r,g,T⟩:=B
  have T:r=none:=T.elim id id
  subst T
  have J:=GU g (AT _) fun _ e=>by cases e
  exact ⟨y,M.bs J,AG H J,bt U J⟩
 ·rintro lp c x w3 hl ⟨y,a,j,f⟩ m F
  have z3:=BA a
  refine C9 (by kernel_rfl)<|Ab O ?_
  refine A9 (Pg.low ?_)
  refine Pg.asg (KeepsFrom.refl _ _) (Kp.refl) ?_
  rintro w t hz F
  have a:=a.nc t
  have j:=KH j t
  have f:=f.nc t (by omega) (AT _)
  have hlp:c.length<K:=by have:=m.length_le;rw [length_append,Hi] at this;simp at this;omega
  have el:c.length+1=(c++[x]).length:=by simp
  refine Cg.block<|C9 (by kernel_rfl)<|Aa (Ap (Qy _) O ‹_› rfl) O ?_
  refine Ad O<|Ar (Cb (vs:=[x]) EY PR O O O (No Y m) O) O ?_
  rintro q3 w5 ⟨S, -,l, -⟩
  have a:=a.bs l
  have j:=AG j l
  have f:=bt f l
  have zB:=AA f
  refine Ar (B7 (base:=W.heap.size) EY PR O (by decide) O O j (AK S) (No Y m) (by omega) (by omega) zB) O ?_
  rintro N w6 ⟨s,X,L, -⟩
  have ne:∀b,y.ownBlock=some b→b≠W.heap.size:=fun b e C=>by
   obtain ⟨ds,G⟩:=AS.ty (.inl j) e
   rw [C] at G
   exact absurd (AZ G a) (by decide)
  have o:=a.by L (fun e=>ne _ e.symm rfl)
  have Z:∀b,N.ownBlock=some b→b≠W.heap.size:=fun b e C=>by
   obtain ⟨ds,G⟩:=AS.ty (.inl s) e
   rw [C] at G
   exact absurd (AZ G o) (by decide)
  have D:=f.trans X
  rw [el] at s
  refine A7 (Ck (u:=N) (RY _) O O (AK s).one' o Nat.zero_lt_one) ?_
  rintro w7 ⟨E,z,hz7⟩
  have R:=AP s fun k e=>z.block k (AB s k e).2 fun C=>Z k e (Option.some.inj C)
  have Q:=D.grown z (AA D) (by rintro _ e;have:=Option.some.inj e;omega)
  refine A9 (Pg.low ?_)
  refine Gj ?_
  exact Pg.rnd ((((KeepsFrom.refl _ _).bs l).own j L).blk o z) (((Kp.refl.bs l).grown L (fun k e (h:k=p∨k=q)=>by have:=(AB j k e).1;omega)).grown z (fun k e (h:k=p∨k=q)=>by have:=Option.some.inj e;omega)) (⟨N,E,R,Q⟩)
 rintro d w hd ⟨y,a,j,f⟩ hD
 rw [Hi] at j
 have zB:=BA a
 refine Gj ?_
 refine C3 (Dx ?_)
 refine Dw<|C9 (by kernel_rfl)<|Aa (Ap (Qy _) O ‹_› rfl) O ?_
 refine Ab O ?_
 refine A9 (Pg.low ?_)
 refine C3 (Dx ?_)
 refine Cg.ret ?_
 refine Pg.close (hD) (fun w t _=> ?_)
 have j:=KH j t
 have f:=f.nc t (by omega) (AT _)
 exact Am rfl rfl<|⟨f,j⟩
theorem OD (p q K:Nat) (v:Value) (W:World) (a:AN W p 28 [v]) (c:AN W q 3 [.int .i64 4]) (d:MW v (4*K)) (e:K≤100000):
  AO prog 156 [.func (.func 231) #[] #[.pointer (some ⟨p,0,none⟩), .pointer (some ⟨q,0,none⟩)]] W (fun r w' =>Below W.heap.size W w' ∧w'.ownsRow W.heap.size 28 1 r K (parts v K)):=by
 refine A5 (n:=5) func156 O<|Ak<|Ab O<|A0<|Ad O<|Ai O O (Mf p q K v W a c d e) ?_
 rintro r w' ⟨f,b⟩
 exact Ab rfl<|As<|Am rfl rfl<|⟨f,b⟩
theorem L3:∀(i:Nat) (t:List (BitVec 8)),(nums t).drop i=nums (t.drop (4*i))
 |0,t=>by simp
 |i+1,t=>by
  by_cases h:4≤t.length
  ·rw [N1 h,List.drop_succ_cons,L3 i,drop_drop,show 4+4*i=4*(i+1) by omega]
  ·rw [Js (show t.length<4 by omega),List.drop_nil,Js (by rw [length_drop];omega)]
theorem P8 {i:Nat} {t:List (BitVec 8)} (h:4*i+4≤t.length):(nums t).getD i default=gf ((t.drop (4*i)).take 4):=by
 have e:=L3 i t
 rw [N1 (l:=t.drop (4*i)) (by rw [length_drop];omega)] at e
 have a:(nums t)[i]? =some (gf (t.drop (4*i))):=by
  have:((nums t).drop i)[0]? =some (gf (t.drop (4*i))):=by rw [e];rfl
  rwa [getElem?_drop] at this
 rw [getD_eq_getElem?_getD,a]
 simp [gf]
theorem P0 {v:Value} {K i:Nat} (h:i<K):(parts v K).getD i default=cutp v 1 (4*i) (4*i+4):=by
 simp [parts,h]
theorem Pj {w:World} {v:Value} {t:List (BitVec 8)} {i:Nat} (h:BB b8 w v t) (b:4*i+4≤t.length):BB b8 w (cutp v 1 (4*i) (4*i+4)) ((t.drop (4*i)).take 4):=by
 have a:=Sl.cutp h (i:=4*i) (j:=4*i+4) (by omega) b
 have l:((t.drop (4*i)).take 4).length=4:=by rw [length_take,length_drop];omega
 unfold BB
 rw [l]
 rw [show 4*i+4 - 4*i=4 by omega,Nat.mul_one,Nat.mul_one,← map_drop,← map_take] at a
 exact a
theorem NN (v:Value) (l:List (BitVec 8)) (w:World) (a:BB b8 w v l) (b:4≤l.length):AO prog 159 [v] w (fun r w' =>r=i32 (gf l)∧Below w.heap.size w w'):=by
 refine A5 (n:=6) func159 O<|Ak<|Aa (Bq (show _=some (i32 (0#32)) from rfl)) O<|A0<|Ad O<|Ai O O (Qd v l w a b) ?_
 rintro _ d ⟨rfl,c⟩
 exact Aa (F8 GJ OV rfl) rfl<|Ab rfl<|As<|Am rfl rfl<|⟨rfl,c⟩
theorem Ry (v q:Value) (t:List (BitVec 8)) (K:Nat) (w:World) (u:BB (fun x:Value=>x) w v (parts q K)) (I:BB b8 w q t) (G:t.length=4*K) (N:K≤4096):
  AO prog 158 [v, .func (.func 159) #[] #[]] w (fun r w' =>w'.ownsRow w.heap.size 21 1 r (nums t).length ((nums t).map i32)∧Below w.heap.size w w'):=by
 have C:=Hi q K
 have y:=L4 K t G
 obtain ⟨l,E⟩:∃l,l=nums t:=⟨_,rfl⟩
 rw [← E] at y ⊢
 have L:=u.le
 refine A5 (n:=26) func158 O<|Ak<|Ab O<|A0<|Ad O<|Aa (Au EY O ‹_›) O ?_
 refine Ar (Fu DY R8 O O O (AT _) (by omega) (by omega)) O ?_
 rintro x B ⟨a, -,d, -⟩
 have f:=u.bs d
 obtain ⟨z,D⟩:∃z,z=replicate l.length 0#32:=⟨_,rfl⟩
 have m:l.length=z.length:=by rw [D,length_replicate]
 have F:(replicate (parts q K).length [Value.int .i32 0]).flatten=z.map i32:=by rw [D,C,← y];exact HG (enc:=i32) (z:=0#32) l.length
 rw [F] at a
 refine Ab O<|Bc<|Ad O<|Aa (Au EY O ‹_›) O ?_
 refine Ad O<|Al<|Ax ?_
 refine B2 (S:=Nat) (fun i=>[(1, .func (.func 159) #[] #[]),(5,x),(11,v),(12, .int .i64 ((parts q K).length:Int)),(13, .int .i64 (i:Int))]) (fun i w' =>i≤l.length∧w'.ownsRow w.heap.size 21 1 x l.length ((l.take i++z.drop i).map i32)∧Below w.heap.size w w') (fun i=>l.length - i) (0) ⟨rfl,rfl,rfl,rfl,rfl,trivial⟩ ?_ ?_
 ·exact ⟨by omega,by rw [Ni,y,← C];exact a,d⟩
 clear a d f
 rintro i B ⟨R,a,d⟩
 have f:=u.bs d
 refine Ak<|B9 O<|Al<|Aq<|An O ?_ ?_
 ·intro h
  have c:i<l.length:=by simp at h;omega
  have o:i<K:=by omega
  have k:4*i+4≤t.length:=by omega
  have A:=Pj (I.bs d) k
  have Q:((t.drop (4*i)).take 4).length=4:=by rw [length_take,length_drop];omega
  have J:gf ((t.drop (4*i)).take 4)=l.getD i default:=by rw [E];exact (P8 k).symm
  refine B4<|Aq<|Ax<|Ak<|Ad O<|Aa (Bd EY O O ‹_› _ O (by omega)) O ?_
  refine Aa (Ex.as (Bi (Hy _) O f (by omega)) (P0 o)) O<|Ab O<|Ab O<|Al<|A6<|Ad O<|Ad O<|Ad O<|Ad O<|Eb (p:=[]) O O O (NN (cutp q 1 (4*i) (4*i+4)) ((t.drop (4*i)).take 4) B A (by omega)) ?_
  rintro _ T ⟨rfl,g⟩
  rw [J]
  have a:=AG a g
  have s:=(AK a).shp
  refine Aa (Fv DY O O s i O c) O<|A7 (G4 (Tp _) O O O a (by simp;omega)) ?_
  rintro M ⟨j,H, -⟩
  rw [← map_set,Pb m (by omega)] at j
  refine A9<|Ba<|Ct<|Ce O (by omega)<|Ad O<|A9 ?_
  exact Az (Bw (i+1) ⟨rfl,rfl,rfl,rfl,rfl,trivial⟩ (⟨c,j,(bt d g).grown H (AA (bt d g)) fun b e=>(AB a b e).1⟩) (by omega))
 intro h
 have c:i=l.length:=by simp at h;omega
 subst c
 rw [m,Pc m,← m] at a
 exact Bu<|Av<|Av<|Bf<|Ci<|Ad rfl<|Ab rfl<|As<|Am rfl rfl<|⟨a,d⟩
theorem OC (v:Value) (n:BitVec 32) (t:List (BitVec 8)) (W:World) (h:BB b8 W v (Crc.four n++t)) (m:t.length=4*n.toNat) (f:n.toNat≤4096):
  AO prog 55 [v] W (fun r w' =>Below W.heap.size W w' ∧∃y e,r= .tuple #[y, .int .i64 e, .int .i64 0]∧w'.ownsRow W.heap.size 21 1 y (nums t).length ((nums t).map i32)):=by
 have A:=Below.refl W.heap.size W
 have lt:(Crc.four n++t).length=4+4*n.toNat:=by rw [length_append,m];rfl
 have I:gf (Crc.four n++t)=n:=J5 n
 have C:¬(Crc.four n++t).length<4:=by omega
 refine A5 (n:=33) func55 O<|Ak<|Ab O<|Ab O<|Ab O<|A0<|Ad O<|Ai O O (Kv v (Crc.four n++t) _ h) ?_
 rintro _ w ⟨rfl,d⟩
 rw [if_neg C,if_neg C,I]
 have A:=A.bs d
 have h:=h.bs d
 refine Ad O<|Aa (A3 (i:=0) O O) O<|Aa (A3 (i:=1) O O) O<|Ab O<|Ab O<|Bc<|Ad O<|Aa (Cz O O) O<|Al<|Cq O false (rfl)<|B4<|Aq<|Ak<|Ad O<|Aa (C6 O O) O<|Al<|An O ?_ ?_
 ·intro g
  have g:=AF g
  omega
 intro g
 clear g
 obtain ⟨T,H⟩:∃T,T=4+4*n.toNat:=⟨_,rfl⟩
 refine B4<|Aq<|Ak<|Ad O<|Aa (Gx GJ H2 O) O<|Aa (Ew O O (by omega)) O<|Aa (Ex.as (Eh O O (by omega)) (cngA (Value.int .i64) (show 4+4*(n.toNat:Int)=(T:Int) by omega))) O<|Ab O<|A0<|Ad O<|Ad O<|Aa (Au AL O ‹_›) O ?_
 refine Aa (C6 O O) O<|Al<|An O ?_ ?_
 ·intro g
  have g:=AF g
  omega
 intro g
 clear g
 have a:BB b8 w (cut v 1 4 T) t:=by
  have:=BB.drop h (i:=4) (by omega)
  rw [lt,← H] at this
  exact this
 have sh:=a.shp
 rw [m] at sh
 refine Cf<|Ad O<|Ad O<|Aa (Ex.cutLH (i:=4) (j:=T) AL O O O h (by omega) (by omega)) O<|Ai O O (Rs (cut v 1 4 T) w a.one) ?_
 rintro _ E ⟨d,p,q,rfl,J,F,l,z⟩
 have k:=bt A d
 have a:=a.bs d
 refine Ai O O (OD p q n.toNat (cut v 1 4 T) E l z sh (by omega)) ?_
 rintro r D ⟨c,s⟩
 have b:=bt k c
 have a:=a.bs c
 have B:BB (fun x:Value=>x) D r (parts (cut v 1 4 T) n.toNat):=by
  have:=AK s
  unfold BB
  rw [Hi,List.map_id']
  exact this
 have G:=AA b
 refine Ab O<|A0<|Ad O<|Ai O O (Ry r (cut v 1 4 T) t n.toNat D B a m f) ?_
 rintro y K ⟨u,o⟩
 exact Ad rfl<|Ab rfl<|Ab rfl<|Ab rfl<|As<|Pw.ret3 rfl rfl rfl rfl<|⟨bt b o,y,_,rfl,CL u G⟩

def Hx (x:N5):List (BitVec 8):=x.k::(AX x.i++AX x.s++[BitVec.ofInt 8 x.n,BitVec.ofInt 8 x.p])
def CK (ls:List N5):List (BitVec 8):=(ls.map Hx).flatten
def DH (ws:List T4):List (BitVec 8):=(ws.map fun t=>BQ t.l).flatten
def CU (ls:List N5) (ws:List T4):List (BitVec 8):=BitVec.ofInt 8 (ls.length:Int)::(CK ls++DH ws)
def Hr (ls:List N5) (ws:List T4):List (BitVec 8):=CU ls ws++Crc.four (Crc.of (CU ls ws))
def LB (ls:List N5) (ws:List T4):Int:=if EF ls ws then 0 else 1
def Jz (ls:List N5) (ws:List T4):List (BitVec 8):=if EF ls ws then Hr ls ws else []
theorem Oe (x:N5):(Hx x).length=x.i.length+x.s.length+5:=by simp [Hx,AX];omega
theorem FX (s:List Int):(AX s).length=1+s.length:=by simp [AX];omega
theorem M6 (a b:List N5):CK (a++b)=CK a++CK b:=by simp [CK]
theorem Ob (a b:List T4):DH (a++b)=DH a++DH b:=by simp [DH]
theorem M5 (x:N5):CK [x]=Hx x:=by simp [CK]
theorem Oa (t:T4):DH [t]=BQ t.l:=by simp [DH]
structure Ua (ls:List N5) (ws:List T4):Prop where
 few:ls.length≤32
 node:∀x ∈ ls,x.i.length≤4∧x.s.length≤4
 wts:ws.length≤32
 nums:∀t ∈ ws,t.l.length≤4096
theorem Iv:∀{ls:List N5},(∀x ∈ ls,x.i.length≤4∧x.s.length≤4)→(CK ls).length≤13*ls.length
 |[],_=>by simp [CK]
 |x::ls,h=>by
  have c:=h x (by simp)
  have b:=Iv (ls:=ls) fun y a=>h y (by simp [a])
  have e:CK (x::ls)=Hx x++CK ls:=rfl
  rw [e,length_append,Oe,length_cons]
  omega
theorem Ju:∀{ws:List T4},(∀t ∈ ws,t.l.length≤4096)→(DH ws).length≤16384*ws.length
 |[],_=>by simp [DH]
 |x::ls,h=>by
  have c:=h x (by simp)
  have b:=Ju (ws:=ls) fun y a=>h y (by simp [a])
  have e:DH (x::ls)=BQ x.l++DH ls:=rfl
  rw [e,length_append,DN,length_cons]
  omega
theorem Ov {k:BitVec 8} {i s:List Int} {n p:Int} (h:DA k i s n p=true):i.length≤4∧s.length≤4:=by
 unfold DA at h
 cases hk:CN k with
 |none=>rw [hk] at h;cases h
 |some r=>
  have l:=Nv k (by rw [hk];rfl)
  have key:∀{a b c d e f:Int},CN k=some [a,b,c,d,e,f]→b≤4→i.length≤4∧s.length≤4:=fun {a b c d e f} j o=>by
   rw [j] at h
   obtain ⟨⟨_,m,_⟩,g⟩:=FK.1 h
   refine ⟨by omega, ?_⟩
   split at g
   ·have:=AF g;omega
   ·split at g
    ·exact ((Shapes.ok_iff s).1 g).1.2
    ·unfold IH at g;simp only [Bool.and_eq_true,decide_eq_true_eq] at g;omega
  rcases l with e|e|e|e|e|e|e|e|e|e|e|e|e
  ·exact key (by rw [e];exact T8) (by decide)
  ·exact key (by rw [e];exact T7) (by decide)
  ·exact key (by rw [e];exact S3) (by decide)
  ·exact key (by rw [e];exact S0) (by decide)
  ·exact key (by rw [e];exact T6) (by decide)
  ·exact key (by rw [e];exact T5) (by decide)
  ·exact key (by rw [e];exact Sz) (by decide)
  ·exact key (by rw [e];exact Sy) (by decide)
  ·exact key (by rw [e];exact T3) (by decide)
  ·exact key (by rw [e];exact PP) (by decide)
  ·exact key (by rw [e];exact PO) (by decide)
  ·exact key (by rw [e];exact PM) (by decide)
  ·exact key (by rw [e];exact PL) (by decide)
theorem LC {ls:List N5} {ws:List T4} (h:EF ls ws=true):(∃b,FF ls=some b∧EG [] ls=some b)∧(F2 ls).length=ws.length∧NC (ws.map pv) (F2 ls)=true:=by
 unfold EF at h
 simp only [Bool.and_eq_true,decide_eq_true_eq] at h
 obtain ⟨d,c,f⟩:=h
 obtain ⟨b,a⟩:=Option.isSome_iff_exists.1 d
 refine ⟨⟨b,a, ?_⟩,c,f⟩
 unfold FF at a
 split at a
 ·cases a
 ·split at a
  ·split at a
   ·rename_i e _;cases a;exact e
   ·cases a
  ·cases a
theorem Sw {ls:List N5} {ws:List T4} (h:EF ls ws=true):Ua ls ws:=by
 obtain ⟨⟨f,m,g⟩,e,l⟩:=LC h
 have q:(F2 ls).length≤ls.length:=length_filter_le ..
 have b:=KO m
 refine ⟨b,fun x o=>Ov (HR ls [] f g x o),by omega,fun t k=> ?_⟩
 obtain ⟨i,n,rfl⟩:=List.mem_iff_getElem.1 k
 have a:=(FG (ws:=ws.map pv) (xs:=F2 ls) (by rw [length_map,e])).1 l i (by omega)
 rw [getD_eq_getElem?_getD,getElem?_map,getElem?_eq_getElem n] at a
 unfold JH at a
 rw [Bool.and_eq_true] at a
 obtain ⟨p,c⟩:=OY a.1
 have:=Shapes.size_le ws[i].s
 have c:(ws[i].l.length:Int)=Shapes.size ws[i].s:=by
  have:(pv ws[i]).2.length=(Shapes.size (pv ws[i]).1).toNat:=c
  have d:(pv ws[i]).2=ws[i].l:=rfl
  have j:(pv ws[i]).1=ws[i].s:=rfl
  rw [d,j] at this
  omega
 omega
theorem Kj (v:Value) (l:List (BitVec 8)) (n:BitVec 32) (W:World) (c:BB b8 W v l) (i:l.length≤4194304):
  AO prog 45 [v,u32 n] W (fun r w' =>Below W.heap.size W w' ∧w'.ownsRow W.heap.size 5 1 r (l++Crc.four n).length ((l++Crc.four n).map b8)):=by
 have b:=Below.refl W.heap.size W
 refine A5 (n:=9) func45 O<|Ak<|Ab O<|A0<|Ad O<|Ad O<|Ar (Cb (vs:=[n].map u32) CO LJ O O O O O) O ?_
 rintro y w ⟨e, -,a, -⟩
 have d:=AM e
 have b:=b.bs a
 have c:=c.bs a
 clear a e
 refine Ai O O (R4 v y l [n] w c d (by simp;omega)) ?_
 rintro r w' ⟨f,a⟩
 have h:=AA b
 have g:l++BQ [n]=l++Crc.four n:=by rw [FZ];simp [BQ]
 rw [g] at f
 exact Ab rfl<|As<|Am rfl rfl<|⟨bt b a,CL f h⟩
theorem Qb (n:BitVec 32) (l:List (BitVec 8)):(Crc.four n++l).drop 4=l:=rfl
set_option maxHeartbeats 1000000 in
theorem Su (v u : Value) (ls : List N5) (ws : List T4) (W : World) (h : GN W v ls) (hw : EI W u ws) :
    AO prog 12 [.agg [v,u].toArray] W (fun r w' =>Below W.heap.size W w' ∧∃x,r= .tuple #[x, .int .i64 (LB ls ws)]∧AS w' W.heap.size 5 1 x (Jz ls ws).length ((Jz ls ws).map b8)):=by
  have N:=Below.refl W.heap.size W
  refine A5 (n:=65) func12 O<|Ak<|Cv (cs:=[v,u]) O O O ?_
  rintro A_m w eA_m b_m C -
  have N:=N.bs C
  refine Ab O<|Ab O<|Bc<|Aa (Ch (Hb _) (GM _) O O ‹_›) O ?_
  have zA:=BA b_m
  refine Ai O O (R5 v u ls ws w (h.bs N) (hw.bs N)) ?_
  rintro _ L ⟨rfl,C⟩
  have N:=N.bs C
  have b_m:=b_m.bs C
  refine Aa (Cy O) O<|Al<|An O ?_ ?_
  · intro g
    have g:EF ls ws=false:=by simpa using g
    refine Ak<|Ab O<|Ab O<|Bx<|Bz O O O ?_
    exact ⟨N, .slice none 0 0,by simp [LB,g],by simp only [Jz,g];exact .inl (World.ownsRow_nil _ _ _ _)⟩
  intro g
  have g:EF ls ws=true:=by simpa using g
  have S:=Sw g
  have S1:=S.few
  have S2:=S.wts
  rw [show LB ls ws=0 by simp [LB,g],show Jz ls ws=Hr ls ws by simp [Jz,g]]
  clear g
  have X:=h.sl.bs N
  have z0:=AA N
  obtain ⟨E,hBB⟩:∃E:Nat→List (BitVec 8),E=fun i=>BitVec.ofInt 8 (ls.length:Int)::CK (ls.take i):=⟨_,rfl⟩
  have bb0:E 0=[BitVec.ofInt 8 (ls.length:Int)]:=by rw [hBB];rfl
  have bbl:∀i,i≤ls.length→(E i).length≤1+13*ls.length:=fun i hi=>by
    rw [hBB]
    have:=Iv (ls:=ls.take i) fun x hx=>S.node x (mem_of_mem_take hx)
    rw [length_take,Nat.min_eq_left hi] at this
    simp only [length_cons]
    omega
  refine Cf<|Bb underlying27 O (BT _)<|Bb underlying24 O (BY _)<|Aa (Ap (DF _) O ‹_› rfl) O ?_
  refine Aa (Au BV O ‹_›) O ?_
  refine Aa (Ee Lj Ho O) O<|Ar (Cb (vs:=[BitVec.ofInt 8 (ls.length:Int)].map b8) AL CT O O O O O) O ?_
  rintro y T ⟨o_y, -,C, -⟩
  have hB1:=bt N C
  have b_m1:=b_m.bs C
  have X:=h.sl.bs hB1
  rw [← bb0] at o_y
  refine Ab O<|Bc<|Bb underlying27 O (BT _)<|Bb underlying24 O (BY _)<|Aa (Ap (DF _) O ‹_› rfl) O ?_
  refine Aa (Au BV O ‹_›) O ?_
  refine Ad O<|Al<|Ax ?_
  have o_y:T.ownsRow L.heap.size 5 1 y (E 0).length ((E 0).map b8):=by rw [show (E 0).length=1 by rw [bb0];rfl];exact o_y
  refine B2 (S:=(Nat×Value)) (fun z=>[(1, .pointer (some ⟨A_m,0,none⟩)),(4,z.2),(20,v),(21, .int .i64 (ls.length:Int)),(22, .int .i64 (z.1:Int))]) (fun z w' =>z.1≤ls.length∧Below L.heap.size L w' ∧w'.ownsRow L.heap.size 5 1 z.2 (E z.1).length ((E z.1).map b8)) (fun z=>ls.length - z.1) ((0,y)) ⟨rfl,rfl,rfl,rfl,rfl,trivial⟩ ?_ ?_
  · exact ⟨Nat.zero_le _,C,o_y⟩
  clear o_y X b_m1 hB1 C
  rintro ⟨i,y⟩ w2 ⟨hi,C,m⟩
  dsimp only at hi C m ⊢
  have V:=bt N C
  have X:=h.sl.bs V
  have b_m2:=b_m.bs C
  have z2:=C.size
  refine Ak<|B9 O<|Al<|Aq<|An O ?_ ?_
  · intro gi
    have K:i<ls.length:=by have:=AF gi;omega
    obtain ⟨x,hx⟩:∃x,x=ls[i]:=⟨_,rfl⟩
    have hxm:x ∈ ls:=hx ▸ getElem_mem K
    have Q:=h.each x hxm
    have hcl:=h.cells K
    rw [← hx] at hcl
    have hS:=S.node x hxm
    have hbl:=bbl i hi
    have Y:E (i+1)=E i++[x.k]++AX x.i++AX x.s++[BitVec.ofInt 8 x.n,BitVec.ofInt 8 x.p]:=by
      rw [hBB]
      simp only
      rw [take_succ_eq_append_getElem K,M6,← hx,M5]
      simp [Hx]
    have zBB:(E (i+1)).length≤1+13*ls.length:=bbl (i+1) K
    have lx:=FX x.i
    have ly:=FX x.s
    have lBB:=cngA length Y
    simp only [length_append,length_cons,length_nil] at lBB
    refine B4<|Aq ?_
    refine D8 (St:=Value) (fun s=>[(1, .pointer (some ⟨A_m,0,none⟩)),(4,s),(20,v),(21, .int .i64 (ls.length:Int)),(22, .int .i64 (i:Int))]) (fun s w' =>Below L.heap.size L w' ∧w'.ownsRow L.heap.size 5 1 s (E (i+1)).length ((E (i+1)).map b8)) ?_ ?_
    · refine Ax<|Ak<|Aa (C5 BV O O X i O K) O<|Aa (D0 (cs:=x.cells) (GZ _) (GL _) O X O (by decide) hcl) O<|C1 (cs:=x.cells) GS O O O O (fun _=>rfl) ((Q.bs V).ones) ?_
      rintro A_x w0 eA_x a M zhn3
      have o:=bt C M
      have m:=AG m M
      clear C M b_m2 X V
      refine Al ?_
      refine Cw.any mixed (fun w hd _=> ?_)
      have a:=a.bs hd
      replace o:=bt o hd
      replace m:=AG m hd
      have H:=Ff w y
      refine Da (fun w' =>AN w' A_x 79 x.cells) (fun hC=> ?_) (a)
      refine B1 (Ao Bj)<|Ah 0 O (fun T q=>Bt O) O<|Ah 1 O (fun T q=>Cm underlying79 O (FH _)) O<|Ah 2 O (fun T q=>Ap (Ha _) O q O) O<|Ah 5 O (fun T q=>Cm underlying79 O (BK _)) O<|Ah 6 O (fun T q=>Ap (AV _) O q O) O<|Ah 8 O (fun T q=>Cm underlying79 O (BK _)) O<|Ah 9 O (fun T q=>Ap (AV _) O q O) O<|Ah 11 O (fun T q=>Cm underlying79 O (BZ _)) O<|Ah 12 O (fun T q=>Ap (BD _) O q O) O<|Ah 13 O (fun T q=>Ee Lj Ho O) O<|Ah 14 O (fun T q=>Cm underlying79 O (BZ _)) O<|Ah 15 O (fun T q=>Ap (BD _) O q O) O<|Ah 16 O (fun T q=>Ee Lj Ho O) O<|Bn ?_
      refine E2 ‹_› (i:=3) (j:=17) (by kernel_rfl) O O ?_ ?_
      refine Ar (Cb (vs:=[x.k].map b8) AL CT O O O O O) O ?_
      rintro q3 w ⟨R, -,C, -⟩
      have H:=H.bs C
      have a:=a.bs C
      have m:=m.bs C
      have o:=o.bs C
      refine AJ.back ?_
      refine E2 ‹_› (i:=4) (j:=17) (by kernel_rfl) O O ?_ ?_
      have U:=o.size
      refine Ar (B7 (base:=L.heap.size) AL CT O (by decide) O O m (AK R) (BF (fun _=>rfl) _) (by omega) (by omega) U) O ?_
      rintro y w ⟨k,l,B,q⟩
      have q:=q.imp id fun e b (D:y.ownBlock=some b)=>Nat.le_of_eq (Option.some.inj (e.symm.trans D))
      rw [← map_append,show (E i).length+1=(E i++[x.k]).length by rw [length_append];rfl] at k
      have H:=H.app B q
      clear U R
      have a:=a.by B fun e=>by
        obtain ⟨ds,J⟩:=AS.ty (.inl m) e.symm
        exact absurd (AZ J a) (by decide)
      try replace f:=AP d fun b I=>B.block b (AB d b I).2 fun e=>G b I e.symm
      try replace G := fun b (F : c.ownBlock = some b) (D : y.ownBlock = some b) => show False from by
                rcases q with h|h
                · exact G b F (h ▸ D)
                · have:=h b D
                  have:=(AB d b F).2
                  omega
      try replace d:=f
      try clear f
      replace m:=k
      have o:=o.trans l
      clear k l B q
      refine AJ.back ?_
      refine E2 ‹_› (i:=7) (j:=17) (by kernel_rfl) O O ?_ ?_
      refine Ai O O (EE _ x.x (E i++[x.k]) x.i L _ o m (Q.i.bs N) (by rw [length_append,length_singleton];omega)) ?_
      rintro y w ⟨l,k,A⟩
      have B:=A.g
      have q:=A.c
      have H:=H.app B q
      clear A
      clear o
      have o:=l
      have a:=a.by B fun e=>by
        obtain ⟨ds,J⟩:=AS.ty (.inl m) e.symm
        exact absurd (AZ J a) (by decide)
      try replace f:=AP d fun b I=>B.block b (AB d b I).2 fun e=>G b I e.symm
      try replace G := fun b (F : c.ownBlock = some b) (D : y.ownBlock = some b) => show False from by
                rcases q with h|h
                · exact G b F (h ▸ D)
                · have:=h b D
                  have:=(AB d b F).2
                  omega
      try replace d:=f
      try clear f
      replace m:=k
      clear k l B q
      refine AJ.back ?_
      refine E2 ‹_› (i:=10) (j:=17) (by kernel_rfl) O O ?_ ?_
      refine Ai O O (EE _ x.y (E i++[x.k]++AX x.i) x.s L _ o m (Q.s.bs N) (by rw [length_append,length_append,length_singleton,FX];omega)) ?_
      rintro y w ⟨l,k,A⟩
      have B:=A.g
      have q:=A.c
      have H:=H.app B q
      clear A
      clear o
      have o:=l
      have a:=a.by B fun e=>by
        obtain ⟨ds,J⟩:=AS.ty (.inl m) e.symm
        exact absurd (AZ J a) (by decide)
      try replace f:=AP d fun b I=>B.block b (AB d b I).2 fun e=>G b I e.symm
      try replace G := fun b (F : c.ownBlock = some b) (D : y.ownBlock = some b) => show False from by
                rcases q with h|h
                · exact G b F (h ▸ D)
                · have:=h b D
                  have:=(AB d b F).2
                  omega
      try replace d:=f
      try clear f
      replace m:=k
      clear k l B q
      refine AJ.back<|AJ.only ‹_› (i:=17) (by kernel_rfl) O ?_
      refine Ar (Cb (vs:=[BitVec.ofInt 8 x.n,BitVec.ofInt 8 x.p].map b8) AL CT O O O O O) O ?_
      rintro c w ⟨d, -,C, -⟩
      have G:=fun b (F:c.ownBlock=some b) D=>show False from by
        have:=(AB d b F).1
        have:=(AB m b D).2
        omega
      have H:=H.bs C
      have a:=a.bs C
      have m:=m.bs C
      have o:=o.bs C
      refine AJ.back<|AJ.only ‹_› (i:=18) (by kernel_rfl) O ?_
      have U:=o.size
      have lz:(E i++[x.k]++AX x.i++AX x.s).length≤2000:=by simp only [length_append,length_cons,length_nil];omega
      refine Ar (B7 (base:=L.heap.size) AL CT O (by decide) O O m (AK d) (BF (fun _=>rfl) _) (by omega) (by omega) U) O ?_
      rintro y w ⟨k,l,B,q⟩
      rw [← map_append,show (E i++[x.k]++AX x.i++AX x.s).length+2=(E i++[x.k]++AX x.i++AX x.s++[BitVec.ofInt 8 x.n,BitVec.ofInt 8 x.p]).length by rw [length_append (bs:=[_,_])];rfl] at k
      have a:=a.by B fun e=>by
        obtain ⟨ds,J⟩:=AS.ty (.inl m) e.symm
        exact absurd (AZ J a) (by decide)
      have o:=o.trans l
      refine AJ.back<|B1 (Ao Bj)<|Ah 19 O (fun T q=>Bq O) O<|Bn<|AJ.done ‹_› (by kernel_rfl) ?_
      refine Ba ?_
      exact B5 (y) ⟨rfl,rfl,rfl,rfl,rfl,trivial⟩ (⟨o,by rw [Y];exact k⟩)
      refine Ar (Cb (vs:=[BitVec.ofInt 8 x.n,BitVec.ofInt 8 x.p].map b8) AL CT O O O O O) O ?_
      rintro c w ⟨d, -,C, -⟩
      have G:=fun b (F:c.ownBlock=some b) D=>show False from by
        have:=(AB d b F).1
        have:=(AB m b D).2
        omega
      have H:=H.bs C
      have a:=a.bs C
      have m:=m.bs C
      have o:=o.bs C
      refine AJ.back<|AJ.only ‹_› (i:=10) (by kernel_rfl) O ?_
      refine Ai O O (EE _ x.y (E i++[x.k]++AX x.i) x.s L _ o m (Q.s.bs N) (by rw [length_append,length_append,length_singleton,FX];omega)) ?_
      rintro y w ⟨l,k,A⟩
      have B:=A.g
      have q:=A.c
      have H:=H.app B q
      clear A
      clear o
      have o:=l
      have a:=a.by B fun e=>by
        obtain ⟨ds,J⟩:=AS.ty (.inl m) e.symm
        exact absurd (AZ J a) (by decide)
      try replace f:=AP d fun b I=>B.block b (AB d b I).2 fun e=>G b I e.symm
      try replace G := fun b (F : c.ownBlock = some b) (D : y.ownBlock = some b) => show False from by
                rcases q with h|h
                · exact G b F (h ▸ D)
                · have:=h b D
                  have:=(AB d b F).2
                  omega
      try replace d:=f
      try clear f
      replace m:=k
      clear k l B q
      refine AJ.back<|AJ.only ‹_› (i:=18) (by kernel_rfl) O ?_
      have U:=o.size
      have lz:(E i++[x.k]++AX x.i++AX x.s).length≤2000:=by simp only [length_append,length_cons,length_nil];omega
      refine Ar (B7 (base:=L.heap.size) AL CT O (by decide) O O m (AK d) (BF (fun _=>rfl) _) (by omega) (by omega) U) O ?_
      rintro y w ⟨k,l,B,q⟩
      rw [← map_append,show (E i++[x.k]++AX x.i++AX x.s).length+2=(E i++[x.k]++AX x.i++AX x.s++[BitVec.ofInt 8 x.n,BitVec.ofInt 8 x.p]).length by rw [length_append (bs:=[_,_])];rfl] at k
      have a:=a.by B fun e=>by
        obtain ⟨ds,J⟩:=AS.ty (.inl m) e.symm
        exact absurd (AZ J a) (by decide)
      have o:=o.trans l
      refine AJ.back<|B1 (Ao Bj)<|Ah 19 O (fun T q=>Bq O) O<|Bn<|AJ.done ‹_› (by kernel_rfl) ?_
      refine Ba ?_
      exact B5 (y) ⟨rfl,rfl,rfl,rfl,rfl,trivial⟩ (⟨o,by rw [Y];exact k⟩)
      refine Ar (Cb (vs:=[BitVec.ofInt 8 x.n,BitVec.ofInt 8 x.p].map b8) AL CT O O O O O) O ?_
      rintro c w ⟨d, -,C, -⟩
      have G:=fun b (F:c.ownBlock=some b) D=>show False from by
        have:=(AB d b F).1
        have:=(AB m b D).2
        omega
      have H:=H.bs C
      have a:=a.bs C
      have m:=m.bs C
      have o:=o.bs C
      refine AJ.back<|AJ.only ‹_› (i:=7) (by kernel_rfl) O ?_
      refine Ai O O (EE _ x.x (E i++[x.k]) x.i L _ o m (Q.i.bs N) (by rw [length_append,length_singleton];omega)) ?_
      rintro y w ⟨l,k,A⟩
      have B:=A.g
      have q:=A.c
      have H:=H.app B q
      clear A
      clear o
      have o:=l
      have a:=a.by B fun e=>by
        obtain ⟨ds,J⟩:=AS.ty (.inl m) e.symm
        exact absurd (AZ J a) (by decide)
      try replace f:=AP d fun b I=>B.block b (AB d b I).2 fun e=>G b I e.symm
      try replace G := fun b (F : c.ownBlock = some b) (D : y.ownBlock = some b) => show False from by
                rcases q with h|h
                · exact G b F (h ▸ D)
                · have:=h b D
                  have:=(AB d b F).2
                  omega
      try replace d:=f
      try clear f
      replace m:=k
      clear k l B q
      refine AJ.back<|AJ.only ‹_› (i:=10) (by kernel_rfl) O ?_
      refine Ai O O (EE _ x.y (E i++[x.k]++AX x.i) x.s L _ o m (Q.s.bs N) (by rw [length_append,length_append,length_singleton,FX];omega)) ?_
      rintro y w ⟨l,k,A⟩
      have B:=A.g
      have q:=A.c
      have H:=H.app B q
      clear A
      clear o
      have o:=l
      have a:=a.by B fun e=>by
        obtain ⟨ds,J⟩:=AS.ty (.inl m) e.symm
        exact absurd (AZ J a) (by decide)
      try replace f:=AP d fun b I=>B.block b (AB d b I).2 fun e=>G b I e.symm
      try replace G := fun b (F : c.ownBlock = some b) (D : y.ownBlock = some b) => show False from by
                rcases q with h|h
                · exact G b F (h ▸ D)
                · have:=h b D
                  have:=(AB d b F).2
                  omega
      try replace d:=f
      try clear f
      replace m:=k
      clear k l B q
      refine AJ.back<|AJ.only ‹_› (i:=18) (by kernel_rfl) O ?_
      have U:=o.size
      have lz:(E i++[x.k]++AX x.i++AX x.s).length≤2000:=by simp only [length_append,length_cons,length_nil];omega
      refine Ar (B7 (base:=L.heap.size) AL CT O (by decide) O O m (AK d) (BF (fun _=>rfl) _) (by omega) (by omega) U) O ?_
      rintro y w ⟨k,l,B,q⟩
      rw [← map_append,show (E i++[x.k]++AX x.i++AX x.s).length+2=(E i++[x.k]++AX x.i++AX x.s++[BitVec.ofInt 8 x.n,BitVec.ofInt 8 x.p]).length by rw [length_append (bs:=[_,_])];rfl] at k
      have a:=a.by B fun e=>by
        obtain ⟨ds,J⟩:=AS.ty (.inl m) e.symm
        exact absurd (AZ J a) (by decide)
      have o:=o.trans l
      refine AJ.back<|B1 (Ao Bj)<|Ah 19 O (fun T q=>Bq O) O<|Bn<|AJ.done ‹_› (by kernel_rfl) ?_
      refine Ba ?_
      exact B5 (y) ⟨rfl,rfl,rfl,rfl,rfl,trivial⟩ (⟨o,by rw [Y];exact k⟩)
      refine Ar (Cb (vs:=[BitVec.ofInt 8 x.n,BitVec.ofInt 8 x.p].map b8) AL CT O O O O O) O ?_
      rintro c w ⟨d, -,C, -⟩
      have G:=fun b (F:c.ownBlock=some b) D=>show False from by
        have:=(AB d b F).1
        have:=(AB m b D).2
        omega
      have H:=H.bs C
      have a:=a.bs C
      have m:=m.bs C
      have o:=o.bs C
      have R:=R.bs C
      refine AJ.back<|AJ.only ‹_› (i:=4) (by kernel_rfl) O ?_
      have U:=o.size
      refine Ar (B7 (base:=L.heap.size) AL CT O (by decide) O O m (AK R) (BF (fun _=>rfl) _) (by omega) (by omega) U) O ?_
      rintro y w ⟨k,l,B,q⟩
      have q:=q.imp id fun e b (D:y.ownBlock=some b)=>Nat.le_of_eq (Option.some.inj (e.symm.trans D))
      rw [← map_append,show (E i).length+1=(E i++[x.k]).length by rw [length_append];rfl] at k
      have H:=H.app B q
      clear U R
      have a:=a.by B fun e=>by
        obtain ⟨ds,J⟩:=AS.ty (.inl m) e.symm
        exact absurd (AZ J a) (by decide)
      try replace f:=AP d fun b I=>B.block b (AB d b I).2 fun e=>G b I e.symm
      try replace G := fun b (F : c.ownBlock = some b) (D : y.ownBlock = some b) => show False from by
                rcases q with h|h
                · exact G b F (h ▸ D)
                · have:=h b D
                  have:=(AB d b F).2
                  omega
      try replace d:=f
      try clear f
      replace m:=k
      have o:=o.trans l
      clear k l B q
      refine AJ.back<|AJ.only ‹_› (i:=7) (by kernel_rfl) O ?_
      refine Ai O O (EE _ x.x (E i++[x.k]) x.i L _ o m (Q.i.bs N) (by rw [length_append,length_singleton];omega)) ?_
      rintro y w ⟨l,k,A⟩
      have B:=A.g
      have q:=A.c
      have H:=H.app B q
      clear A
      clear o
      have o:=l
      have a:=a.by B fun e=>by
        obtain ⟨ds,J⟩:=AS.ty (.inl m) e.symm
        exact absurd (AZ J a) (by decide)
      try replace f:=AP d fun b I=>B.block b (AB d b I).2 fun e=>G b I e.symm
      try replace G := fun b (F : c.ownBlock = some b) (D : y.ownBlock = some b) => show False from by
                rcases q with h|h
                · exact G b F (h ▸ D)
                · have:=h b D
                  have:=(AB d b F).2
                  omega
      try replace d:=f
      try clear f
      replace m:=k
      clear k l B q
      refine AJ.back<|AJ.only ‹_› (i:=10) (by kernel_rfl) O ?_
      refine Ai O O (EE _ x.y (E i++[x.k]++AX x.i) x.s L _ o m (Q.s.bs N) (by rw [length_append,length_append,length_singleton,FX];omega)) ?_
      rintro y w ⟨l,k,A⟩
      have B:=A.g
      have q:=A.c
      have H:=H.app B q
      clear A
      clear o
      have o:=l
      have a:=a.by B fun e=>by
        obtain ⟨ds,J⟩:=AS.ty (.inl m) e.symm
        exact absurd (AZ J a) (by decide)
      try replace f:=AP d fun b I=>B.block b (AB d b I).2 fun e=>G b I e.symm
      try replace G := fun b (F : c.ownBlock = some b) (D : y.ownBlock = some b) => show False from by
                rcases q with h|h
                · exact G b F (h ▸ D)
                · have:=h b D
                  have:=(AB d b F).2
                  omega
      try replace d:=f
      try clear f
      replace m:=k
      clear k l B q
      refine AJ.back<|AJ.only ‹_› (i:=18) (by kernel_rfl) O ?_
      have U:=o.size
      have lz:(E i++[x.k]++AX x.i++AX x.s).length≤2000:=by simp only [length_append,length_cons,length_nil];omega
      refine Ar (B7 (base:=L.heap.size) AL CT O (by decide) O O m (AK d) (BF (fun _=>rfl) _) (by omega) (by omega) U) O ?_
      rintro y w ⟨k,l,B,q⟩
      rw [← map_append,show (E i++[x.k]++AX x.i++AX x.s).length+2=(E i++[x.k]++AX x.i++AX x.s++[BitVec.ofInt 8 x.n,BitVec.ofInt 8 x.p]).length by rw [length_append (bs:=[_,_])];rfl] at k
      have a:=a.by B fun e=>by
        obtain ⟨ds,J⟩:=AS.ty (.inl m) e.symm
        exact absurd (AZ J a) (by decide)
      have o:=o.trans l
      refine AJ.back<|B1 (Ao Bj)<|Ah 19 O (fun T q=>Bq O) O<|Bn<|AJ.done ‹_› (by kernel_rfl) ?_
      refine Ba ?_
      exact B5 (y) ⟨rfl,rfl,rfl,rfl,rfl,trivial⟩ (⟨o,by rw [Y];exact k⟩)
      refine Ar (Cb (vs:=[BitVec.ofInt 8 x.n,BitVec.ofInt 8 x.p].map b8) AL CT O O O O O) O ?_
      rintro c w ⟨d, -,C, -⟩
      have G:=fun b (F:c.ownBlock=some b) D=>show False from by
        have:=(AB d b F).1
        have:=(AB m b D).2
        omega
      have H:=H.bs C
      have a:=a.bs C
      have m:=m.bs C
      have o:=o.bs C
      refine AJ.back<|AJ.only ‹_› (i:=3) (by kernel_rfl) O ?_
      refine Ar (Cb (vs:=[x.k].map b8) AL CT O O O O O) O ?_
      rintro q3 w ⟨R, -,C, -⟩
      have H:=H.bs C
      have a:=a.bs C
      have m:=m.bs C
      have o:=o.bs C
      have d:=d.bs C
      clear C
      refine AJ.back<|AJ.only ‹_› (i:=4) (by kernel_rfl) O ?_
      have U:=o.size
      refine Ar (B7 (base:=L.heap.size) AL CT O (by decide) O O m (AK R) (BF (fun _=>rfl) _) (by omega) (by omega) U) O ?_
      rintro y w ⟨k,l,B,q⟩
      have q:=q.imp id fun e b (D:y.ownBlock=some b)=>Nat.le_of_eq (Option.some.inj (e.symm.trans D))
      rw [← map_append,show (E i).length+1=(E i++[x.k]).length by rw [length_append];rfl] at k
      have H:=H.app B q
      clear U R
      have a:=a.by B fun e=>by
        obtain ⟨ds,J⟩:=AS.ty (.inl m) e.symm
        exact absurd (AZ J a) (by decide)
      try replace f:=AP d fun b I=>B.block b (AB d b I).2 fun e=>G b I e.symm
      try replace G := fun b (F : c.ownBlock = some b) (D : y.ownBlock = some b) => show False from by
                rcases q with h|h
                · exact G b F (h ▸ D)
                · have:=h b D
                  have:=(AB d b F).2
                  omega
      try replace d:=f
      try clear f
      replace m:=k
      have o:=o.trans l
      clear k l B q
      refine AJ.back<|AJ.only ‹_› (i:=7) (by kernel_rfl) O ?_
      refine Ai O O (EE _ x.x (E i++[x.k]) x.i L _ o m (Q.i.bs N) (by rw [length_append,length_singleton];omega)) ?_
      rintro y w ⟨l,k,A⟩
      have B:=A.g
      have q:=A.c
      have H:=H.app B q
      clear A
      clear o
      have o:=l
      have a:=a.by B fun e=>by
        obtain ⟨ds,J⟩:=AS.ty (.inl m) e.symm
        exact absurd (AZ J a) (by decide)
      try replace f:=AP d fun b I=>B.block b (AB d b I).2 fun e=>G b I e.symm
      try replace G := fun b (F : c.ownBlock = some b) (D : y.ownBlock = some b) => show False from by
                rcases q with h|h
                · exact G b F (h ▸ D)
                · have:=h b D
                  have:=(AB d b F).2
                  omega
      try replace d:=f
      try clear f
      replace m:=k
      clear k l B q
      refine AJ.back<|AJ.only ‹_› (i:=10) (by kernel_rfl) O ?_
      refine Ai O O (EE _ x.y (E i++[x.k]++AX x.i) x.s L _ o m (Q.s.bs N) (by rw [length_append,length_append,length_singleton,FX];omega)) ?_
      rintro y w ⟨l,k,A⟩
      have B:=A.g
      have q:=A.c
      have H:=H.app B q
      clear A
      clear o
      have o:=l
      have a:=a.by B fun e=>by
        obtain ⟨ds,J⟩:=AS.ty (.inl m) e.symm
        exact absurd (AZ J a) (by decide)
      try replace f:=AP d fun b I=>B.block b (AB d b I).2 fun e=>G b I e.symm
      try replace G := fun b (F : c.ownBlock = some b) (D : y.ownBlock = some b) => show False from by
                rcases q with h|h
                · exact G b F (h ▸ D)
                · have:=h b D
                  have:=(AB d b F).2
                  omega
      try replace d:=f
      try clear f
      replace m:=k
      clear k l B q
      refine AJ.back<|AJ.only ‹_› (i:=18) (by kernel_rfl) O ?_
      have U:=o.size
      have lz:(E i++[x.k]++AX x.i++AX x.s).length≤2000:=by simp only [length_append,length_cons,length_nil];omega
      refine Ar (B7 (base:=L.heap.size) AL CT O (by decide) O O m (AK d) (BF (fun _=>rfl) _) (by omega) (by omega) U) O ?_
      rintro y w ⟨k,l,B,q⟩
      rw [← map_append,show (E i++[x.k]++AX x.i++AX x.s).length+2=(E i++[x.k]++AX x.i++AX x.s++[BitVec.ofInt 8 x.n,BitVec.ofInt 8 x.p]).length by rw [length_append (bs:=[_,_])];rfl] at k
      have a:=a.by B fun e=>by
        obtain ⟨ds,J⟩:=AS.ty (.inl m) e.symm
        exact absurd (AZ J a) (by decide)
      have o:=o.trans l
      refine AJ.back<|B1 (Ao Bj)<|Ah 19 O (fun T q=>Bq O) O<|Bn<|AJ.done ‹_› (by kernel_rfl) ?_
      refine Ba ?_
      exact B5 (y) ⟨rfl,rfl,rfl,rfl,rfl,trivial⟩ (⟨o,by rw [Y];exact k⟩)
    rintro y' w3 ⟨hA3,ho3⟩
    replace hA3:Below L.heap.size L w3:=hA3
    replace ho3:w3.ownsRow L.heap.size 5 1 y' (E (i+1)).length ((E (i+1)).map b8):=ho3
    refine Cd<|A6<|Ce O (by omega)<|Ad O<|A9 ?_
    exact Az (Bw ((i+1,y')) ⟨rfl,rfl,rfl,rfl,rfl,trivial⟩ (⟨K,hA3,ho3⟩) (by simp only;omega))
  intro gi
  have K:i=ls.length:=by have:=AE gi;omega
  subst K
  have lB:=bbl ls.length (AT _)
  obtain ⟨B0,hB0⟩:∃B0,B0=E ls.length:=⟨_,rfl⟩
  rw [← hB0] at m lB
  have eB0:B0=BitVec.ofInt 8 (ls.length:Int)::CK ls:=by rw [hB0,hBB];simp only;rw [take_length]
  clear hB0 bbl bb0 X
  obtain ⟨CC,hCC⟩:∃CC:Nat→List (BitVec 8),CC=fun i=>B0++DH (ws.take i):=⟨_,rfl⟩
  have c0:CC 0=B0:=by rw [hCC];simp [DH]
  have ccl:∀i,(CC i).length≤1000000:=fun i=>by
    rw [hCC]
    have:=Ju (ws:=ws.take i) fun t ht=>S.nums t (mem_of_mem_take ht)
    rw [length_take] at this
    simp only [length_append]
    omega
  have s_u:=hw.1.bs V
  rw [← c0] at m
  refine Bu<|Av<|Av<|Bf<|Az<|Cd<|Aq<|Ak<|Bb underlying27 O (DC _)<|Aa (Ap (FO _) O ‹_› rfl) O ?_
  refine Aa (Au CR O ‹_›) O ?_
  refine Ad O<|Al<|Ax ?_
  refine B2 (S:=(Nat×Value)) (fun z=>[(4,z.2),(47,u),(48, .int .i64 (ws.length:Int)),(49, .int .i64 (z.1:Int))]) (fun z w' =>z.1≤ws.length∧Below L.heap.size L w' ∧w'.ownsRow L.heap.size 5 1 z.2 (CC z.1).length ((CC z.1).map b8)) (fun z=>ws.length - z.1) ((0,y)) ⟨rfl,rfl,rfl,rfl,trivial⟩ ?_ ?_
  · exact ⟨Nat.zero_le _,C,m⟩
  clear m s_u C hi V b_m2 z2
  rintro ⟨i,y⟩ w2 ⟨hi,C,m⟩
  dsimp only at hi C m ⊢
  have V:=bt N C
  have s_u:=hw.1.bs V
  refine Ak<|B9 O<|Al<|Aq<|An O ?_ ?_
  · intro gi
    have K:i<ws.length:=by have:=AF gi;omega
    obtain ⟨t,ht,htm,hc1,hc2⟩:=K9 K
    have hta:=hw.2 t htm
    have hcl:=Hh hc1 hc2
    have lt:=S.nums t htm
    have hcl1:=ccl i
    have eCC:CC (i+1)=CC i++BQ t.l:=by
      rw [hCC]
      simp only
      rw [take_succ_eq_append_getElem K,Ob,← ht,Oa,append_assoc]
    have Z:=hta.bs V
    have oneT:[t.x,t.y].all (·.oneCell')=true:=by simp [Z.1.one',Z.2.one']
    refine B4<|Aq<|Ax<|Ak<|Aa (C5 CR O O s_u i O K) O<|Aa (D0 (cs:=[t.x,t.y]) (Ih _) (HA _) O s_u O (by decide) hcl) O<|C1 (cs:=[t.x,t.y]) J9 O O O O (fun _=>rfl) (oneT) ?_
    rintro A_t w3 eA_t b_t M zhn3
    have o:=bt C M
    have m:=AG m M
    have Z:=Z.bs M
    refine Al<|A6<|Ad O<|Bb underlying75 O (HB _)<|Aa (Ap (JN _) O ‹_› rfl) O ?_
    refine Ai O O (NS (.slice none 0 0) t.y [] t.l w3 (Cx _ _) Z.2 (by simp;omega)) ?_
    rintro p w4 ⟨o_p,hn4⟩
    rw [nil_append,FZ] at o_p
    have s_p:=AM o_p
    have lp:(Crc.four (BitVec.ofInt 32 (t.l.length:Int))++BQ t.l).length=4+4*t.l.length:=by rw [length_append,DN];rfl
    have s_q:=BB.drop s_p (i:=4) (by omega)
    rw [Qb] at s_q
    have m:=AG m hn4
    have o:=bt o hn4
    refine Aa (Fj (i:=4) AL O O s_p (by omega)) O<|Ar (Dc (base:=L.heap.size) AL CT O (by decide) O O m s_q (BF (fun _=>rfl) _) (by rw [DN];omega) (by rw [DN];omega) o.size) O ?_
    rintro y' w5 ⟨ho5,hb5, -⟩
    rw [← map_append,← length_append,← eCC] at ho5
    refine Ab O<|A9<|Ba<|Ct<|Ce O (by omega)<|Ad O<|A9 ?_
    exact Az (Bw ((i+1,y')) ⟨rfl,rfl,rfl,rfl,trivial⟩ (⟨K,o.trans hb5,ho5⟩) (by simp only;omega))
  intro gi
  have K:i=ws.length:=by have:=AE gi;omega
  subst K
  have eC:CC ws.length=CU ls ws:=by rw [hCC];simp only;rw [take_length,eB0];rfl
  have lC:=ccl ws.length
  rw [eC] at m lC
  have s_y:=AM m
  refine Bu<|Av<|Av<|Bf<|Ci<|Ad O<|Ad O<|Ai O O (Sp y (CU ls ws) w2 s_y) ?_
  rintro _ w3 ⟨rfl,M⟩
  have s_y:=s_y.bs M
  have o:=bt C M
  refine Ai O O (Kj y (CU ls ws) _ w3 s_y (by omega)) ?_
  rintro r w4 ⟨hn4,o_r⟩
  have o:=bt o hn4
  have s_r:=AM o_r
  refine Ai O O (Qo r (Hr ls ws) w4 s_r) ?_
  rintro _ w5 ⟨rfl,hn5⟩
  have o:=bt o hn5
  have z3:=AA (bt N (bt C M))
  exact Ab rfl<|Ab rfl<|As<|Bz rfl rfl rfl<|⟨bt N o,_,rfl,((AS.clip o_r).mono z3).bs hn5⟩

theorem OG (A:Nat) (x:Value) (w:World) (a:AN w A 4 [x]):
  CallsD prog 154 [Value.pointer (some ⟨A,0,none⟩)].toArray (.panicking [{v:=MS,recovered:=false}]) w fun e d w' =>e= .returned (.tuple #[])∧d= .panicking [{v:=MS,recovered:=true}]∧(AN w' A 4 [.bool false]∧w.grownBy w' (some A)):=by
 refine Mc (n:=10) func154 O (fun ρ=>rfl) O O O fun o cs=> ?_
 have l:=AY (Below.refl w.heap.size w) (some A)
 refine Ax<|Ak<|Aa (Gd (by kernel_rfl) O) O<|Al<|Cq O false (rfl)<|Ak<|Aa (Gy (fun _=>by kernel_rfl) O) O<|Aa (A3 (i:=1) O O) O<|Aa (A3 (i:=0) O O) O<|Al<|Cq O true (rfl)<|Ak<|C1 (cs:=[]) SD O O O O (fun _=>rfl) (rfl) ?_
 rintro j m b f c k
 have a:=a.bs c
 refine Al<|A6<|A7 (Ck (u:= .bool false) (To _) O O O a Nat.zero_lt_one) ?_
 rintro p ⟨h,g, -⟩
 exact A9<|Ba<|Gq rfl<|⟨rfl,rfl,h,AQ (AY c _) g⟩
theorem OF (A:Nat) (w:World):
  CallsD prog 154 [Value.pointer (some ⟨A,0,none⟩)].toArray .returning w fun e a w' =>e= .returned (.tuple #[])∧a= .returning∧w' =w:=by
 refine Mb (n:=10) func154 O (fun ρ=>rfl) O O O fun b cs=>Ax<|Ak<|Aa (Gc (by kernel_rfl) O) O<|Al<|Cq O true (rfl)<|A6<|Ab O<|A9<|Ba<|Gq O ?_
 exact ⟨rfl,rfl,rfl⟩
theorem Ki (F:FuncId) (caps:List Value) (W:World) (R K:Nat→World→Prop)
  (m:∀A w,A=W.heap.size→Below W.heap.size W w→AN w A 4 [.bool false]→Ik prog F caps w MS (fun r w' =>r= .tuple #[]∧AN w' A 4 [.bool false]∧R A w') (fun w' =>AN w' A 4 [.bool false]∧K A w')):
  AO prog 50 [.func (.func F) #[] caps.toArray] W (fun r w' =>∃A g,A=W.heap.size∧g.grownBy w' (some A)∧((r= .bool true∧R A g)∨(r= .bool false∧K A g))):=by
 refine G6 (n:=6) func50 (by kernel_rfl) O O O<|Dw<|C9 (by kernel_rfl)<|Dg TV O ?_
 rintro A w i d s -
 refine A9 (Pg.low ?_)
 refine C3 (Dx ?_)
 refine Dw<|F3<|Lg.plain 1 (by kernel_rfl)<|Aa (Er (vs:=[]) (us:=[.pointer (some ⟨A,0,none⟩)]) O O) O ?_
 refine A9 (Pg.low ?_)
 refine G5<|Lg.defer (f:=154) (caps:=[.pointer (some ⟨A,0,none⟩)]) O<|Lg.nil ?_
 refine C3 (Dx ?_)
 refine Dw<|C9 (by kernel_rfl)<|Ad O ?_
 have k:∀w,(invoke (.fn (.func 154) [Value.pointer (some ⟨A,0,none⟩)].toArray) #[]).run prog w= .ok (.enter 154 [Value.pointer (some ⟨A,0,none⟩)].toArray) w:=fun w=>by
  simp [invoke,DD (P:=prog) (w:=w) ⟨_,func154,by kernel_rfl,rfl⟩]
 refine Lw.callVQ (caps:=caps) O O (m A w i s d) (fun w' q=>Pg.lowP (Pg.thenP ?_)) ?_
 ·obtain ⟨c,l⟩:=q
  refine Pg.panD (k w') (OG A _ w' c) ?_
  rintro j ⟨h,b⟩ a e
  exact ⟨_,Hu (v:= .bool false) rfl h underlying4 rfl (e.has 2 _ rfl),A,w',i,b, .inr ⟨rfl,l⟩⟩
 rintro _ o ⟨rfl,c,p⟩
 refine A9 (Pg.low ?_)
 refine C3 (Dx ?_)
 refine Dw<|C9 (by kernel_rfl)<|A7 (Ck (u:= .bool true) (To _) O O O c Nat.zero_lt_one) ?_
 rintro j ⟨h,b, -⟩
 refine A9 (Pg.low ?_)
 refine C3 (Dx ?_)
 exact Cg.ret<|Pg.retD (k j) (OF A j) fun a e=>⟨_,Hu (v:= .bool true) rfl h underlying4 rfl (e.has 2 _ rfl),A,o,i,b, .inl ⟨rfl,p⟩⟩
end Go.Proofs.YtblbopcaflaldaaGreatDoor
