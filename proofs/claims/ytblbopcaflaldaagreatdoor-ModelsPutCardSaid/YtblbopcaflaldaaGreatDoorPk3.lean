/- Texts of this proof, one behind the other: GraphShapes, WtsPl, NumsCode, PutCode, SumsCode, TensList, MdlCode, MdlRead, MdlPl, BookCode, BookLaw, RefShape, RefCode, TwinTensor, BookTen, MdlHold, TensorsArg, TensArg, MeansArg, TwinNode. -/
import Derived.Test.YtblbopcaflaldaaGreatDoorPk2
import Derived.Test.YtblbopcaflaldaaGreatDoorPk1

namespace Go.Proofs.YtblbopcaflaldaaGreatDoor
open Go Go.Dd Go.RowKit List Go.Proofs.Tryz
set_option maxRecDepth 100000
instance:Inhabited N5:=⟨⟨0#8, .slice none 0 0, .slice none 0 0,[],[],0,0⟩⟩
theorem Ed (a:N5):a.cells.length=5:=rfl
structure GN (w:World) (v:Value) (ls:List N5):Prop where
 sl:Sl w 5 v ls.length (GI N5.cells ls)
 each:∀a ∈ ls,N5.at w a
theorem GN.bs {w b:World} {v:Value} {ls:List N5} (h:GN w v ls) (g:Below w.heap.size w b):GN b v ls:=⟨h.sl.bs g,fun a c=>(h.each a c).bs g⟩
theorem GN.cells {w:World} {v:Value} {ls:List N5} (_h:GN w v ls) {i:Nat} (c:i<ls.length):∀k,k<5→∃q,(ls[i]).cells[k]? =some q∧(GI N5.cells ls)[i*5+k]? =some q:=fun k b=>by
 rw [J7 (fun a _=>Ed a) c b]
 exact ⟨_,getElem?_eq_getElem (by rw [Ed];exact b),getElem?_eq_getElem _⟩
def inB (m:Nat) (l:List Int):Bool:=l.any fun n=>decide (n<0)||decide ((m:Int)≤n)
def JI (acc:List (List Int)) (x:N5):Option (List Int):=
 if CU x.k x.i x.s x.n x.p && !inB acc.length x.i && Shapes.ok (Kw x.k x.s x.n x.p (x.i.map fun j=>acc.getD j.toNat [])) then some (Kw x.k x.s x.n x.p (x.i.map fun j=>acc.getD j.toNat [])) else none
def FA:List (List Int)→List N5→Option (List (List Int))
 |acc,[]=>some acc
 |acc,x::l=>match JI acc x with
  |some s=>FA (acc++[s]) l
  |none=>none
def Jf (k:BitVec 8):Bool:=match DI k with
 |some r=>decide (r.getD 1 0≠0)
 |none=>false
def DJ (ls:List N5):Nat:=(ls.filter fun a=>decide (a.k=1#8)).length
def GL (ls:List N5):Option (List (List Int)):=
 if ls.length<1∨32<ls.length then none else match FA [] ls with
 |some ss=>if DJ ls=1∧Jf (ls.getD (ls.length - 1) default).k=true then some ss else none
 |none=>none
theorem Vg (n:Int) (A m:Nat) (w:World) (b:AP w A 3 [.int .i64 (m:Int)]):AK prog 219 [.int .i64 n, .pointer (some ⟨A,0,none⟩)] w (fun r a=>r= .bool (decide (n<0)||decide ((m:Int)≤n))∧a=w):=by
 refine Az (n:=11) func219 O<|Ad<|Ab O<|Be<|Ac O<|Bz O<|Ac O ?_
 refine Cc 6 O ?_ ?_
 ·intro g
  refine Ae (dj:=6) O O O O<|Ae (dj:=6) O O O O<|Ae (dj:=6) O O O O<|B7 O<|Ab O<|Ay<|As O O ?_
  rw [g]
  exact ⟨rfl,rfl⟩
 intro g
 refine Ag (dj:=6) O O<|Ac O<|Ag (dj:=6) O O<|Aa (Al (AO _) O ‹_› rfl) O ?_
 refine Ag (dj:=6) O O<|Aa (Eu O O) O<|Ci O<|Ab O<|Ay<|As O O ?_
 rw [g]
 exact ⟨rfl,rfl⟩
theorem UE (v:Value) (l:List Int) (A m:Nat) (w:World) (s:BO (Value.int .i64) w v l) (d:AP w A 3 [.int .i64 (m:Int)]):AK prog 249 [v, .func (.func 219) #[] [.pointer (some ⟨A,0,none⟩)].toArray] w (fun r e=>(∃j,r= .int .i64 j∧decide (0≤j)=inB m l)∧e=w):=by
 have t:=s.le
 refine Az (n:=19) func249 O<|Ad<|Ab O<|Bi<|Ac O<|Aa (Ap AE O ‹_›) O ?_
 refine Ac O<|Ak<|An ?_
 refine Bl (S:=Nat) (fun i=>[(0,v),(1, .func (.func 219) #[] [.pointer (some ⟨A,0,none⟩)].toArray),(7, .int .i64 (l.length:Int)),(8, .int .i64 (i:Int))]) (fun i e=>i≤l.length∧inB m (l.take i)=false∧e=w) (fun i=>l.length - i) (0) ⟨rfl,rfl,rfl,rfl,trivial⟩ ?_ ?_
 ·exact ⟨Nat.zero_le _,rfl,rfl⟩
 rintro i k ⟨u,f,rfl⟩
 refine Ad<|Bz O<|Ak<|Ao<|Aq O ?_ ?_
 ·intro c
  have a:i<l.length:=by have:=AC c;omega
  have o:inB m (l.take (i+1))=(inB m (l.take i)||(decide (l.getD i default<0)||decide ((m:Int)≤l.getD i default))):=by
   unfold inB
   rw [take_succ_eq_append_getElem a,any_append]
   simp [a]
  refine Bw<|Ao<|An<|Ad<|Ac O<|Ab O<|Be<|Ac O<|Ac O<|Ac O<|Aa (Bh AE O O ‹_› _ O (by omega)) O ?_
  refine Aa (Bo (AO _) O ‹_› (by omega)) O ?_
  refine Eo (p:=[]) (q:=[.pointer (some ⟨A,0,none⟩)]) O O O (Vg (l.getD i default) A m k d) ?_
  rintro _ _ ⟨rfl,rfl⟩
  refine Ak<|Aq O ?_ ?_
  ·intro g
   refine Ad<|Ac O<|Ab O<|Ay<|Bj<|Av<|Av<|Bj<|Av<|As O O ?_
   refine ⟨⟨(i:Int),rfl, ?_⟩,rfl⟩
   have h:l.getD i default ∈ l:=GU a
   have:inB m l=true:=by unfold inB;exact List.any_eq_true.2 ⟨_,h,g⟩
   rw [this,decide_eq_true (by omega)]
  intro g
  refine Cj<|Bg<|B6<|B1 O (by omega)<|Ac O<|Bd ?_
  exact Ar (Bp (i+1) ⟨rfl,rfl,rfl,rfl,trivial⟩ (⟨a,by rw [o,f,g];rfl,rfl⟩) (by omega))
 intro b
 have a:i=l.length:=by have:=AD b;omega
 subst a
 rw [take_length] at f
 refine Bk<|Aj<|Aj<|A0<|Cb<|Ab O<|Ay<|As O O ?_
 exact ⟨⟨-1,rfl,by rw [f];rfl⟩,rfl⟩
theorem UF (v:Value) (l:List Int) (A m:Nat) (w:World) (d:BO (Value.int .i64) w v l) (a:AP w A 3 [.int .i64 (m:Int)]):AK prog 218 [v, .func (.func 219) #[] [.pointer (some ⟨A,0,none⟩)].toArray] w (fun r b=>r= .bool (inB m l)∧Below w.heap.size w b):=by
 refine Az (n:=9) func218 O<|Ad<|Ab O<|Be<|Ac O<|Ac O<|Ai O O (UE v l A m w d a) ?_
 rintro _ _ ⟨⟨j,rfl,c⟩,rfl⟩
 exact Aa (Eu rfl rfl) rfl<|Ab rfl<|Ay<|As rfl rfl<|⟨cngA Value.bool c,Below.refl _ _⟩
theorem TH (u:Value) (ps:List (Value×List Int)) (w:World) (b:BO (fun p:Value×List Int=>p.1) w u ps):AK prog 222 [u] w (fun r a=>r=clip u∧Below w.heap.size w a):=by
 refine Az (n:=9) func222 O<|Ad<|Ab O<|Be<|Ac O<|Ac O<|Aa (Ap AX O ‹_›) O ?_
 refine Ac O<|Aa (Ap AX O ‹_›) O ?_
 exact Aa (Fl AX rfl rfl rfl b.shp) rfl<|Ab rfl<|Ay<|As rfl rfl<|⟨rfl,Below.refl _ _⟩
theorem LN {k:BitVec 8} {r:List Int} (h:DI k=some r):KD (b8 k) (kv r)∧(∀v,KD (b8 k) v→v=kv r)∧r.length=6:=by
 unfold DI at h
 cases hf:Lk.find? (fun p=>decide (p.2.1=(k.toNat:Int))) with
 |none=>rw [hf] at h;cases h
 |some p=>
  rw [hf] at h
  obtain rfl:p.2.2=r:=by simpa using h
  have a:=mem_of_find?_eq_some hf
  have b:p.2.1=(k.toNat:Int):=by have:=find?_some hf;simpa using this
  have g:∀p ∈ Lk,∀q ∈ Lk,p.2.1=q.2.1→p=q:=by decide
  have c:∀p ∈ Lk,p.2.2.length=6:=by decide
  refine ⟨⟨p,a,by rw [b],rfl⟩,fun v ⟨q,d,f,e⟩=> ?_,c p a⟩
  have:(k.toNat:Int)=q.2.1:=by injection f
  rw [e,g p a q d (b.trans this)]
theorem Om {k:BitVec 8} (h:DI k=none):∀v,¬KD (b8 k) v:=fun v ⟨q,b,c,_⟩=>by
 unfold DI at h
 have a:Lk.find? (fun p=>decide (p.2.1=(k.toNat:Int)))=none:=by simpa using h
 have:=List.find?_eq_none.1 a q b
 have e:(k.toNat:Int)=q.2.1:=by injection c
 simp [e] at this
theorem Rn {l:List Int} (h:l.length=6):∃a b c d e f,l=[a,b,c,d,e,f]:=by
 match l,h with
 |[a,b,c,d,e,f],_=>exact ⟨a,b,c,d,e,f,rfl⟩
theorem Kc {w b:World} {M:Nat} {d:TypeDesc} {S:Value→Value→Prop} {r:Option Nat} (h:EF w M d S) (g:w.grownBy b r) (a:some M≠r):EF b M d S:=by
 have e:=h.lt
 obtain ⟨i,c,h,f⟩:=h
 exact ⟨i,c,by rw [g.block M e a];exact h,f⟩
abbrev Gw:TypeId:=79
abbrev RI:TypeId:=275
def II (B:Nat) (w:World) (u:Value) (ps:List (Value×List Int)):Prop:=∀p ∈ ps,BO (Value.int .i64) w p.1 p.2∧∀b,p.1.ownBlock=some b→(B≤b∧b<w.heap.size)∧u.ownBlock≠some b
theorem II.bs {B:Nat} {w c:World} {u:Value} {ps:List (Value×List Int)} (h:II B w u ps) (g:Below w.heap.size w c):II B c u ps:=fun p a=>⟨(h p a).1.bs g,fun b e=>⟨⟨((h p a).2 b e).1.1,Nat.lt_of_lt_of_le ((h p a).2 b e).1.2 g.size⟩,((h p a).2 b e).2⟩⟩
theorem II.by {B A:Nat} {w c:World} {u:Value} {ps:List (Value×List Int)} (h:II B w u ps) (g:w.grownBy c (some A)) (i:A<B):II B c u ps:=fun p a=>
 ⟨(h p a).1.keep (fun b d e=>g.block b d (fun f=>by have:=((h p a).2 b e).1.1;cases f;omega)),fun b e=>⟨⟨((h p a).2 b e).1.1,Nat.lt_of_lt_of_le ((h p a).2 b e).1.2 g.size⟩,((h p a).2 b e).2⟩⟩
theorem II.grow {B:Nat} {w i:World} {u f:Value} {ps:List (Value×List Int)} (h:II B w u ps) (g:w.grownBy i u.ownBlock) (c:f.ownBlock=u.ownBlock∨f.ownBlock=some w.heap.size):II B i f ps:=fun p a=>
 ⟨(h p a).1.keep (fun b j e=>g.block b j (fun d=>((h p a).2 b e).2 d.symm)),fun b e=>⟨⟨((h p a).2 b e).1.1,Nat.lt_of_lt_of_le ((h p a).2 b e).1.2 g.size⟩,fun d=>by
  rcases c with c|c
  ·exact ((h p a).2 b e).2 (c ▸ d)
  ·rw [c] at d;have:=((h p a).2 b e).1.2;cases d;omega⟩⟩
theorem I6:∀(ls:List N5) (a c:List (List Int)),FA a ls=some c→∀x ∈ ls,CU x.k x.i x.s x.n x.p=true
 |[],_,_,_,x,b=>by cases b
 |y::ls,a,c,h,x,b=>by
  unfold FA at h
  cases e:JI a y with
  |none=>rw [e] at h;cases h
  |some s=>
   rw [e] at h
   rcases List.mem_cons.1 b with rfl|b
   ·unfold JI at e
    split at e
    ·rename_i d
     simp only [Bool.and_eq_true] at d
     exact d.1.1
    ·cases e
   ·exact I6 ls _ _ h x b
theorem H8 {k:BitVec 8} {i s:List Int} {n p:Int} (h:CU k i s n p=true):∃a b c d e f,DI k=some [a,b,c,d,e,f]:=by
 unfold CU at h
 split at h
 ·rename_i a b c d e f g;exact ⟨a,b,c,d,e,f,g⟩
 ·cases h
set_option maxHeartbeats 1000000 in
theorem Ql (v:Value) (ls:List N5) (W:World) (h:GN W v ls):
  AK prog 135 [.agg [v].toArray] W (fun r w' =>Below W.heap.size W w' ∧match GL ls with
   |none=>r= .tuple #[.slice none 0 0, .int .i64 1]
   |some ss=>∃u ps,r= .tuple #[u, .int .i64 0]∧LI w' u ps∧AW ps=ss):=by
 obtain ⟨R,hR⟩:∃R,R=GL ls:=⟨_,rfl⟩
 rw [← hR]
 have o:=Below.refl W.heap.size W
 have L:=h.sl
 have hle:=h.sl.le
 refine Az (n:=92) func135 O<|Ad<|Cr (cs:=[v]) O O O ?_
 rintro A_g w eA_g f hn -
 have o:=o.bs hn
 have L:=L.bs hn
 refine Ab O<|Ab O<|Be<|Ba underlying24 O (BU _)<|Aa (Al (CD _) O ‹_› rfl) O ?_
 refine Aa (Ap BE O ‹_›) O ?_
 refine Ab O<|Bi<|Ac O<|Bz O<|Ac O ?_
 refine Cc 19 O ?_ ?_
 ·intro g
  have g:=AC g
  refine Ae (dj:=19) O O O O<|Ae (dj:=19) O O O O<|B7 O<|Ak<|Ca O<|Ad<|Ab O<|Ab O<|B2<|Bx O O O ?_
  have hN:R=none:=by rw [hR,GL,if_pos (by omega)]
  rw [hN]
  exact ⟨o,rfl⟩
 intro g1
 have g1:=AD g1
 refine Ag (dj:=19) O O<|Ac O<|Ag (dj:=19) O O<|Aa (Dh O O) O<|Ci O<|Ak<|Aq O ?_ ?_
 ·intro g
  have g:=AC g
  refine Ad<|Ab O<|Ab O<|B2<|Bx O O O ?_
  have hN:R=none:=by rw [hR,GL,if_pos (by omega)]
  rw [hN]
  exact ⟨o,rfl⟩
 intro g2
 have g2:=AD g2
 have hgs:GL ls=match FA [] ls with|some ss=>if DJ ls=1∧Jf (ls.getD (ls.length - 1) default).k=true then some ss else none|none=>none:=by rw [GL,if_neg (by omega)]
 have hRn:FA [] ls=none→R=none:=fun e=>by rw [hR,hgs,e]
 have z1:=AA o
 have y_g:=BA f
 refine Cs<|Ai O O (Tt w) ?_
 rintro _ w1 ⟨hn1,M,rfl,hMl,C⟩
 have yM:=C.lt
 have f:=f.bs hn1
 have o:=o.trans (hn1.mono z1)
 have z2:=hn1.size
 refine Aa (C1 (vs:=[]) (cs:=[.slice none 0 0]) O (by kernel_rfl)) O<|Bc (Xw.new U8) O ?_
 rintro _ w2 ⟨rfl,l,hn2,hz2⟩
 have f:=f.bs hn2
 have C:=C.bs hn2
 have o:=o.trans (hn2.mono (by omega))
 obtain ⟨A_t,hAt⟩:∃A_t,A_t=w1.heap.size:=⟨_,rfl⟩
 rw [← hAt] at l
 rw [← hAt]
 refine Ab O<|Bv (C7 (cs:=[.slice none 0 0]) (k:=1) (by kernel_rfl) O O O O l O) ?_
 rintro w3 ⟨l,hg3,hz3⟩
 have f:=f.by hg3 (by rintro ⟨⟩;omega)
 have C:=Kc C hg3 (by rintro ⟨⟩;omega)
 have o:=o.grown hg3 (by omega) (by rintro _ ⟨⟩;omega)
 obtain ⟨B,hBd⟩:∃B,B=w3.heap.size:=⟨_,rfl⟩
 have yB:A_g<B∧M<B∧A_t<B∧W.heap.size≤B:=by omega
 clear L
 have L:=h.sl.bs o
 refine Ab O<|Bi<|Ba underlying24 O (BU _)<|Aa (Al (CD _) O ‹_› rfl) O ?_
 refine Aa (Ap BE O ‹_›) O ?_
 refine Ac O<|Ak<|An ?_
 refine Bl (S:=(Nat×Nat×Value×List (Value×List Int))) (fun z=>[(1, .pointer (some ⟨A_g,0,none⟩)),(4, .int .i64 (ls.length:Int)),(5, .map (some M)),(6, .pointer (some ⟨A_t,0,none⟩)),(7, .int .i64 (z.2.1:Int)),(26,v),(27, .int .i64 (ls.length:Int)),(28, .int .i64 (z.1:Int))]) (fun z w' =>z.1≤ls.length∧Below W.heap.size W w' ∧B≤w'.heap.size∧EF w' M (.int .u8) KD∧AP w' A_g 24 [v]∧AP w' A_t 273 [z.2.2.1]∧w'.ownsRow B 70 1 z.2.2.1 z.1 (z.2.2.2.map (·.1))∧II B w' z.2.2.1 z.2.2.2∧(∀p ∈ z.2.2.2,Shapes.ok p.2=true)∧FA (AW z.2.2.2) (ls.drop z.1)=FA [] ls∧z.2.1=DJ (ls.take z.1)∧z.2.2.2.length=z.1∧z.2.1≤z.1) (fun z=>ls.length - z.1) ((0,0, .slice none 0 0,[])) ⟨rfl,rfl,rfl,rfl,rfl,rfl,rfl,rfl,trivial⟩ ?_ ?_
 ·exact ⟨Nat.zero_le _,o,by omega,C,f,l,⟨rfl, .inl ⟨rfl,rfl⟩⟩,(fun p hp=>by cases hp),(fun p hp=>by cases hp),rfl,rfl,rfl,AU _⟩
 clear f l C L
 rintro ⟨i,c,u,ps⟩ w4 ⟨hi,o,zB,C,f,l,m,d,hok,hrec,hc,lps,hci⟩
 dsimp only at hi o zB C f l m d hok hrec hc lps hci ⊢
 have L:=h.sl.bs o
 have z4:=AA o
 have ub:=AB m
 have lps2:(AW ps).length=ps.length:=length_map _
 refine Ad<|Bz O<|Ak<|Ao<|Aq O ?_ ?_
 ·intro g
  have U:i<ls.length:=by have:=AC g;omega
  obtain ⟨x,Y⟩:∃x,x=ls[i]:=⟨_,rfl⟩
  have hx:=(h.each x (Y ▸ getElem_mem U)).bs o
  have hcl:=h.cells U
  rw [← Y] at hcl
  have ed:ls.drop i=x::ls.drop (i+1):=by rw [drop_eq_getElem_cons U,← Y]
  have hstep:FA [] ls=match JI (AW ps) x with|some s=>FA (AW ps++[s]) (ls.drop (i+1))|none=>none:=by rw [← hrec,ed];rfl
  have hno:JI (AW ps) x=none→R=none:=fun e=>hRn (by rw [hstep,e])
  refine Bw<|Ao<|An<|Ad<|Ac O<|Aa (Cl BE O O L i O U) O<|Aa (C8 (cs:=x.cells) (EK _) (EH _) O L O (by decide) hcl) O<|Bc (Xw.new DO) O ?_
  rintro _ w5 ⟨rfl,E,hn5,hz5⟩
  refine Bc (Xw.new EJ) O ?_
  rintro _ w6 ⟨rfl,J,hn6,hz6⟩
  have E:=E.bs hn6
  obtain ⟨A_i,eAi⟩:∃A_i,A_i=w4.heap.size:=⟨_,rfl⟩
  obtain ⟨A_x,eAx⟩:∃A_x,A_x=w5.heap.size:=⟨_,rfl⟩
  rw [← eAi] at E
  rw [← eAx] at J
  rw [← eAi,← eAx]
  refine Bv (C5 (u:= .int .i64 (i:Int)) (BC _) O O O E Nat.zero_lt_one) ?_
  rintro w7 ⟨E,hg7,hz7⟩
  have J:=J.by hg7 (by rintro ⟨⟩;omega)
  refine Bv (C7 (cs:=x.cells) (k:=5) (by kernel_rfl) O O O hx.ones J O) ?_
  rintro w8 ⟨J,hg8,hz8⟩
  have E:=E.by hg8 (by rintro ⟨⟩;omega)
  have E:AP w8 A_i 3 [.int .i64 (i:Int)]:=E
  have H:Below w4.heap.size w4 w8:=((hn5.trans (hn6.mono (by omega))).grown hg7 (by omega) (by rintro _ ⟨⟩;omega)).grown hg8 (by omega) (by rintro _ ⟨⟩;omega)
  clear L
  have o:=o.trans (H.mono z4)
  have C:=C.bs H
  have f:=f.bs H
  have l:=l.bs H
  have m:=AI m H
  have d:=d.bs H
  have hx:=hx.bs H
  have h_i:=hx.i
  have z8:=H.size
  cases Z:DI x.k with
  |none=>
   refine Be<|Ac O<|Ba underlying79 O (EA _)<|Aa (Al (ED _) O ‹_› rfl) O ?_
   refine Aa (Ex.look2n underlying270 EX O O O C (show Tryz.prog.info? RI=some Tryz.t275 by kernel_rfl) O (Om Z)) O<|Ac O<|Aa (Bt (i:=0) O O) O<|Aa (Bt (i:=1) O O) O<|Bc (Xw.new Hu) O ?_
   rintro _ w9 ⟨rfl,N,hn9,hz9⟩
   refine Bv (C7 (cs:=[0,0,0,0,0,0].map (Value.int .i64)) (k:=6) (by kernel_rfl) O O O O N O) ?_
   rintro w10 ⟨N,hg10,hz10⟩
   have o:=(o.trans (hn9.mono (by omega))).grown hg10 (by omega) (by rintro _ ⟨⟩;omega)
   refine Ab O<|Bi<|Ac O<|Aa (Co O) O<|Ac O<|Cm 42 (v' := .bool true) O (cngA Value.bool (rfl))<|Ae (dj:=42) O O O O<|Ae (dj:=42) O O O O<|Ae (dj:=42) O O O O<|Ae (dj:=42) O O O O<|B7 O<|Ac O<|Ae (dj:=48) O O O O<|Ae (dj:=48) O O O O<|Ae (dj:=48) O O O O<|Ae (dj:=48) O O O O<|B7 O<|Ak<|Ca O<|Ad<|Ab O<|Ab O<|B2<|Bj<|Av<|Av<|Bj<|Av<|Bx O O O ?_
   have hN:R=none:=hno (by unfold JI;rw [if_neg];unfold CU;rw [Z];simp)
   rw [hN]
   exact ⟨o,rfl⟩
  |some row=>
   obtain ⟨k1,k2,k6⟩:=LN Z
   obtain ⟨ra,rb,rc,rd,re,rf,rfl⟩:=Rn k6
   refine Be<|Ac O<|Ba underlying79 O (EA _)<|Aa (Al (ED _) O ‹_› rfl) O ?_
   refine Aa (Ex.look2 underlying270 EX O O O C ⟨_,_,(show Tryz.prog.info? RI=some Tryz.t275 by kernel_rfl),rfl⟩ k1 k2) O<|Ac O<|Aa (Bt (i:=0) O O) O<|Aa (Bt (i:=1) O O) O<|Bc (Xw.new Hu) O ?_
   rintro _ w9 ⟨rfl,N,hn9,hz9⟩
   refine Bv (C7 (cs:=[ra,rb,rc,rd,re,rf].map (Value.int .i64)) (k:=6) (by kernel_rfl) O O O O N O) ?_
   rintro w10 ⟨N,hg10,hz10⟩
   have t:Below w8.heap.size w8 w10:=hn9.grown hg10 hn9.size (by rintro _ ⟨⟩;omega)
   have o:=o.trans (t.mono (by omega))
   have C:=C.bs t
   have f:=f.bs t
   have l:=l.bs t
   have J:=J.bs t
   have E:=E.bs t
   have m:=AI m t
   have d:=d.bs t
   have hx:=hx.bs t
   have h_i:=hx.i
   have z10:=t.size
   refine Ab O<|Bi<|Ac O<|Aa (Co O) O<|Ac O<|Cm 42 (v' := .bool false) O (cngA Value.bool (rfl))<|Ag (dj:=42) O O<|Aa (Cx (k:=6) (FN _) (FG _) O O N) O<|Ag (dj:=42) O O<|Aa (Cx (k:=5) (EK _) (EH _) O O J) O<|Ag (dj:=42) O O<|Ai O O (RJ ra rb rc rd re rf x w10 hx) ?_
   rintro _ w11 ⟨rfl,A⟩
   have ekF:CU x.k x.i x.s x.n x.p=GF ra rb rc rd re rf x.i x.s x.n x.p:=by unfold CU;rw [Z]
   have o:=o.trans (A.mono (by omega))
   have C:=C.bs A
   have f:=f.bs A
   have l:=l.bs A
   have J:=J.bs A
   have E:=E.bs A
   have m:=AI m A
   have d:=d.bs A
   have hx:=hx.bs A
   have h_i:=hx.i
   have z11:=A.size
   rw [← ekF]
   refine Ag (dj:=42) O O<|Aa (Co O) O<|Ci O<|Ac O ?_
   refine Cc 48 O ?_ ?_
   ·intro gk
    have gk:CU x.k x.i x.s x.n x.p=false:=by simpa using gk
    refine Ae (dj:=48) O O O O<|Ae (dj:=48) O O O O<|Ae (dj:=48) O O O O<|Ae (dj:=48) O O O O<|B7 O<|Ak<|Ca O<|Ad<|Ab O<|Ab O<|B2<|Bj<|Av<|Av<|Bj<|Av<|Bx O O O ?_
    have hN:R=none:=hno (by unfold JI;rw [gk];rfl)
    rw [hN]
    exact ⟨o,rfl⟩
   intro gk
   have gk:CU x.k x.i x.s x.n x.p=true:=by simpa using gk
   refine Ag (dj:=48) O O<|Ba underlying79 O (AT _)<|Ag (dj:=48) O O<|Aa (Al (AN _) O ‹_› rfl) O ?_
   refine Ag (dj:=48) O O<|Aa (E2 (vs:=[]) (us:=[.pointer (some ⟨A_i,0,none⟩)]) O O) O<|Ag (dj:=48) O O<|Ai O O (UF x.x x.i A_i i w11 h_i E) ?_
   rintro _ w12 ⟨rfl,D⟩
   have o:=o.trans (D.mono (by omega))
   have C:=C.bs D
   have f:=f.bs D
   have l:=l.bs D
   have J:=J.bs D
   have m:=AI m D
   have d:=d.bs D
   have hx:=hx.bs D
   have z12:=D.size
   refine Ci O<|Ak<|Aq O ?_ ?_
   ·intro gb
    refine Ad<|Ab O<|Ab O<|B2<|Bj<|Av<|Av<|Bj<|Av<|Bx O O O ?_
    have hN:R=none:=hno (by unfold JI;rw [lps2,lps,gb,Bool.not_true,Bool.and_false];rfl)
    rw [hN]
    exact ⟨o,rfl⟩
   intro gb
   have hji:∀j ∈ x.i,0≤j∧j<(ps.length:Int):=fun j hj=>by
    unfold inB at gb
    have:=List.any_eq_false.1 gb j hj
    simp at this
    omega
   have hps:LI w12 u ps:=⟨by have:=BD m;exact this,fun p hp=>(d p hp).1⟩
   refine Bw<|Ao<|Ad<|Ba underlying79 O (EA _)<|Aa (Al (ED _) O ‹_› rfl) O ?_
   refine Aa (Ch O (show _=some (b8 (1#8)) from rfl)) O<|Ak ?_
   refine Fm (St:=Nat) (fun c' =>[(1, .pointer (some ⟨A_g,0,none⟩)),(4, .int .i64 (ls.length:Int)),(5, .map (some M)),(6, .pointer (some ⟨A_t,0,none⟩)),(7, .int .i64 (c' :Int)),(9, .pointer (some ⟨A_x,0,none⟩)),(26,v),(27, .int .i64 (ls.length:Int)),(28, .int .i64 (i:Int))]) (fun c' w' =>w' =w12∧c' =c+(if x.k=1#8 then 1 else 0)) ?_ ?_
   ·refine Aq O ?_ ?_
    ·intro g1
     have g1:x.k=1#8:=AC g1
     refine Bn<|Ac O<|B1 O (by omega)<|Ab O<|Bd ?_
     exact Df ((c+1)) ⟨rfl,rfl,rfl,rfl,(cngA (fun z=>some (Value.int .i64 z)) (by omega)),rfl,rfl,rfl,rfl,trivial⟩ (⟨rfl,by rw [if_pos g1]⟩)
    intro g1
    have g1:¬x.k=1#8:=AD g1
    exact Cj<|Df (c) ⟨rfl,rfl,rfl,rfl,rfl,rfl,rfl,rfl,rfl,trivial⟩ (⟨rfl,by rw [if_neg g1,Nat.add_zero]⟩)
   rintro c' w12 ⟨rfl,hc'⟩
   refine Ad<|Aa (Cx (EK _) (EH _) O O ‹_›) O ?_
   refine Aa (Cx (UO _) (Un _) O O ‹_›) O ?_
   refine Aa (E2 (vs:=[.agg [u].toArray]) (us:=[]) O O) O ?_
   have ub12:=AB m
   refine Ai O O (RY x u ps w12 hx hps gk hji hok) ?_
   rintro y w13 ⟨T,K,y_own⟩
   obtain ⟨G,hGd⟩:∃G,G=Kw x.k x.s x.n x.p (x.i.map fun j=>(AW ps).getD j.toNat []):=⟨_,rfl⟩
   have eG:Kw x.k x.s x.n x.p (x.i.map fun j=>(ps.getD j.toNat default).2)=G:=by
    rw [hGd]
    congr 1
    refine map_congr_left fun j hj=> ?_
    have:=hji j hj
    rw [getD_eq_getElem?_getD,getD_eq_getElem?_getD,getElem?_map,getElem?_eq_getElem (by omega)];rfl
   rw [eG] at T
   have o:=o.trans (K.mono (by omega))
   have C:=C.bs K
   have f:=f.bs K
   have l:=l.bs K
   have m:=AI m K
   have d:=d.bs K
   have z13:=K.size
   refine Ab O<|Bi<|Ac O<|Ai O O (FU y G w13 T) ?_
   rintro _ w14 ⟨rfl,I⟩
   have o:=o.trans (I.mono (by omega))
   have C:=C.bs I
   have f:=f.bs I
   have l:=l.bs I
   have m:=AI m I
   have d:=d.bs I
   have T:=T.bs I
   have z14:=I.size
   refine Aa (Co O) O<|Ak<|Aq O ?_ ?_
   ·intro go
    have go:Shapes.ok G=false:=by simpa using go
    refine Ad<|Ab O<|Ab O<|B2<|Bj<|Av<|Av<|Bj<|Av<|Bx O O O ?_
    have hN:R=none:=hno (by unfold JI;rw [← hGd,go,Bool.and_false];rfl)
    rw [hN]
    exact ⟨o,rfl⟩
   intro go
   have go:Shapes.ok G=true:=by simpa using go
   have e_st:JI (AW ps) x=some G:=by
    unfold JI;rw [← hGd,go,gk,lps2,lps]
    have:inB i x.i=false:=by simpa using gb
    rw [this];rfl
   refine Bw<|Bn<|Ba underlying273 O (JH _)<|Aa (Al (OR _) O ‹_› rfl) O ?_
   refine Ac O<|Bc (Cv (vs:=[y]) AX Jg O O O (by rw [all_cons,T.one'];rfl) O) O ?_
   rintro q w15 ⟨o_q, -,F, -⟩
   have o:=o.trans (F.mono (by omega))
   have C:=C.bs F
   have f:=f.bs F
   have l:=l.bs F
   have m:=AI m F
   have d:=d.bs F
   have T:=T.bs F
   have z15:=F.size
   have ub:=AB m
   refine Bc (Cn (base:=B) AX Jg O (by decide) O O m (AF o_q) (by rw [all_cons,T.one'];rfl) (by omega) (by omega) (by omega)) O ?_
   rintro u' w16 ⟨Q,hn16,X,hcs⟩
   have C:=Kc C X (fun e=>by have:=ub _ e.symm;omega)
   have f:=f.by X (fun e=>by have:=ub _ e.symm;omega)
   have l:=l.by X (fun e=>by have:=ub _ e.symm;omega)
   have hoff2:II B w15 u (ps++[(y,G)]):=fun p hp=>(List.mem_append.1 hp).elim (d p) (fun e=>by
    rw [List.mem_singleton.1 e]
    refine ⟨T,fun b e=> ?_⟩
    have h1:=y_own b e
    exact ⟨⟨by omega,by omega⟩,fun e2=>by have:=ub12 b e2;omega⟩)
   have d:=hoff2.grow X hcs
   have z16:=X.size
   have ub' :=AB Q
   have e1:ps.map (·.1)++[y]=(ps++[(y,G)]).map (·.1):=by rw [map_append];rfl
   rw [e1] at Q
   refine Ba underlying273 O (JH _)<|Bv (C5 (u:=u') (JH _) O O (AF Q).one' l Nat.zero_lt_one) ?_
   rintro w17 ⟨l,V,hz17⟩
   have C:=Kc C V (fun e=>by have:=Option.some.inj e;omega)
   have f:=f.by V (fun e=>by have:=Option.some.inj e;omega)
   have d:=d.by V (by omega)
   have Q:=AV Q (fun k e=>V.block k (ub' k e).2 (fun e2=>by have:=ub' k e;have:=Option.some.inj e2;omega))
   have hBF:=(o.trans (hn16.mono (by omega))).grown V (by have:=hn16.size;omega) (by rintro _ e;have:=Option.some.inj e;omega)
   have hok' :∀p ∈ ps++[(y,G)],Shapes.ok p.2=true:=fun p hp=>(List.mem_append.1 hp).elim (hok p) (fun e=>by rw [List.mem_singleton.1 e];exact go)
   have hrec' :FA (AW (ps++[(y,G)])) (ls.drop (i+1))=FA [] ls:=by
    rw [hstep,e_st]
    have:AW (ps++[(y,G)])=AW ps++[G]:=by unfold AW;rw [map_append];rfl
    rw [this]
   have hcc:c' =DJ (ls.take (i+1)):=by
    rw [hc',hc,take_succ_eq_append_getElem U,← Y]
    unfold DJ
    rw [filter_append,length_append]
    by_cases e:x.k=1#8
    ·rw [if_pos e,filter_cons,decide_eq_true e];rfl
    ·rw [if_neg e,filter_cons,decide_eq_false e];rfl
   have hci' :c' ≤i+1:=by rw [hc'];split<;>omega
   refine Bd<|Bg<|B6<|B1 O (by omega)<|Ac O<|Bd ?_
   exact Ar (Bp ((i+1,c',u',ps++[(y,G)])) ⟨rfl,rfl,rfl,rfl,rfl,rfl,rfl,rfl,trivial⟩ (⟨U,hBF,by have:=hn16.size;omega,C,f,l,Q,d,hok',hrec',hcc,by rw [length_append,lps];rfl,hci'⟩) (by simp only;omega))
 intro g
 have U:i=ls.length:=by have:=AD g;omega
 subst U
 rw [drop_length] at hrec
 rw [take_length] at hc
 have hgr:FA [] ls=some (AW ps):=by rw [← hrec];rfl
 have hgf:R=if DJ ls=1∧Jf (ls.getD (ls.length - 1) default).k=true then some (AW ps) else none:=by rw [hR,hgs,hgr]
 obtain ⟨x,Y⟩:∃x,x=ls.getD (ls.length - 1) default:=⟨_,rfl⟩
 rw [← Y] at hgf
 have hl1:ls.length - 1<ls.length:=by omega
 have hxm:x=ls[ls.length - 1]:=by rw [Y,getD_eq_getElem?_getD,getElem?_eq_getElem hl1];rfl
 have hkx:=I6 ls [] _ hgr x (hxm ▸ getElem_mem hl1)
 obtain ⟨ra,rb,rc,rd,re,rf,Z⟩:=H8 hkx
 obtain ⟨k1,k2, -⟩:=LN Z
 have hlast:Jf x.k=decide (rb≠0):=by unfold Jf;rw [Z];rfl
 have ad:∃ad c k,v= .slice (some ad) c k:=by
  obtain ⟨_,ao,cap,e,d1,d2,d3,_⟩:=h.sl
  cases ao with
  |none=>have:=d3 rfl;omega
  |some ad=>exact ⟨ad,_,_,e⟩
 have ck:(GI N5.cells ls)[(ls.length - 1)*5+0]? =some (b8 x.k):=by
  rw [J7 (fun a _=>Ed a) hl1 (by decide),← hxm];rfl
 refine Bk<|Aj<|Aj<|A0<|Ar<|B9<|Ao<|Ad<|Ac O<|Ba underlying24 O (BU _)<|Aa (Al (CD _) O ‹_› rfl) O ?_
 refine Ac O<|Aa (Ex.as (D2 O O (by omega)) (cngA (Value.int .i64) (show (ls.length:Int) - 1=((ls.length - 1:Nat):Int) by omega))) O<|Aa (Cl BE O O L (ls.length - 1) O hl1) O<|Aa (C9 (q:=0) underlying79 O (EA _) O ad) O<|Aa (Ea (ED _) O L ck) O<|Aa (Ex.look1 underlying270 EX O O O C ⟨_,_,(show Tryz.prog.info? RI=some Tryz.t275 by kernel_rfl),rfl⟩ k1 k2) O<|Bc (Xw.new Hu) O ?_
 rintro _ w5 ⟨rfl,N,hn5,hz5⟩
 have l:=l.bs hn5
 refine Bv (C7 (cs:=[ra,rb,rc,rd,re,rf].map (Value.int .i64)) (k:=6) (by kernel_rfl) O O O O N O) ?_
 rintro w6 ⟨N,hg6,hz6⟩
 have hn46:Below w4.heap.size w4 w6:=hn5.grown hg6 hn5.size (by rintro _ ⟨⟩;omega)
 have l:=l.by hg6 (by rintro ⟨⟩;omega)
 have o:=o.trans (hn46.mono z4)
 have m:=AI m hn46
 have d:=d.bs hn46
 refine Be<|Ac O<|Aa (Ct O O) O<|Ac O ?_
 refine Cc 84 O ?_ ?_
 ·intro gc
  have gc:¬DJ ls=1:=fun e=>by rw [← hc] at e;subst e;simp at gc
  refine Ae (dj:=84) O O O O<|Ae (dj:=84) O O O O<|Ae (dj:=84) O O O O<|B7 O<|Ak<|Ca O<|Ad<|Ab O<|Ab O<|B2<|Bx O O O ?_
  rw [hgf,if_neg (fun h=>gc h.1)]
  exact ⟨o,rfl⟩
 intro gc
 have gc:DJ ls=1:=by rw [← hc];simp at gc;omega
 refine Ag (dj:=84) O O<|Ba underlying275 O (BC _)<|Ag (dj:=84) O O<|Aa (Al (AO _) O N O) O<|Ag (dj:=84) O O<|Aa (C6 O O) O<|Ci O<|Ak<|Aq O ?_ ?_
 ·intro gm
  have gm:rb=0:=AC gm
  refine Ad<|Ab O<|Ab O<|B2<|Bx O O O ?_
  rw [hgf,if_neg (fun h=>by rw [hlast,gm] at h;simp at h)]
  exact ⟨o,rfl⟩
 intro gm
 have gm:rb≠0:=AD gm
 refine Cs<|Ba underlying273 O (JH _)<|Aa (Al (OR _) O ‹_› rfl) O ?_
 refine Ai O O (TH u ps w6 (BD m)) ?_
 rintro _ w7 ⟨rfl,hn7⟩
 refine Ab O<|Ab O<|Ay<|Bx O O O ?_
 rw [hgf,if_pos ⟨gc,by rw [hlast];exact decide_eq_true gm⟩]
 exact ⟨o.trans (hn7.mono (AA o)),_,ps,rfl,⟨(Sl.clip (BD m)).bs hn7,fun p hp=>(d p hp).1.bs hn7⟩,rfl⟩
theorem Sd (v:Value) (ls:List N5) (W:World) (h:GN W v ls):
  AK prog 33 [.agg [v].toArray] W (fun r f=>Below W.heap.size W f∧r= .bool (GL ls).isSome):=by
 have a:=Below.refl W.heap.size W
 refine Az (n:=12) func33 O<|Ad<|Cr (cs:=[v]) O O O ?_
 rintro g w d j k -
 have a:=a.bs k
 refine Ab O<|Be<|Aa (Cx (Gx _) (BX _) O O ‹_›) O ?_
 refine Ai O O (Ql v ls w (h.bs a)) ?_
 rintro r l ⟨c,b⟩
 have a:=a.trans (c.mono (AA a))
 cases e:GL ls with
 |none=>
  rw [e] at b
  obtain rfl:=b
  exact Ac rfl<|Aa (Bt (i:=0) rfl rfl) rfl<|Aa (Bt (i:=1) rfl rfl) rfl<|Ab rfl<|Ab rfl<|Be<|Ac rfl<|Aa (C6 rfl rfl) rfl<|Ab rfl<|Ay<|As rfl rfl<|⟨a,rfl⟩
 |some ss=>
  rw [e] at b
  obtain ⟨u,ps,rfl, -, -⟩:=b
  exact Ac rfl<|Aa (Bt (i:=0) rfl rfl) rfl<|Aa (Bt (i:=1) rfl rfl) rfl<|Ab rfl<|Ab rfl<|Be<|Ac rfl<|Aa (C6 rfl rfl) rfl<|Ab rfl<|Ay<|As rfl rfl<|⟨a,rfl⟩
def CP (ls:List N5):List Int:=((range ls.length).filter fun i=>decide ((ls.getD i default).k=2#8)).map fun i:Nat=>(i:Int)
theorem KR (ls:List N5) (i:Nat) (b:i<ls.length):CP (ls.take (i+1))=CP (ls.take i)++(if (ls.getD i default).k=2#8 then [(i:Int)] else []):=by
 have a:∀m,m≤ls.length→CP (ls.take m)=((range m).filter fun i=>decide ((ls.getD i default).k=2#8)).map fun i:Nat=>(i:Int):=fun m d=>by
  unfold CP
  rw [length_take,Nat.min_eq_left d]
  congr 1
  refine filter_congr fun j c=> ?_
  have:=List.mem_range.1 c
  have:(ls.take m).getD j default=ls.getD j default:=by rw [getD_eq_getElem?_getD,getElem?_take,if_pos this,← getD_eq_getElem?_getD]
  rw [this]
 rw [a _ b,a _ (Nat.le_of_lt b),range_succ,filter_append,map_append]
 congr 1
 by_cases e:(ls.getD i default).k=2#8
 ·rw [if_pos e,filter_cons,decide_eq_true e];rfl
 ·rw [if_neg e,filter_cons,decide_eq_false e];rfl
theorem Kv (v:Value) (ls:List N5) (W:World) (h:GN W v ls) (hm:ls.length≤1000000):
  AK prog 34 [.agg [v].toArray] W (fun r s=>Below W.heap.size W s∧AQ s W.heap.size 3 1 r (CP ls).length ((CP ls).map (Value.int .i64))):=by
 have c:=Below.refl W.heap.size W
 have e:=h.sl
 refine Az (n:=23) func34 O<|Ad<|Cr (cs:=[v]) O O O ?_
 rintro K w H F I -
 have c:=c.bs I
 have e:=e.bs I
 refine Ab O<|Bi<|Ba underlying24 O (BU _)<|Aa (Al (CD _) O ‹_› rfl) O ?_
 refine Aa (Ap BE O ‹_›) O ?_
 refine Ac O<|Ak<|An ?_
 have z0:=AA c
 refine Bl (S:=(Nat×Value)) (fun z=>[(2,z.2),(6,v),(7, .int .i64 (ls.length:Int)),(8, .int .i64 (z.1:Int))]) (fun z s=>z.1≤ls.length∧Below W.heap.size W s∧s.ownsRow W.heap.size 3 1 z.2 (CP (ls.take z.1)).length ((CP (ls.take z.1)).map (Value.int .i64))) (fun z=>ls.length - z.1) ((0, .slice none 0 0)) ⟨rfl,rfl,rfl,rfl,trivial⟩ ?_ ?_
 ·exact ⟨Nat.zero_le _,c,⟨rfl, .inl ⟨rfl,rfl⟩⟩⟩
 clear F
 rintro ⟨i,u⟩ A ⟨Q,c,a⟩
 dsimp only at Q c a ⊢
 have e:=h.sl.bs c
 have G:=AA c
 refine Ad<|Bz O<|Ak<|Ao<|Aq O ?_ ?_
 ·intro g
  have b:i<ls.length:=by have:=AC g;omega
  obtain ⟨x,o⟩:∃x,x=ls[i]:=⟨_,rfl⟩
  have C:ls.getD i default=x:=by rw [getD_eq_getElem?_getD,getElem?_eq_getElem b,o];rfl
  have R:=(h.each x (o ▸ getElem_mem b)).bs c
  have y:=h.cells b
  rw [← o] at y
  have d:=KR ls i b
  rw [C] at d
  have Y:(CP (ls.take i)).length≤i:=by
   unfold CP
   rw [length_map]
   refine Nat.le_trans (length_filter_le _ _) ?_
   rw [length_range,length_take];omega
  refine Bw<|Ao<|An<|Ad<|Ac O<|Aa (Cl BE O O e i O b) O<|Aa (C8 (cs:=x.cells) (EK _) (EH _) O e O (by decide) y) O<|Bc (Xw.new EJ) O ?_
  rintro _ U ⟨rfl,t,f,N⟩
  refine Ab O<|Bv (C7 (cs:=x.cells) (k:=5) (by kernel_rfl) O O O R.ones t O) ?_
  rintro J ⟨t,D,T⟩
  have j:Below A.heap.size A J:=f.grown D f.size (by rintro _ ⟨⟩;omega)
  have c:=c.trans (j.mono G)
  have a:=AI a j
  have Z:=j.size
  refine Be<|Ba underlying79 O (EA _)<|Aa (Al (ED _) O ‹_› rfl) O ?_
  refine Aa (Ch O (show _=some (b8 (2#8)) from rfl)) O<|Ak<|Aq O ?_ ?_
  ·intro p
   have p:x.k=2#8:=AC p
   rw [if_pos p] at d
   refine Bn<|Ac O<|Ac O<|Bc (Cv (vs:=[(i:Int)].map (Value.int .i64)) AE DO O O O O O) O ?_
   rintro q V ⟨E, -,m, -⟩
   have a:=AI a m
   have X:=m.size
   refine Bc (De (base:=W.heap.size) AE DO O (by decide) O O a (AF E) (BL (fun _=>rfl) _) (by omega) (by omega) (by omega)) O ?_
   rintro M w5 ⟨l,B, -⟩
   have L:(CP (ls.take i)).length+1=(CP (ls.take (i+1))).length:=by rw [d,length_append];rfl
   rw [← map_append,← d,L] at l
   refine Ab O<|Bd<|Bg<|B6<|B1 O (by omega)<|Ac O<|Bd ?_
   exact Ar (Bp ((i+1,M)) ⟨rfl,rfl,rfl,rfl,trivial⟩ (⟨b,(c.trans (m.mono (by omega))).trans B,l⟩) (by simp only;omega))
  intro p
  have p:¬x.k=2#8:=AD p
  rw [if_neg p,append_nil] at d
  refine Cj<|Bg<|B6<|B1 O (by omega)<|Ac O<|Bd ?_
  exact Ar (Bp ((i+1,u)) ⟨rfl,rfl,rfl,rfl,trivial⟩ (⟨b,c,by rw [d];exact a⟩) (by simp only;omega))
 intro g
 have b:i=ls.length:=by have:=AD g;omega
 subst b
 rw [take_length] at a
 refine Bk<|Aj<|Aj<|A0<|Cb<|Ac O<|Ai O O (Ma u (CP ls) A (BD a)) ?_
 rintro _ U ⟨rfl,f⟩
 exact Ab rfl<|Ay<|As rfl rfl<|⟨c.trans (f.mono G),(AQ.clip a).bs f⟩
theorem Ou (v:Value) (ls:List N5) (W:World) (h:GN W v ls) (b:ls.length≤1000000):
  AK prog 34 [.agg [v].toArray] W (fun r a=>Below W.heap.size W a∧BO (Value.int .i64) a r (CP ls)):=(Kv v ls W h b).mono fun _ _ ⟨d,c⟩=>⟨d,c.slT⟩
end Go.Proofs.YtblbopcaflaldaaGreatDoor

namespace Go.Proofs.YtblbopcaflaldaaGreatDoor
open Go Go.Dd Go.RowKit List
set_option maxRecDepth 100000
abbrev PV:=List Int×List (BitVec 32)
def pv (t:T4):PV:=(t.s,t.l)
def IS (t:PV) (s:List Int):Bool:=L1 t.1 t.2 && decide (t.1=s)
def Ic:List PV→List N5→Bool
 |_,[]=>true
 |[],_::_=>false
 |t::ts,x::xs=>IS t x.s && Ic ts xs
abbrev F1 (ls:List N5):List N5:=ls.filter fun a=>decide (a.k=1#8)
abbrev F2 (ls:List N5):List N5:=ls.filter fun a=>decide (a.k=2#8)
theorem IC (ls:List N5):(CP ls).map (fun j=>ls.getD j.toNat default)=F2 ls:=by
 unfold CP
 rw [map_map]
 have e:ls=(range ls.length).map fun i=>ls.getD i default:=by
  refine ext_getElem (by simp) fun i a c=> ?_
  simp [a]
 conv=>rhs;unfold F2;rw [e,filter_map]
 have b:((fun j:Int=>ls.getD j.toNat default)∘fun i:Nat=>(i:Int))=fun i=>ls.getD i default:=by funext i;simp
 rw [b];rfl
theorem Lt {ls:List N5} {j:Nat} (a:j<(CP ls).length):∃i:Nat,i<ls.length∧(CP ls).getD j default=(i:Int)∧∃b:j<(F2 ls).length,(F2 ls)[j]=ls.getD i default:=by
 have d:(CP ls)[j] ∈ CP ls:=getElem_mem a
 obtain ⟨i,c,e⟩:=List.mem_map.1 (show (CP ls)[j] ∈ ((range ls.length).filter fun i=>decide ((ls.getD i default).k=2#8)).map fun i:Nat=>(i:Int) from d)
 have c:=List.mem_range.1 (List.mem_filter.1 c).1
 have b:j<(F2 ls).length:=by rw [← IC,length_map];exact a
 refine ⟨i,c,by rw [getD_eq_getElem?_getD,getElem?_eq_getElem a];exact e.symm,b, ?_⟩
 have:(F2 ls)[j]? =some (ls.getD i default):=by
  rw [← IC,getElem?_map,getElem?_eq_getElem a,← e];simp
 rw [getElem?_eq_getElem b] at this
 exact Option.some.inj this
theorem Hh:∀{ws:List PV} {xs:List N5},ws.length=xs.length→(Ic ws xs=true↔∀i (h:i<xs.length),IS (ws.getD i ([],[])) xs[i].s=true)
 |[],[],_=>⟨fun _ i h=>absurd h (by simp),fun _=>rfl⟩
 |t::ws,x::xs,hl=>by
  have b:=Hh (ws:=ws) (xs:=xs) (by simpa using hl)
  show (IS t x.s && Ic ws xs)=true↔_
  rw [Bool.and_eq_true,b]
  constructor
  ·rintro ⟨d,c⟩ i a
   cases i with
   |zero=>exact d
   |succ i=>exact c i (by simpa using a)
  ·intro h
   exact ⟨h 0 (by simp),fun i a=>h (i+1) (by simpa using a)⟩
theorem Pq {ls:List N5} {a:List (List Int)} (h:GL ls=some a):ls.length≤32:=by
 unfold GL at h
 split at h
 ·cases h
 ·omega
end Go.Proofs.YtblbopcaflaldaaGreatDoor

namespace Go.Proofs.YtblbopcaflaldaaGreatDoor
open Go Go.Dd Go.RowKit List Go.Proofs.Tryz
set_option maxRecDepth 100000
def gf (l:List (BitVec 8)):BitVec 32:=Ts (l.getD 0 default) (l.getD 1 default) (l.getD 2 default) (l.getD 3 default)
theorem Pt {l:List (BitVec 8)} (h:4≤l.length):nums l=gf l::nums (l.drop 4):=by
 have:=PR l 0 (by omega)
 simpa [gf] using this
theorem Sg (v:Value) (l:List (BitVec 8)) (w:World) (d:BO b8 w v l) (e:4≤l.length):AK prog 153 [v] w (fun r c=>r=u32 (gf l)∧Below w.heap.size w c):=by
 refine Az (n:=25) func153 O<|Ad<|Aa (Ce (show _=some (u32 (0#32)) from rfl)) O<|Ak<|Ao<|Da BB (by kernel_rfl)<|Bq O<|Ah (fun b a=>Bh AL O O (Sl.bs ‹_› a) 0 O (by omega)) O ?_
 refine Ah (fun b a=>Bo (Hf _) O (Sl.bs ‹_› a) (by omega)) O ?_
 refine Ah (fun b a=>Eb Lx Hn O) O<|Bq O<|Ah (fun b a=>Bh AL O O (Sl.bs ‹_› a) 1 O (by omega)) O ?_
 refine Ah (fun b a=>Bo (Hf _) O (Sl.bs ‹_› a) (by omega)) O ?_
 refine Ah (fun b a=>Eb Lx Hn O) O<|Ah (fun b a=>Fw (j:=8) O O (by decide)) O<|Ah (fun b a=>F7 O O) O<|Bq O<|Ah (fun b a=>Bh AL O O (Sl.bs ‹_› a) 2 O (by omega)) O ?_
 refine Ah (fun b a=>Bo (Hf _) O (Sl.bs ‹_› a) (by omega)) O ?_
 refine Ah (fun b a=>Eb Lx Hn O) O<|Ah (fun b a=>Fw (j:=16) O O (by decide)) O<|Ah (fun b a=>F7 O O) O<|Bq O<|Ah (fun b a=>Bh AL O O (Sl.bs ‹_› a) 3 O (by omega)) O ?_
 refine Ah (fun b a=>Bo (Hf _) O (Sl.bs ‹_› a) (by omega)) O ?_
 refine Ah (fun b a=>Eb Lx Hn O) O<|Ah (fun b a=>Fw (j:=24) O O (by decide)) O<|Ah (fun b a=>F7 O O) O<|Dx O ?_
 refine C2 (fun b a=> ?_)
 exact Ar<|B9<|Dq<|As rfl rfl<|⟨rfl,a⟩
theorem Lo (v:Value) (l:List (BitVec 8)) (w:World) (c:BO b8 w v l):AK prog 49 [v] w (fun r b=>r= .tuple #[u32 (if l.length<4 then 0#32 else gf l), .int .i64 (if l.length<4 then 5 else 0)]∧Below w.heap.size w b):=by
 refine Az (n:=9) func49 O<|Ad<|Aa (Ce (show _=some (u32 (0#32)) from rfl)) O<|Ab O<|Bi<|Ac O<|Aa (Ap AL O ‹_›) O ?_
 refine Bz O<|Ak<|Aq O ?_ ?_
 ·intro g
  have a:l.length<4:=by have:=AC g;omega
  exact Ad<|Aa (Ce (show _=some (u32 (0#32)) from rfl)) rfl<|Ab rfl<|B2<|Bx rfl rfl rfl<|⟨by rw [if_pos a,if_pos a],Below.refl _ _⟩
 intro g
 have a:¬l.length<4:=by have:=AD g;omega
 refine Cs<|Ac O<|Ai O O (Sg v l w c (by omega)) ?_
 rintro _ e ⟨rfl,d⟩
 exact Ab rfl<|Ab rfl<|Ay<|Bx rfl rfl rfl<|⟨by rw [if_neg a,if_neg a],d⟩
theorem Ov (k:Nat) (w:World) (h:k≤16777216):AK prog 228 [.slice none 0 0, .int .i64 (k:Int)] w (fun r b=>b.ownsRow w.heap.size 82 1 r 0 []∧Below w.heap.size w b):=by
 have a:=Ck w 1
 refine Az (n:=27) func228 O<|Ad<|Ab O<|Bi<|Ac O<|Bz O<|Ak<|Bu O false (by simp)<|Bw<|Ao<|Ad<|Ac O<|Ac O<|Aa (E5 EG O) O<|Ac O<|Aa (Ap EG O ‹_›) O ?_
 refine Aa (D2 O O (by omega)) O<|Aa (D2 O O (by omega)) O<|Ab O<|Be<|Ac O<|Aa (Dh O O) O<|Ak<|Aq O ?_ ?_
 ·intro g
  have e:0<k:=by have:=AC g;omega
  refine Bn<|Ac O<|Ac O<|Aa (E5 EG O) O<|Aa (Ex.as (u:= .slice none 0 0) (El (j:=0) EG O O a (AU 0)) O) O<|Aa (Ex.as (u:= .int .i64 (k:Int)) (B4 O) (cngA (Value.int .i64) (by omega))) O<|Bc (Ga (tn:=3) (kn:= .i64) EG MR O (by decide) Jt O O e (by omega) (by omega)) O ?_
  rintro v c ⟨cap,xs,rfl,d,f⟩
  have a:=Ck c 1
  refine Ac O<|Aa (Ap EG O ‹_›) O ?_
  exact Aa (Ej (j:=0) EG rfl rfl (Nat.zero_le cap)) rfl<|Ab rfl<|Be<|Ac rfl<|Ab rfl<|Ay<|As rfl rfl<|⟨H6 (k:=0) (m:=k) (xs:=[]) (by simpa using d) rfl,f⟩
 ·intro g
  exact Cs<|Ac rfl<|Ab rfl<|Ay<|As rfl rfl<|⟨⟨rfl, .inl ⟨rfl,rfl⟩⟩,Below.refl _ _⟩
theorem Nk (v:Value) (ps:List (Value×List (BitVec 32))) (w:World) (o:BO (fun p:Value×List (BitVec 32)=>p.1) w v ps) (y:∀p ∈ ps,BO (u32) w p.1 p.2) (s:(ps.map (·.2)).flatten.length≤16777216):
  AK prog 145 [v] w (fun r d=>d.ownsRow w.heap.size 82 1 r (ps.map (·.2)).flatten.length ((ps.map (·.2)).flatten.map (u32))∧Below w.heap.size w d):=by
 have A:=o.le
 have c:∀i,i<ps.length→BO (u32) w (ps.getD i default).1 (ps.getD i default).2:=fun i m=>y _ (GU m)
 refine Az (n:=36) func145 O<|Ad<|Ab O<|Be<|Ab O<|Bi<|Ac O<|Aa (Ap JJ O ‹_›) O ?_
 refine Ac O<|Ak<|An ?_
 refine Bl (S:=Nat) (fun i=>[(0,v),(3, .int .i64 ((((ps.take i).map (·.2)).flatten.length:Nat):Int)),(9,v),(10, .int .i64 (ps.length:Int)),(11, .int .i64 (i:Int))]) (fun i d=>i≤ps.length∧d=w) (fun i=>ps.length - i) (0) ⟨rfl,rfl,rfl,rfl,rfl,trivial⟩ ?_ ?_
 ·exact ⟨by omega,rfl⟩
 rintro i f ⟨m,rfl⟩
 refine Ad<|Bz O<|Ak<|Ao<|Aq O ?_ ?_
 ·intro h
  have a:i<ps.length:=by simp at h;omega
  have hs:=c i a
  have t:=Me (ps:=ps) (i+1)
  have k:=IB a
  have l:=cngA length k
  rw [length_append] at l
  refine Bw<|Ao<|An<|Ad<|Aa (Bh JJ O O ‹_› _ O (by omega)) O ?_
  refine Aa (Bo (SG _) O ‹_› (by omega)) O ?_
  refine Ab O<|Be<|Ac O<|Ac O<|Aa (Ap EG O ‹_›) O ?_
  refine B1 O (by omega)<|Ab O<|Be<|Ac O<|Bz O<|Ak<|Bu O false (by simp;omega)<|Cj<|Bg<|B6<|B1 O (by omega)<|Ac O<|Bd ?_
  exact Ar (Bp (i+1) ⟨rfl,(cngA (fun x=>some (Value.int .i64 x)) (by omega)),rfl,rfl,rfl,trivial⟩ (⟨a,rfl⟩) (by omega))
 intro h
 have a:i=ps.length:=by simp at h;omega
 subst a
 rw [take_length]
 refine Bk<|Aj<|Aj<|A0<|Cb<|Ac O<|Ai O O (Ov _ f s) ?_
 rintro x B ⟨e,b⟩
 have j:=o.bs b
 refine Ab O<|Bi<|Ac O<|Aa (Ap JJ O ‹_›) O ?_
 refine Ac O<|Ak<|An ?_
 refine Bl (S:=(Nat×Value)) (fun z=>[(0,v),(6,z.2),(25,v),(26, .int .i64 (ps.length:Int)),(27, .int .i64 (z.1:Int))]) (fun z d=>z.1≤ps.length∧d.ownsRow f.heap.size 82 1 z.2 ((ps.take z.1).map (·.2)).flatten.length (((ps.take z.1).map (·.2)).flatten.map (u32))∧Below f.heap.size f d) (fun z=>ps.length - z.1) ((0,x)) ⟨rfl,rfl,rfl,rfl,rfl,trivial⟩ ?_ ?_
 ·exact ⟨Nat.zero_le _,by simpa using e,b⟩
 clear e b j
 rintro ⟨i,x⟩ B ⟨m,e,b⟩
 dsimp only at m e ⊢
 have j:=o.bs b
 refine Ad<|Bz O<|Ak<|Ao<|Aq O ?_ ?_
 ·intro h
  have a:i<ps.length:=by simp at h;omega
  have hs:=(c i a).bs b
  have t:=Me (ps:=ps) (i+1)
  have k:=IB a
  have l:=cngA length k
  rw [length_append] at l
  refine Bw<|Ao<|An<|Ad<|Aa (Bh JJ O O ‹_› _ O (by omega)) O ?_
  refine Aa (Bo (SG _) O ‹_› (by omega)) O ?_
  refine Ab O<|Ak<|Bn<|Ac O<|Ac O<|Bc (De (base:=f.heap.size) EG MR O (by decide) O O e hs (BL (fun _=>rfl) _) (by omega) (by omega) b.size) O ?_
  rintro u C ⟨g,q, -⟩
  rw [← map_append,← k,← l] at g
  refine Ab O<|Bd<|Bg<|B6<|B1 O (by omega)<|Ac O<|Bd ?_
  exact Ar (Bp ((i+1,u)) ⟨rfl,rfl,rfl,rfl,rfl,trivial⟩ (⟨a,g,b.trans q⟩) (by simp only;omega))
 intro h
 have a:i=ps.length:=by simp at h;omega
 subst a
 rw [take_length] at e
 exact Bk<|Aj<|Aj<|A0<|Cb<|Ac rfl<|Ab rfl<|Ay<|As rfl rfl<|⟨e,b⟩
theorem Qm (k:Nat) (w:World) (h:k≤16777216):AK prog 160 [.slice none 0 0, .int .i64 (k:Int)] w (fun r b=>b.ownsRow w.heap.size 5 1 r 0 []∧Below w.heap.size w b):=by
 have a:=Ck w 1
 refine Az (n:=27) func160 O<|Ad<|Ab O<|Bi<|Ac O<|Bz O<|Ak<|Bu O false (by simp)<|Bw<|Ao<|Ad<|Ac O<|Ac O<|Aa (E5 AL O) O<|Ac O<|Aa (Ap AL O ‹_›) O ?_
 refine Aa (D2 O O (by omega)) O<|Aa (D2 O O (by omega)) O<|Ab O<|Be<|Ac O<|Aa (Dh O O) O<|Ak<|Aq O ?_ ?_
 ·intro g
  have e:0<k:=by have:=AC g;omega
  refine Bn<|Ac O<|Ac O<|Aa (E5 AL O) O<|Aa (Ex.as (u:= .slice none 0 0) (El (j:=0) AL O O a (AU 0)) O) O<|Aa (Ex.as (u:= .int .i64 (k:Int)) (B4 O) (cngA (Value.int .i64) (by omega))) O<|Bc (Ga (tn:=3) (kn:= .i64) AL CY O (by decide) Jt O O e (by omega) (by omega)) O ?_
  rintro v c ⟨cap,xs,rfl,d,f⟩
  have a:=Ck c 1
  refine Ac O<|Aa (Ap AL O ‹_›) O ?_
  exact Aa (Ej (j:=0) AL rfl rfl (Nat.zero_le cap)) rfl<|Ab rfl<|Be<|Ac rfl<|Ab rfl<|Ay<|As rfl rfl<|⟨H6 (k:=0) (m:=k) (xs:=[]) (by simpa using d) rfl,f⟩
 ·intro g
  exact Cs<|Ac rfl<|Ab rfl<|Ay<|As rfl rfl<|⟨⟨rfl, .inl ⟨rfl,rfl⟩⟩,Below.refl _ _⟩
theorem OF (v:Value) (ps:List (Value×List (BitVec 8))) (w:World) (o:BO (fun p:Value×List (BitVec 8)=>p.1) w v ps) (y:∀p ∈ ps,BO (b8) w p.1 p.2) (s:(ps.map (·.2)).flatten.length≤16777216):
  AK prog 56 [v] w (fun r d=>d.ownsRow w.heap.size 5 1 r (ps.map (·.2)).flatten.length ((ps.map (·.2)).flatten.map (b8))∧Below w.heap.size w d):=by
 have A:=o.le
 have c:∀i,i<ps.length→BO (b8) w (ps.getD i default).1 (ps.getD i default).2:=fun i m=>y _ (GU m)
 refine Az (n:=36) func56 O<|Ad<|Ab O<|Be<|Ab O<|Bi<|Ac O<|Aa (Ap GH O ‹_›) O ?_
 refine Ac O<|Ak<|An ?_
 refine Bl (S:=Nat) (fun i=>[(0,v),(3, .int .i64 ((((ps.take i).map (·.2)).flatten.length:Nat):Int)),(9,v),(10, .int .i64 (ps.length:Int)),(11, .int .i64 (i:Int))]) (fun i d=>i≤ps.length∧d=w) (fun i=>ps.length - i) (0) ⟨rfl,rfl,rfl,rfl,rfl,trivial⟩ ?_ ?_
 ·exact ⟨by omega,rfl⟩
 rintro i f ⟨m,rfl⟩
 refine Ad<|Bz O<|Ak<|Ao<|Aq O ?_ ?_
 ·intro h
  have a:i<ps.length:=by simp at h;omega
  have hs:=c i a
  have t:=Me (ps:=ps) (i+1)
  have k:=IB a
  have l:=cngA length k
  rw [length_append] at l
  refine Bw<|Ao<|An<|Ad<|Aa (Bh GH O O ‹_› _ O (by omega)) O ?_
  refine Aa (Bo (DM _) O ‹_› (by omega)) O ?_
  refine Ab O<|Be<|Ac O<|Ac O<|Aa (Ap AL O ‹_›) O ?_
  refine B1 O (by omega)<|Ab O<|Be<|Ac O<|Bz O<|Ak<|Bu O false (by simp;omega)<|Cj<|Bg<|B6<|B1 O (by omega)<|Ac O<|Bd ?_
  exact Ar (Bp (i+1) ⟨rfl,(cngA (fun x=>some (Value.int .i64 x)) (by omega)),rfl,rfl,rfl,trivial⟩ (⟨a,rfl⟩) (by omega))
 intro h
 have a:i=ps.length:=by simp at h;omega
 subst a
 rw [take_length]
 refine Bk<|Aj<|Aj<|A0<|Cb<|Ac O<|Ai O O (Qm _ f s) ?_
 rintro x B ⟨e,b⟩
 have j:=o.bs b
 refine Ab O<|Bi<|Ac O<|Aa (Ap GH O ‹_›) O ?_
 refine Ac O<|Ak<|An ?_
 refine Bl (S:=(Nat×Value)) (fun z=>[(0,v),(6,z.2),(25,v),(26, .int .i64 (ps.length:Int)),(27, .int .i64 (z.1:Int))]) (fun z d=>z.1≤ps.length∧d.ownsRow f.heap.size 5 1 z.2 ((ps.take z.1).map (·.2)).flatten.length (((ps.take z.1).map (·.2)).flatten.map (b8))∧Below f.heap.size f d) (fun z=>ps.length - z.1) ((0,x)) ⟨rfl,rfl,rfl,rfl,rfl,trivial⟩ ?_ ?_
 ·exact ⟨Nat.zero_le _,by simpa using e,b⟩
 clear e b j
 rintro ⟨i,x⟩ B ⟨m,e,b⟩
 dsimp only at m e ⊢
 have j:=o.bs b
 refine Ad<|Bz O<|Ak<|Ao<|Aq O ?_ ?_
 ·intro h
  have a:i<ps.length:=by simp at h;omega
  have hs:=(c i a).bs b
  have t:=Me (ps:=ps) (i+1)
  have k:=IB a
  have l:=cngA length k
  rw [length_append] at l
  refine Bw<|Ao<|An<|Ad<|Aa (Bh GH O O ‹_› _ O (by omega)) O ?_
  refine Aa (Bo (DM _) O ‹_› (by omega)) O ?_
  refine Ab O<|Ak<|Bn<|Ac O<|Ac O<|Bc (De (base:=f.heap.size) AL CY O (by decide) O O e hs (BL (fun _=>rfl) _) (by omega) (by omega) b.size) O ?_
  rintro u C ⟨g,q, -⟩
  rw [← map_append,← k,← l] at g
  refine Ab O<|Bd<|Bg<|B6<|B1 O (by omega)<|Ac O<|Bd ?_
  exact Ar (Bp ((i+1,u)) ⟨rfl,rfl,rfl,rfl,rfl,trivial⟩ (⟨a,g,b.trans q⟩) (by simp only;omega))
 intro h
 have a:i=ps.length:=by simp at h;omega
 subst a
 rw [take_length] at e
 exact Bk<|Aj<|Aj<|A0<|Cb<|Ac rfl<|Ab rfl<|Ay<|As rfl rfl<|⟨e,b⟩
theorem P6 (x:BitVec 32) (w:World):AK prog 147 [i32 x] w (fun r a=>r=u32 x∧Below w.heap.size w a):=by
 exact Az (n:=5) func147 rfl<|Ad<|Aa (Ce (show _=some (u32 (0#32)) from rfl)) rfl<|Be<|Ac rfl<|Aa (E6 TU Hn rfl) rfl<|Ab rfl<|Ay<|As rfl rfl<|⟨rfl,Below.refl _ _⟩
theorem TN (v:Value) (l:List (BitVec 32)) (w:World) (q:BO i32 w v l) (C:l.length≤4194304):
  AK prog 146 [v, .func (.func 147) #[] #[]] w (fun r g=>g.ownsRow w.heap.size 82 1 r l.length (l.map u32)∧Below w.heap.size w g):=by
 have A:=q.le
 refine Az (n:=26) func146 O<|Ad<|Ab O<|Be<|Ac O<|Aa (Ap BP O ‹_›) O ?_
 refine Bc (Eg EG MR O O O (AU _) (by omega) (by omega)) O ?_
 rintro x s ⟨a, -,d, -⟩
 have j:=q.bs d
 obtain ⟨z,t⟩:∃z,z=replicate l.length 0#32:=⟨_,rfl⟩
 have m:l.length=z.length:=by rw [t,length_replicate]
 have u:(replicate l.length [Value.int .u32 0]).flatten=z.map u32:=by rw [t];exact Iw (enc:=u32) (z:=0#32) l.length
 rw [u] at a
 refine Ab O<|Bi<|Ac O<|Aa (Ap BP O ‹_›) O ?_
 refine Ac O<|Ak<|An ?_
 refine Bl (S:=Nat) (fun i=>[(1, .func (.func 147) #[] #[]),(5,x),(11,v),(12, .int .i64 (l.length:Int)),(13, .int .i64 (i:Int))]) (fun i g=>i≤l.length∧g.ownsRow w.heap.size 82 1 x l.length ((l.take i++z.drop i).map u32)∧Below w.heap.size w g) (fun i=>l.length - i) (0) ⟨rfl,rfl,rfl,rfl,rfl,trivial⟩ ?_ ?_
 ·exact ⟨by omega,by rw [L4];exact a,d⟩
 clear a d j
 rintro i s ⟨D,a,d⟩
 have j:=q.bs d
 refine Ad<|Bz O<|Ak<|Ao<|Aq O ?_ ?_
 ·intro h
  have c:i<l.length:=by simp at h;omega
  refine Bw<|Ao<|An<|Ad<|Ac O<|Aa (Bh BP O O ‹_› _ O (by omega)) O ?_
  refine Aa (Bo (HK _) O ‹_› (by omega)) O ?_
  refine Ab O<|Ab O<|Ak<|Bn<|Ac O<|Ac O<|Ac O<|Ac O<|Eo (p:=[]) O O O (P6 (l.getD i default) s) ?_
  rintro _ E ⟨rfl,f⟩
  have a:=AI a f
  have o:=(AF a).shp
  refine Aa (Dn EG O O o i O c) O<|Bv (Et (Pa _) O O O a (by simp;omega)) ?_
  rintro B ⟨k,y, -⟩
  rw [← map_set,ND m (by omega)] at k
  refine Bd<|Bg<|B6<|B1 O (by omega)<|Ac O<|Bd ?_
  exact Ar (Bp (i+1) ⟨rfl,rfl,rfl,rfl,rfl,trivial⟩ (⟨c,k,(bt d f).grown y (AA (bt d f)) fun b e=>(AB a b e).1⟩) (by omega))
 intro h
 have c:i=l.length:=by simp at h;omega
 subst c
 rw [m,NF m,← m] at a
 exact Bk<|Aj<|Aj<|A0<|Cb<|Ac rfl<|Ab rfl<|Ay<|As rfl rfl<|⟨a,d⟩
theorem TW (v u:Value) (lb:List (BitVec 8)) (l:List (BitVec 32)) (w:World) (J:BO b8 w v lb) (q:BO u32 w u l) (M:lb.length+4*l.length≤16777216):
  AK prog 144 [v,u] w (fun r k=>k.ownsRow w.heap.size 5 1 r (lb++CG l).length ((lb++CG l).map b8)∧Below w.heap.size w k):=by
 refine Az (n:=42) func144 O<|Ad<|Ab O<|Be<|Ac O<|Aa (Ap AL O ‹_›) O ?_
 refine Ac O<|Aa (Ap AL O ‹_›) O ?_
 refine Ac O<|Aa (Ap EG O ‹_›) O ?_
 refine Aa (Dv O O (by omega)) O<|Aa (Ex.as (u:= .int .i64 ((lb.length+4*l.length:Nat):Int)) (Dp O O (by omega)) (cngA (Value.int .i64) (by omega))) O<|Bc (Eg AL CY O O O (by omega) (by omega) (by omega)) O ?_
 rintro x D ⟨d, -,f, -⟩
 have m:=J.bs f
 refine Ab O<|Be<|Ac O<|Ac O<|Bc (Xw.copy AL O O O d m (AU _) (BL (fun _=>rfl) _)) O ?_
 rintro _ B ⟨rfl,g,t, -⟩
 have C:(replicate lb.length [Value.int .u8 0]).flatten.drop lb.length=[]:=by
  rw [Iw (enc:=Value.int .u8) (z:=0)];simp
 rw [C,append_nil] at g
 have a:Below w.heap.size w B:=f.grown t (AA f) fun b e=>(AB d b e).1
 clear d f m t
 have p:=q.bs a
 refine Bi<|Ac O<|Aa (Ap EG O ‹_›) O ?_
 refine Ac O<|Ak<|An ?_
 refine Bl (S:=(Nat×Value)) (fun z=>[(1,u),(5,z.2),(20,u),(21, .int .i64 (l.length:Int)),(22, .int .i64 (z.1:Int))]) (fun z k=>z.1≤l.length∧k.ownsRow w.heap.size 5 1 z.2 (lb++CG (l.take z.1)).length ((lb++CG (l.take z.1)).map b8)∧Below w.heap.size w k) (fun z=>l.length - z.1) ((0,x)) ⟨rfl,rfl,rfl,rfl,rfl,trivial⟩ ?_ ?_
 ·exact ⟨Nat.zero_le _,by simpa [CG] using g,a⟩
 clear g a p
 rintro ⟨i,x⟩ D ⟨I,d,f⟩
 dsimp only at I d ⊢
 have E:=q.bs f
 have K:=q.le
 refine Ad<|Bz O<|Ak<|Ao<|Aq O ?_ ?_
 ·intro h
  have c:i<l.length:=by simp at h;omega
  have A:(lb++CG (l.take i))++Crc.four (l.getD i default)=lb++CG (l.take (i+1)):=by
   rw [take_succ_eq_append_getElem c,I9,append_assoc]
   simp [CG,c]
  have G:(lb++CG (l.take i)).length+4=(lb++CG (l.take (i+1))).length:=by
   have:=cngA length A
   simp [Crc.four] at this ⊢
   omega
  have N:(lb++CG (l.take (i+1))).length≤16777216:=by rw [length_append,FM,length_take];omega
  refine Bw<|Ao<|An<|Ad<|Aa (Bh EG O O ‹_› _ O (by omega)) O ?_
  refine Aa (Bo (Uf _) O ‹_› (by omega)) O ?_
  refine Ab O<|Ak<|Bn<|Ac O<|Ac O<|Aa (Ec Ih GM O) O<|Ac O<|Aa (Ev (j:=8) O O (by decide)) O<|Aa (Ec Ih GM O) O<|Ac O<|Aa (Ev (j:=16) O O (by decide)) O<|Aa (Ec Ih GM O) O<|Ac O<|Aa (Ev (j:=24) O O (by decide)) O<|Aa (Ec Ih GM O) O<|Bc (Cv (vs:=(Crc.four (l.getD i default)).map b8) AL CY O O O O O) O ?_
  rintro y B ⟨H, -,a, -⟩
  have d:=AI d a
  refine Bc (De (base:=w.heap.size) AL CY O (by decide) O O d (AF H) (BL (fun _=>rfl) _) (by omega) (by omega) (bt f a).size) O ?_
  rintro F L ⟨o,s, -⟩
  rw [← map_append,A,G] at o
  refine Ab O<|Bd<|Bg<|B6<|B1 O (by omega)<|Ac O<|Bd ?_
  exact Ar (Bp ((i+1,F)) ⟨rfl,rfl,rfl,rfl,rfl,trivial⟩ (⟨c,o,(bt f a).trans s⟩) (by simp only;omega))
 intro h
 have c:i=l.length:=by simp at h;omega
 subst c
 rw [take_length] at d
 exact Bk<|Aj<|Aj<|A0<|Cb<|Ac rfl<|Ab rfl<|Ay<|As rfl rfl<|⟨d,f⟩
theorem PK (v u:Value) (lb:List (BitVec 8)) (l:List (BitVec 32)) (w:World) (h:BO b8 w v lb) (g:BO i32 w u l) (C:lb.length+4*(l.length+1)≤4194304):
  AK prog 43 [v,u] w (fun r j=>j.ownsRow w.heap.size 5 1 r (lb++CG (BitVec.ofInt 32 (l.length:Int)::l)).length ((lb++CG (BitVec.ofInt 32 (l.length:Int)::l)).map b8)∧Below w.heap.size w j):=by
 have f:=Below.refl w.heap.size w
 have k:(w:World)→w.heap.size≤w.heap.size:=fun _=>AU _
 refine Az (n:=15) func43 O<|Ad<|Ab O<|Be<|Ac O<|Ac O<|Aa (Ap BP O ‹_›) O ?_
 refine Aa (E3 Hc Hn O) O<|Bc (Cv (vs:=[BitVec.ofInt 32 (l.length:Int)].map u32) EG MR O O O O O) O ?_
 rintro y w ⟨q, -,b, -⟩
 have d:=BD q
 have f:=f.bs b
 have h:=h.bs b
 have g:=g.bs b
 clear b q
 refine Ac O<|Ai O O (TN u l w g (by omega)) ?_
 rintro z w ⟨m,b⟩
 have e:=BD m
 have f:=f.bs b
 have h:=h.bs b
 have g:=g.bs b
 have d:=d.bs b
 clear b m
 refine Bc (Cv (vs:=[y,z]) JJ U9 O O O (by simp [d.one',e.one']) O) O ?_
 rintro a w ⟨s, -,b, -⟩
 have f:=f.bs b
 have h:=h.bs b
 have g:=g.bs b
 have d:=d.bs b
 have e:=e.bs b
 refine Ai O O (Nk a [(y,[BitVec.ofInt 32 (l.length:Int)]),(z,l)] w (AF s) (by intro p o;simp at o;rcases o with rfl|rfl;exact d;exact e) (by simp;omega)) ?_
 rintro c w ⟨t,b⟩
 have i:=BD t
 have B:(([(y,[BitVec.ofInt 32 (l.length:Int)]),(z,l)]:List (Value×List (BitVec 32))).map (·.2)).flatten=BitVec.ofInt 32 (l.length:Int)::l:=by simp
 rw [B] at i
 have f:=f.bs b
 have h:=h.bs b
 have g:=g.bs b
 have d:=d.bs b
 have e:=e.bs b
 clear b t s
 have x:=AA f
 refine Ai O O (TW v c lb _ w h i (by simp;omega)) ?_
 rintro r w ⟨A,b⟩
 have f:=f.bs b
 have h:=h.bs b
 have g:=g.bs b
 have d:=d.bs b
 have e:=e.bs b
 exact Ab rfl<|Ay<|As rfl rfl<|⟨BY A x,f⟩

def BI (s:List Int):List (BitVec 8):=BitVec.ofInt 8 (s.length:Int)::s.map (BitVec.ofInt 8)
def DR (s:List Int) (i:Nat):List (BitVec 8):=BitVec.ofInt 8 (s.length:Int)::(s.take i).map (BitVec.ofInt 8)
theorem Ku {s:List Int} {i:Nat} (h:i<s.length):DR s (i+1)=DR s i++[BitVec.ofInt 8 (s.getD i default)]:=by
 unfold DR
 rw [take_succ_eq_append_getElem h,map_append]
 simp [h]
theorem Lm (s:List Int):DR s s.length=BI s:=by unfold DR BI;rw [take_length]
theorem G4 {s:List Int} {i:Nat} (h:i≤s.length):(DR s i).length=i+1:=by simp [DR];omega
theorem Ss (u:Value) (a:List (BitVec 8)) (w:World) (c:BO b8 w u a):AK prog 44 [u] w (fun r b=>r=clip u∧Below w.heap.size w b):=by
 refine Az (n:=9) func44 O<|Ad<|Ab O<|Be<|Ac O<|Ac O<|Aa (Ap AL O ‹_›) O ?_
 refine Ac O<|Aa (Ap AL O ‹_›) O ?_
 exact Aa (Fl AL rfl rfl rfl c.shp) rfl<|Ab rfl<|Ay<|As rfl rfl<|⟨rfl,Below.refl _ _⟩
theorem V2 (n:BitVec 32):(n % 256#32).setWidth 8=n.setWidth 8:=by
 apply BitVec.eq_of_toNat_eq
 simp only [BitVec.toNat_setWidth,BitVec.toNat_umod,BitVec.toNat_ofNat,Nat.reducePow,Nat.reduceMod]
 omega

def Ho (k:Nat):List Value:=(range k).map fun n=>u32 (Crc.tab (BitVec.ofNat 8 n))
theorem Ml:∃zv,(∀w,(zeroValue 287).run prog w= .ok zv w)∧zv.cells=(replicate 256 (Value.int .u32 0)).toArray:=
 ⟨.agg (replicate 256 (Value.int .u32 0)).toArray,fun w=>by kernel_rfl,rfl⟩
theorem QN (k:Nat) (c:k<256):(Ho k++replicate (256 - k) (Value.int .u32 0)).set k (u32 (Crc.tab (BitVec.ofNat 8 k)))=Ho (k+1)++replicate (256 - (k+1)) (Value.int .u32 0):=by
 have a:(Ho k).length=k:=by simp [Ho]
 have b:256 - k=(256 - (k+1))+1:=by omega
 rw [set_append_right _ _ (by omega),a,Nat.sub_self,b,replicate_succ,set_cons_zero]
 simp [Ho,range_succ]
theorem Tb (w:World):AK prog 229 [] w (fun r g=>r= .agg (Ho 256).toArray∧Below w.heap.size w g):=by
 obtain ⟨zv,u,q⟩:=Ml
 refine Az (n:=22) func229 O<|Ad<|Bc (Xw.alloc (u _) q) O ?_
 rintro _ m ⟨rfl,i,f,hs⟩
 refine Bi<|Aa (B4 (show _=some (u32 (0#32)) from rfl)) O<|Ak<|An ?_
 refine Bl (S:=Nat) (fun k=>[(0, .pointer (some ⟨w.heap.size,0,none⟩)),(3,u32 (BitVec.ofNat 32 k))]) (fun k g=>k≤256∧AP g w.heap.size 287 (Ho k++replicate (256 - k) (.int .u32 0))∧Below w.heap.size w g) (fun k=>256 - k) (0) ⟨rfl,rfl,trivial⟩ ?_ ?_
 ·exact ⟨by omega,i,f⟩
 clear i f hs m
 rintro k m ⟨y,i,f⟩
 have d:(BitVec.ofNat 32 k).toNat=k:=by simp;omega
 refine Ad<|Bz O<|Ak<|Ao<|Aq O ?_ ?_
 ·intro h
  refine Bw<|Ao<|An<|Ad<|Ac O<|Ab O<|Be<|Ac O<|Ab O<|Bi<|Ac O<|Ak<|An ?_
  refine Bl (S:=Nat) (fun j=>[(0, .pointer (some ⟨w.heap.size,0,none⟩)),(1,u32 (BitVec.ofNat 32 k)),(2,u32 (Crc.iter j (BitVec.ofNat 32 k))),(3,u32 (BitVec.ofNat 32 k)),(7, .int .i64 (j:Int))]) (fun j g=>j≤8∧g=m) (fun j=>8 - j) (0) ⟨rfl,rfl,rfl,rfl,rfl,trivial⟩ ?_ ?_
  ·exact ⟨by omega,rfl⟩
  rintro j _ ⟨z,rfl⟩
  refine Ad<|Bz O<|Ak<|Ao<|Aq O ?_ ?_
  ·intro c
   have b:j<8:=by simp at c;omega
   refine Bw<|Ao<|An<|Bn<|Ac O<|Aa (Ev (j:=1) O O (by decide)) O<|Ac O<|Aa (Fy O (show _=some (u32 (1#32)) from rfl)) O<|Aa (Ex.neg32 O) O<|Aa (Fy (show _=some (u32 (3988292384#32)) from rfl) O) O<|Aa (Fe O O) O<|Ab O<|Bd<|Bg<|B6<|B1 O (by omega)<|Ac O<|Bd ?_
   exact Ar (Bp (j+1) ⟨rfl,rfl,(by rw [Crc.iter_succ',← Crc.bit_prog];rfl),rfl,rfl,trivial⟩ (⟨by omega,rfl⟩) (by omega))
  ·intro c
   have b:j=8:=by simp at c;omega
   have a:k<256:=by simp [d] at h;omega
   refine Bk<|Aj<|Aj<|A0<|B6<|Ac O<|Ac O<|Aa (Ex.idxB QF Pa O O k (by rw [d]) a) O<|Bv (C5 (Pa _) O O O i (by simp [Ho];omega)) ?_
   rintro x ⟨e,p,s⟩
   refine Bd<|Bg<|B6<|Aa (Gi O (show _=some (u32 (1#32)) from rfl)) O<|Ac O<|Bd ?_
   have v:(BitVec.ofNat 32 k)+1#32=BitVec.ofNat 32 (k+1):=by apply BitVec.eq_of_toNat_eq;simp
   have t:u32 (Crc.iter 8 (BitVec.ofNat 32 k))=u32 (Crc.tab (BitVec.ofNat 8 k)):=by
    have:BitVec.ofNat 32 k=(BitVec.ofNat 8 k).setWidth 32:=by apply BitVec.eq_of_toNat_eq;simp;omega
    rw [this];rfl
   rw [b,t,Nat.zero_add,Nat.mul_one,QN k a] at e
   exact Ar (Bp (k+1) ⟨rfl,(by rw [v];rfl),trivial⟩ (⟨by omega,e,f.grown p (AA f) (by rintro _ ⟨⟩;exact AU _)⟩) (by omega))
 ·intro h
  have a:k=256:=by simp [d] at h;omega
  subst a
  have l:AP m w.heap.size 287 (Ho 256):=by simpa using i
  have o:(Ho 256).length=256:=by simp [Ho]
  refine Bk<|Aj<|Aj<|A0<|Cb<|Aa (Cx (UN _) (Um _) o O l) O<|Bv (C7 O o O O (by simp [Ho,Value.oneCell']) l o) ?_
  rintro x ⟨e,p,s⟩
  refine Ay<|Eh O O ‹_› underlying287 O O o ?_
  exact ⟨rfl,f.grown p (AA f) (by rintro _ ⟨⟩;exact AU _)⟩
theorem Ta (c:BitVec 8):(Ho 256)[0+c.toNat*1]? =some (u32 (Crc.tab c)):=by
 have h:c.toNat<256:=c.isLt
 have e:BitVec.ofNat 8 c.toNat=c:=by apply BitVec.eq_of_toNat_eq;simp
 simp [Ho,h]
theorem Rq (r:BitVec 32) (l:List (BitVec 8)) (k:Nat) (a:k<l.length):Crc.run r (l.take (k+1))=Crc.tab ((Crc.run r (l.take k)).setWidth 8 ^^^ l.getD k default) ^^^ Crc.run r (l.take k)>>>8:=by
 rw [take_succ_eq_append_getElem a,Crc.run_append]
 simp [Crc.run,Crc.feed_tab,a]
theorem PA (r:BitVec 32) (l:List (BitVec 8)) (k:Nat) (a:k<l.length):Crc.run r (l.take (k+1))=Crc.iter 8 (Crc.run r (l.take k) ^^^ (l.getD k default).setWidth 32):=by
 rw [take_succ_eq_append_getElem a,Crc.run_append]
 simp [Crc.run,Crc.feed,a]
theorem VG (s:BitVec 32) (v:Value) (l:List (BitVec 8)) (w:World) (m:BO b8 w v l):AK prog 148 [u32 s,v] w (fun r c=>r=u32 (Crc.on s l)∧Below w.heap.size w c):=by
 obtain ⟨zv,u,e⟩:=Ml
 have y:(Ho 256).length=256:=by simp [Ho]
 have A:=m.le
 refine Az (n:=30) func148 O<|Ad<|Aa (Ce (show _=some (u32 (0#32)) from rfl)) O<|Be<|Ai O O (Tb w) ?_
 rintro _ o ⟨rfl,f⟩
 refine Ac O<|Aa (Fg O) O<|Bc (Xw.alloc (u _) e) O ?_
 rintro _ C ⟨rfl,q,d,z⟩
 refine Bv (C7 O y O O (by simp [Ho,Value.oneCell']) q length_replicate) ?_
 rintro i ⟨g,t,p⟩
 have b:Below w.heap.size w i:=(K6 f d (AU _)).grown t (by have:=f.size;omega) (by rintro _ ⟨⟩;exact f.size)
 have x:=m.bs b
 refine Ab O<|Bi<|Ac O<|Aa (Ap AL O ‹_›) O ?_
 refine Ac O<|Ak<|An ?_
 refine Bl (S:=Nat) (fun k=>[(5, .pointer (some ⟨o.heap.size,0,none⟩)),(6,u32 (Crc.run (~~~ s) (l.take k))),(12,v),(13, .int .i64 (l.length:Int)),(14, .int .i64 (k:Int))]) (fun k c=>k≤l.length∧c=i) (fun k=>l.length - k) (0) ⟨rfl,rfl,rfl,rfl,rfl,trivial⟩ ?_ ?_
 ·exact ⟨by omega,rfl⟩
 rintro k _ ⟨B,rfl⟩
 refine Ad<|Bz O<|Ak<|Ao<|Aq O ?_ ?_
 ·intro h
  have a:k<l.length:=by simp at h;omega
  refine Bw<|Ao<|An<|Ad<|Aa (Bh AL O O ‹_› _ O (by omega)) O ?_
  refine Aa (Bo (Hf _) O ‹_› (by omega)) O ?_
  refine Ab O<|Ak<|Bn<|Ac O<|Aa (Ec Ih GM O) O<|Ac O<|Aa (Ex.xor8 O O) O<|Aa (Ex.idxB QF Pa O O ((Crc.run (~~~ s) (l.take k)).setWidth 8 ^^^ l.getD k default).toNat O (BitVec.isLt _)) O<|Aa (Al (Uf _) O g (Ta _)) O<|Ac O<|Aa (Ev (j:=8) O O (by decide)) O<|Aa (Fe O O) O<|Ab O<|Bd<|Bg<|B6<|B1 O (by omega)<|Ac O<|Bd ?_
  exact Ar (Bp (k+1) ⟨rfl,(by rw [Rq _ _ _ a];rfl),rfl,rfl,rfl,trivial⟩ (⟨by omega,rfl⟩) (by omega))
 ·intro h
  have a:k=l.length:=by simp at h;omega
  subst a
  refine Bk<|Aj<|Aj<|A0<|Cb<|Ac O<|Aa (Fg O) O<|Ab O<|Ay<|As O O ?_
  exact ⟨by rw [take_length];rfl,b⟩
theorem Vn (v:Value) (l:List (BitVec 8)) (w:World) (b:BO b8 w v l):AK prog 46 [v] w (fun r a=>r=u32 (Crc.of l)∧Below w.heap.size w a):=by
 refine Az (n:=5) func46 O<|Ad<|Aa (Ce (show _=some (u32 (0#32)) from rfl)) O<|Be<|Ac O<|Ai O O (VG 0#32 v l w b) ?_
 rintro _ d ⟨rfl,c⟩
 exact Ab rfl<|Ay<|As rfl rfl<|⟨rfl,c⟩
theorem Vh (s:BitVec 32) (v:Value) (l:List (BitVec 8)) (w:World) (f:BO b8 w v l):AK prog 161 [u32 s,v] w (fun r d=>r=u32 (Crc.on s l)∧Below w.heap.size w d):=by
 have g:=f.le
 refine Az (n:=38) func161 O<|Ad<|Aa (Ce (show _=some (u32 (0#32)) from rfl)) O<|Be<|Ac O<|Aa (Fg O) O<|Ab O<|Bi<|Ab O<|Ak<|An ?_
 refine Bl (S:=Nat) (fun k=>[(1,v),(5,u32 (Crc.run (~~~ s) (l.take k))),(6, .int .i64 (k:Int))]) (fun k d=>k≤l.length∧d=w) (fun k=>l.length - k) (0) ⟨rfl,rfl,rfl,trivial⟩ ?_ ?_
 ·exact ⟨by omega,rfl⟩
 rintro k w ⟨i,rfl⟩
 refine Ao<|Ad<|Ac O<|Ac O<|Aa (Ap AL O ‹_›) O ?_
 refine Bz O<|Ak<|Aq O ?_ ?_
 ·intro h
  have b:k<l.length:=by simp at h;omega
  refine Bw<|Ao<|An<|Ad<|Ac O<|Ac O<|Ac O<|Aa (Bh AL O O ‹_› _ O (by omega)) O ?_
  refine Aa (Bo (Hf _) O ‹_› (by omega)) O ?_
  refine Aa (Eb Lx Hn O) O<|Aa (Fe O O) O<|Ab O<|Be<|Ab O<|Ak<|An ?_
  refine Bl (S:=Nat) (fun j=>[(1,v),(5,u32 (Crc.iter j (Crc.run (~~~ s) (l.take k) ^^^ (l.getD k default).setWidth 32))),(6, .int .i64 (k:Int)),(7, .int .i64 (j:Int))]) (fun j d=>j≤8∧d=w) (fun j=>8 - j) (0) ⟨rfl,rfl,rfl,rfl,trivial⟩ ?_ ?_
  ·exact ⟨by omega,rfl⟩
  rintro j w ⟨m,rfl⟩
  refine Ao<|Ad<|Ac O<|Bz O<|Ak<|Aq O ?_ ?_
  ·intro c
   have a:j<8:=by simp at c;omega
   refine Bw<|Ao<|An<|Ad<|Ac O<|Aa (Fy O (show _=some (u32 (1#32)) from rfl)) O<|Ab O<|Be<|Ac O<|Aa (Ev (j:=1) O O (by decide)) O<|Ab O<|Be<|Ac O<|Aa (Ex.eql32 O (show _=some (u32 (1#32)) from rfl)) O<|Ak<|Aq O ?_ ?_
   ·intro e
    refine Bn<|Ac O<|Aa (Fe O (show _=some (u32 (3988292384#32)) from rfl)) O<|Ab O<|Bd<|Bg<|B6<|Ac O<|B1 O (by omega)<|Ab O<|Bd ?_
    exact Ar (Bp (j+1) ⟨rfl,(by rw [Crc.iter_succ',← Crc.bit_ref,if_pos (by simpa using e)];rfl),rfl,rfl,trivial⟩ (⟨by omega,rfl⟩) (by omega))
   ·intro e
    refine Cj<|Bg<|B6<|Ac O<|B1 O (by omega)<|Ab O<|Bd ?_
    exact Ar (Bp (j+1) ⟨rfl,(by rw [Crc.iter_succ',← Crc.bit_ref,if_neg (by simpa using e)];rfl),rfl,rfl,trivial⟩ (⟨by omega,rfl⟩) (by omega))
  ·intro c
   have a:j=8:=by simp at c;omega
   subst a
   refine Bk<|Aj<|Aj<|A0<|Bg<|B6<|Ac O<|B1 O (by omega)<|Ab O<|Bd ?_
   exact Ar (Bp (k+1) ⟨rfl,(by rw [PA _ _ _ b];rfl),rfl,trivial⟩ (⟨by omega,rfl⟩) (by omega))
 ·intro h
  have b:k=l.length:=by simp at h;omega
  subst b
  refine Bk<|Aj<|Aj<|A0<|Cb<|Ac O<|Aa (Fg O) O<|Ab O<|Ay<|As O O ?_
  exact ⟨by rw [take_length];rfl,Below.refl _ _⟩
theorem TV (v:Value) (l:List (BitVec 8)) (w:World) (b:BO b8 w v l):AK prog 61 [v] w (fun r a=>r=u32 (Crc.of l)∧Below w.heap.size w a):=by
 refine Az (n:=5) func61 O<|Ad<|Aa (Ce (show _=some (u32 (0#32)) from rfl)) O<|Be<|Ac O<|Ai O O (Vh 0#32 v l w b) ?_
 rintro _ d ⟨rfl,c⟩
 exact Ab rfl<|Ay<|As rfl rfl<|⟨rfl,c⟩
end Go.Proofs.YtblbopcaflaldaaGreatDoor

namespace Go.Proofs.YtblbopcaflaldaaGreatDoor
open Go Go.Dd Go.RowKit List
set_option maxRecDepth 100000
def EM (w:World) (v:Value) (ts:List T4):Prop:=Sl w 2 v ts.length (cellsOf ts)∧∀t ∈ ts,t.at w
theorem EM.bs {w a:World} {v:Value} {ts:List T4} (h:EM w v ts) (g:Below w.heap.size w a):EM a v ts:=⟨h.1.bs g,fun t b=>(h.2 t b).bs g⟩
theorem EM.slice {w:World} {v:Value} {ts:List T4} (h:EM w v ts) {i:Nat} (d:i<ts.length):∃ad c k,v= .slice (some ad) c k:=by
 obtain ⟨_,a,cap,rfl,_,_,b,_⟩:=h.1
 cases a with
 |none=>have:=b rfl;omega
 |some ad=>exact ⟨_,_,_,rfl⟩
theorem Jy {ts:List T4} {i:Nat} (h:i<ts.length):∃t:T4,t=ts[i]∧t ∈ ts∧(cellsOf ts)[i*2]? =some t.x∧(cellsOf ts)[i*2+1]? =some t.y:=
 ⟨ts[i],rfl,getElem_mem h,(FY h).1,(FY h).2⟩
theorem G2 {xs:List Value} {o:Nat} {x y:Value} (b:xs[o]? =some x) (a:xs[o+1]? =some y):∀i,i<2→∃q,[x,y][i]? =some q∧xs[o+i]? =some q:=fun i c=>by
 rcases (show i=0∨i=1 by omega) with rfl|rfl
 ·exact ⟨_,rfl,b⟩
 ·exact ⟨_,rfl,a⟩
end Go.Proofs.YtblbopcaflaldaaGreatDoor

namespace Go.Proofs.YtblbopcaflaldaaGreatDoor
open Go Go.Dd Go.RowKit List Go.Proofs.Tryz
set_option maxRecDepth 100000
structure OT (w w' :World) (v y:Value):Prop where
 g:w.grownBy w' v.ownBlock
 c:y.ownBlock=v.ownBlock∨∀b,y.ownBlock=some b→w.heap.size≤b
theorem Fu (w:World) (v:Value):OT w w v v:=⟨DB (Below.refl _ _) _, .inl rfl⟩
theorem OT.bs {w a b:World} {v y:Value} (h:OT w a v y) (g:Below a.heap.size a b):OT w b v y:=⟨ET h.g (DB g _),h.c⟩
theorem OT.app {w d j:World} {v y i:Value} (h:OT w d v y) (g:d.grownBy j y.ownBlock) (c:i.ownBlock=y.ownBlock∨∀b,i.ownBlock=some b→d.heap.size≤b):OT w j v i:=by
 have z:=h.g.size
 refine ⟨⟨g.os.trans h.g.os,g.tape.trans h.g.tape,g.output.trans h.g.output,Nat.le_trans z g.size,fun b k a=> ?_⟩, ?_⟩
 ·refine (g.block b (Nat.lt_of_lt_of_le k z) fun e=> ?_).trans (h.g.block b k a)
  rcases h.c with f|f
  ·exact a (by rw [e,f])
  ·have:=f b e.symm;omega
 ·rcases c with c|c
  ·rw [c];exact h.c
  ·exact .inr fun b e=>Nat.le_trans z (c b e)
theorem Gz (v u:Value) (b:List (BitVec 8)) (l:List Int) (W w:World) (I:Below W.heap.size W w) (h:w.ownsRow W.heap.size 5 1 v b.length (b.map b8)) (E:BO (Value.int .i64) W u l) (X:b.length+l.length+1≤16777216):
  AK prog 42 [v,u] w (fun r k=>Below W.heap.size W k∧k.ownsRow W.heap.size 5 1 r (b++BI l).length ((b++BI l).map b8)∧OT w k v r):=by
 have a:=Fu w v
 have M:=E.bs I
 refine Az (n:=26) func42 O<|Ad<|Ab O<|Be<|Ac O<|Ac O<|Aa (Ap AE O ‹_›) O ?_
 refine Aa (Dm Hc GM O) O<|Bc (Cv (vs:=[BitVec.ofInt 8 (l.length:Int)].map b8) AL CY O O O O O) O ?_
 rintro q U ⟨d, -,B, -⟩
 have h:=AI h B
 have t:=bt I B
 have a:=a.bs B
 refine Bc (Cn (base:=W.heap.size) AL CY O (by decide) O O h (AF d) (BL (fun _=>rfl) _) (by omega) (by omega) t.size) O ?_
 rintro K Z ⟨m,f,C,G⟩
 have a:=a.app C (G.imp id fun e b p=>by rw [e] at p;cases p;omega)
 have A:=t.trans f
 have D:=E.bs A
 have J:b.map b8++[BitVec.ofInt 8 (l.length:Int)].map b8=(b++DR l 0).map b8:=by rw [← map_append];rfl
 have Q:b.length+1=(b++DR l 0).length:=by rw [length_append];rfl
 rw [J,Q] at m
 clear h d M B
 refine Ab O<|Bi<|Ac O<|Aa (Ap AE O ‹_›) O ?_
 refine Ac O<|Ak<|An ?_
 refine Bl (S:=(Nat×Value)) (fun z=>[(0,z.2),(13,u),(14, .int .i64 (l.length:Int)),(15, .int .i64 (z.1:Int))]) (fun z k=>z.1≤l.length∧Below W.heap.size W k∧k.ownsRow W.heap.size 5 1 z.2 (b++DR l z.1).length ((b++DR l z.1).map b8)∧OT w k v z.2) (fun z=>l.length - z.1) ((0,K)) ⟨rfl,rfl,rfl,rfl,trivial⟩ ?_ ?_
 ·exact ⟨Nat.zero_le _,A,m,a⟩
 clear m D a
 rintro ⟨i,y⟩ V ⟨H,j,s,a⟩
 dsimp only at H j s a ⊢
 have N:=E.bs j
 refine Ad<|Bz O<|Ak<|Ao<|Aq O ?_ ?_
 ·intro g
  have c:i<l.length:=by have:=AC g;omega
  have p:(b++DR l i).length+1=(b++DR l (i+1)).length:=by rw [length_append,length_append,G4 H,G4 c];rfl
  have Y:(b++DR l (i+1)).length=b.length+(i+2):=by rw [length_append,G4 c]
  have R:(b++DR l i)++[BitVec.ofInt 8 (l.getD i default)]=b++DR l (i+1):=by rw [Ku c,append_assoc]
  refine Bw<|Ao<|An<|Ad<|Aa (Bh AE O O ‹_› _ O (by omega)) O ?_
  refine Aa (Bo (AO _) O ‹_› (by omega)) O ?_
  refine Ab O<|Ak<|Bn<|Ac O<|Ac O<|Aa (Dm Hc GM O) O<|Bc (Cv (vs:=[BitVec.ofInt 8 (l.getD i default)].map b8) AL CY O O O O O) O ?_
  rintro q T ⟨d, -,o, -⟩
  have s:=AI s o
  have f:=bt j o
  have a:=a.bs o
  refine Bc (Cn (base:=W.heap.size) AL CY O (by decide) O O s (AF d) (BL (fun _=>rfl) _) (by omega) (by omega) f.size) O ?_
  rintro L w5 ⟨x,F,C,G⟩
  have a:=a.app C (G.imp id fun e b p=>by rw [e] at p;cases p;omega)
  rw [← map_append,R,p] at x
  refine Ab O<|Bd<|Bg<|B6<|B1 O (by omega)<|Ac O<|Bd ?_
  exact Ar (Bp ((i+1,L)) ⟨rfl,rfl,rfl,rfl,trivial⟩ (⟨c,f.trans F,x,a⟩) (by simp only;omega))
 intro g
 have c:i=l.length:=by have:=AD g;omega
 subst c
 rw [Lm] at s
 exact Bk<|Aj<|Aj<|A0<|Cb<|Ac rfl<|Ab rfl<|Ay<|As rfl rfl<|⟨j,s,a⟩
def GB (ls:List N5) (ws:List T4):Bool:=(GL ls).isSome && (decide ((F2 ls).length=ws.length) && Ic (ws.map pv) (F2 ls))
theorem GN.ad {w:World} {v:Value} {ls:List N5} (h:GN w v ls) {i:Nat} (d:i<ls.length):∃ad c k,v= .slice (some ad) c k:=by
 obtain ⟨_,a,cap,rfl,_,_,b,_⟩:=h.sl
 cases a with
 |none=>have:=b rfl;omega
 |some ad=>exact ⟨_,_,_,rfl⟩
theorem GN.cell {w:World} {v:Value} {ls:List N5} (h:GN w v ls) {i:Nat} (a:i<ls.length):(GI N5.cells ls)[i*5+0]? =some (b8 ls[i].k)∧(GI N5.cells ls)[i*5+2]? =some ls[i].y:=by
 obtain ⟨q,e,c⟩:=h.cells a 0 (by decide)
 obtain ⟨r,g,d⟩:=h.cells a 2 (by decide)
 have b:b8 ls[i].k=q:=Option.some.inj e
 have f:ls[i].y=r:=Option.some.inj g
 exact ⟨by rw [b];exact c,by rw [f];exact d⟩
theorem U5 (v u:Value) (A i:Nat) (ls:List N5) (t:T4) (W:World) (f:AP W A 27 [v,u]) (h:GN W v ls) (j:i<ls.length) (e:t.at W):
  AK prog 142 [.int .i64 (i:Int),t.v, .pointer (some ⟨A,0,none⟩)] W (fun r l=>r= .bool (IS (pv t) ls[i].s)∧Below W.heap.size W l):=by
 have k:=Below.refl W.heap.size W
 have o:=h.ad j
 have m:=(h.cell j).2
 have hs:=(h.each _ (getElem_mem j)).s
 refine Az (n:=20) func142 O<|Ad<|Cr (cs:=[t.x,t.y]) O O O ?_
 rintro y w p s d -
 have k:=k.bs d
 have h:=h.bs d
 have e:=e.bs d
 have f:=f.bs d
 have hs:=hs.bs d
 refine Ab O<|Ak<|Ao ?_
 rename World=>b
 refine Cw.any BB (fun z c _=> ?_)
 refine Dg (fun l=>Below b.heap.size b l) (fun C=> ?_) (c)
 refine Cf (Am Br)<|Af 0 O (fun b a=>Cx (FZ _) (FX _) O O (AP.bs ‹_› a)) O<|B5 ?_
 refine AR.only ‹_› (i:=1) (by kernel_rfl) O ?_
 refine Ai O O (QM t.x t.y t.s t.l z (e.bs c).1 (e.bs c).2) ?_
 rintro _ x ⟨rfl,d⟩
 have c:=bt c d
 refine AR.back<|Cf (Am Br)<|Af 2 O (fun b a=>B4 O) O<|B5 ?_
 refine Gj 8 O ?_ ?_
 ·intro g
  refine C4 (i:=3) (dj:=8) (Am Br) O O O (by kernel_rfl) (by kernel_rfl) (by kernel_rfl) (fun b a=>B8 underlying75 O (AT _)) O<|C4 (i:=4) (dj:=8) (Am Br) O O O (by kernel_rfl) (by kernel_rfl) (by kernel_rfl) (fun b a=>Al (AN _) O (AP.bs ‹_› a) O) O<|C4 (i:=5) (dj:=8) (Am Br) O O O (by kernel_rfl) (by kernel_rfl) (by kernel_rfl) (fun b a=>B8 underlying27 O (BX _)) O<|C4 (i:=6) (dj:=8) (Am Br) O O O (by kernel_rfl) (by kernel_rfl) (by kernel_rfl) (fun b a=>B8 underlying24 O (BU _)) O<|C4 (i:=7) (dj:=8) (Am Br) O O O (by kernel_rfl) (by kernel_rfl) (by kernel_rfl) (fun b a=>Al (CD _) O (AP.bs ‹_› a) O) O<|C4 (i:=8) (dj:=8) (Am Br) O O O (by kernel_rfl) (by kernel_rfl) (by kernel_rfl) (fun b a=>B4 O) O<|C4 (i:=9) (dj:=8) (Am Br) O O O (by kernel_rfl) (by kernel_rfl) (by kernel_rfl) (fun b a=>Cl BE O O (h.sl.bs a) i O j) O<|C4 (i:=10) (dj:=8) (Am Br) O O O (by kernel_rfl) (by kernel_rfl) (by kernel_rfl) (fun b a=>C9 (q:=0) underlying79 O (AT _) O o) O<|C4 (i:=11) (dj:=8) (Am Br) O O O (by kernel_rfl) (by kernel_rfl) (by kernel_rfl) (fun b a=>Ea (AN _) O (h.sl.bs a) m) O<|AR.only ‹_› (i:=12) (by kernel_rfl) O ?_
  refine Ag (dj:=8) O O<|Ai O O (Hv t.x ls[i].y t.s ls[i].s x (e.bs c).1 (hs.bs c)) ?_
  rintro _ B ⟨rfl,d⟩
  have c:=bt c d
  refine AR.back<|Cf (Am Br)<|Af 13 O (fun b a=>C3 O O) O<|Af 14 O (fun b a=>Ce O) O<|B5<|Cq ‹_› (by kernel_rfl) ?_
  refine Ar<|B9<|Dq<|As O O ?_
  exact ⟨cngA Value.bool (show decide (t.s=ls[i].s)=(L1 t.s t.l && decide (t.s=ls[i].s)) by rw [g];rfl),bt k c⟩
 intro g
 refine Cy (i:=3) (dj:=8) (Am Br) O O O O (by kernel_rfl) (by kernel_rfl) (by kernel_rfl) O<|Cy (i:=4) (dj:=8) (Am Br) O O O O (by kernel_rfl) (by kernel_rfl) (by kernel_rfl) O<|Cy (i:=5) (dj:=8) (Am Br) O O O O (by kernel_rfl) (by kernel_rfl) (by kernel_rfl) O<|Cy (i:=6) (dj:=8) (Am Br) O O O O (by kernel_rfl) (by kernel_rfl) (by kernel_rfl) O<|Cy (i:=7) (dj:=8) (Am Br) O O O O (by kernel_rfl) (by kernel_rfl) (by kernel_rfl) O<|Cy (i:=8) (dj:=8) (Am Br) O O O O (by kernel_rfl) (by kernel_rfl) (by kernel_rfl) O<|Cy (i:=9) (dj:=8) (Am Br) O O O O (by kernel_rfl) (by kernel_rfl) (by kernel_rfl) O<|Cy (i:=10) (dj:=8) (Am Br) O O O O (by kernel_rfl) (by kernel_rfl) (by kernel_rfl) O<|Cy (i:=11) (dj:=8) (Am Br) O O O O (by kernel_rfl) (by kernel_rfl) (by kernel_rfl) O<|Cy (i:=12) (dj:=8) (Am Br) O O O O (by kernel_rfl) (by kernel_rfl) (by kernel_rfl) O<|Cf (Am Br)<|Af 13 O (fun b a=>C0 O O) O<|Af 14 O (fun b a=>Ce O) O<|B5<|Cq ‹_› (by kernel_rfl) ?_
 refine Ar<|B9<|Dq<|As O O ?_
 exact ⟨cngA Value.bool (show false=(L1 t.s t.l && decide (t.s=ls[i].s)) by rw [g];rfl),bt k c⟩
theorem V0 (q u:Value) (b:List Int) (ws:List T4) (f:FuncId) (cap:List Value) (P:Nat→Bool) (w:World) (E:BO (Value.int .i64) w q b) (A:EM w u ws)
  (M:∀i d,i<b.length→∀(h:i<ws.length),Below w.heap.size w d→AK prog f ([]++[.int .i64 (b.getD i default),ws[i].v]++cap) d (fun r B=>r= .bool (P i)∧Below d.heap.size d B)):
  AK prog 141 [q,u, .func (.func f) #[] cap.toArray] w (fun r d=>r= .bool (decide (b.length=ws.length) && (range b.length).all P)∧Below w.heap.size w d):=by
 have H:=E.le
 have I:=A.1
 refine Az (n:=32) func141 O<|Ad<|Ab O<|Bi<|Ac O<|Aa (Ap AE O ‹_›) O ?_
 refine Ac O<|Aa (Ap BK O ‹_›) O ?_
 refine Aa (Ct O O) O<|Ak<|Aq O ?_ ?_
 ·intro g
  have g:¬b.length=ws.length:=fun e=>by rw [e] at g;simp at g
  refine Ad<|Ab O<|B2<|As O O ?_
  exact ⟨by rw [decide_eq_false g];rfl,Below.refl _ _⟩
 intro g
 have g:b.length=ws.length:=by simp at g;omega
 rw [decide_eq_true g,Bool.true_and]
 refine Bw<|Ao<|Ad<|Ac O<|Aa (Ap AE O ‹_›) O ?_
 refine Ac O<|Ak<|An ?_
 refine Bl (S:=Nat) (fun i=>[(1,u),(2, .func (.func f) #[] cap.toArray),(15,q),(16, .int .i64 (b.length:Int)),(17, .int .i64 (i:Int))]) (fun i d=>i≤b.length∧(∀j,j<i→P j=true)∧Below w.heap.size w d) (fun i=>b.length - i) (0) ⟨rfl,rfl,rfl,rfl,rfl,trivial⟩ ?_ ?_
 ·exact ⟨Nat.zero_le _,fun _ h=>by omega,Below.refl _ _⟩
 rintro i V ⟨X,hall,s⟩
 have G:=E.bs s
 have l:=(A.bs s).1
 refine Ad<|Bz O<|Ak<|Ao<|Aq O ?_ ?_
 ·intro D
  have c:i<b.length:=by have:=AC D;omega
  have z:i<ws.length:=by omega
  obtain ⟨a,T,v,K,L⟩:=Jy z
  have x:=(A.bs s).2 a v
  refine Bw<|Ao<|An<|Ad<|Ac O<|Aa (Bh AE O O ‹_› _ O (by omega)) O ?_
  refine Aa (Bo (AO _) O ‹_› (by omega)) O ?_
  refine Ab O<|Ab O<|Be<|Ac O<|Ac O<|Aa (Cl BK O O l i O z) O<|Aa (C8 (cs:=[a.x,a.y]) (FZ _) (FX _) O l O (by decide) (G2 K L)) O<|Cz (cs:=[a.x,a.y]) EC O O O O (fun _=>rfl) (x.one) ?_
  rintro N U F Q R J
  have m:=bt s R
  have o:=M i U c z m
  rw [← T] at o
  refine Be<|Ac O<|Ac O<|Aa (Cx (FZ _) (FX _) O O ‹_›) O ?_
  refine Eo (p:=[]) (q:=cap) O O O (o) ?_
  rintro _ W ⟨rfl,y⟩
  have t:=bt m y
  refine Aa (Co O) O<|Ak<|Aq O ?_ ?_
  ·intro k
   have k:P i=false:=by simpa using k
   refine Ad<|Ab O<|Ay<|Bj<|Av<|Av<|Bj<|Av<|As O O ?_
   refine ⟨?_,t⟩
   congr 1
   exact (List.all_eq_false.2 ⟨i,List.mem_range.2 c,by rw [k];decide⟩).symm
  intro k
  have k:P i=true:=by simpa using k
  refine Cj<|Bg<|B6<|B1 O (by omega)<|Ac O<|Bd ?_
  exact Ar (Bp (i+1) ⟨rfl,rfl,rfl,rfl,rfl,trivial⟩ (⟨c,fun j C=>(Nat.lt_succ_iff_lt_or_eq.1 C).elim (hall j) (fun e=>by rw [e];exact k),t⟩) (by omega))
 intro D
 have c:i=b.length:=by have:=AD D;omega
 refine Bk<|Aj<|Aj<|A0<|Cb<|Ab O<|Ay<|As O O ?_
 refine ⟨?_,s⟩
 congr 1
 exact (List.all_eq_true.2 fun j C=>hall j (by rw [c];exact List.mem_range.1 C)).symm
theorem TY (v u:Value) (ls:List N5) (ws:List T4) (W:World) (h:GN W v ls) (f:EM W u ws):
  AK prog 41 [.agg [v,u].toArray] W (fun r d=>r= .bool (GB ls ws)∧Below W.heap.size W d):=by
 have k:=Below.refl W.heap.size W
 refine Az (n:=16) func41 O<|Ad<|Cr (cs:=[v,u]) O O O ?_
 rintro o w z b a -
 have k:=k.bs a
 have h:=h.bs a
 have f:=f.bs a
 refine Ab O<|Bi<|Ba underlying27 O (BX _)<|Aa (D3 (ds:=[v]) (Gx _) (BX _) O O ‹_› rfl) O ?_
 refine Ai O O (Sd v ls w h) ?_
 rintro _ w ⟨a,rfl⟩
 have k:=k.bs a
 have h:=h.bs a
 have f:=f.bs a
 have b:=b.bs a
 refine Aa (Co O) O<|Ak<|Aq O ?_ ?_
 ·intro g
  have g:(GL ls).isSome=false:=by simpa using g
  refine Ad<|Ab O<|B2<|As O O ?_
  exact ⟨by unfold GB;rw [g];rfl,k⟩
 intro g
 obtain ⟨s,p⟩:∃s,GL ls=some s:=by
  cases e:GL ls with
  |none=>rw [e] at g;cases g
  |some s=>exact ⟨s,rfl⟩
 have y:=Pq p
 refine Cs<|Ba underlying27 O (BX _)<|Aa (D3 (ds:=[v]) (Gx _) (BX _) O O ‹_› rfl) O ?_
 refine Ai O O (Ou v ls w h (by omega)) ?_
 rintro q w ⟨a,x⟩
 have k:=k.bs a
 have h:=h.bs a
 have f:=f.bs a
 have b:=b.bs a
 have E:∀j d,j<(CP ls).length→∀(m:j<ws.length),Below w.heap.size w d→AK prog 142 ([]++[.int .i64 ((CP ls).getD j default),ws[j].v]++[.pointer (some ⟨o,0,none⟩)]) d (fun r w'' =>r= .bool (IS ((ws.map pv).getD j ([],[])) ((F2 ls).getD j default).s)∧Below d.heap.size d w''):=by
  intro j d H m a
  obtain ⟨i,c,C,A,F⟩:=Lt H
  have:=U5 v u o i ls ws[j] d (b.bs a) (h.bs a) c ((f.bs a).2 _ (getElem_mem m))
  have G:(ws.map pv).getD j ([],[])=pv ws[j]:=by rw [getD_eq_getElem?_getD,getElem?_map,getElem?_eq_getElem m];rfl
  have D:((F2 ls).getD j default).s=ls[i].s:=by
   rw [getD_eq_getElem?_getD,getElem?_eq_getElem A,Option.getD_some,F,getD_eq_getElem?_getD,getElem?_eq_getElem c];rfl
  rw [C,G,D]
  exact this
 refine Ab O<|Be<|Ac O<|Ba underlying27 O (CF _)<|Aa (Al (DD _) O ‹_› rfl) O ?_
 refine Aa (E2 (vs:=[]) O O) O<|Ai O O (V0 q u (CP ls) ws 142 [.pointer (some ⟨o,0,none⟩)] (fun j=>IS ((ws.map pv).getD j ([],[])) ((F2 ls).getD j default).s) w x f E) ?_
 rintro _ w ⟨rfl,a⟩
 refine Ab O<|Ay<|As O O ?_
 refine ⟨?_,bt k a⟩
 have B:(CP ls).length=(F2 ls).length:=by rw [← IC,length_map]
 unfold GB
 rw [p,B]
 congr 1
 show _=(true && _)
 rw [Bool.true_and]
 by_cases hl:(F2 ls).length=ws.length
 ·rw [decide_eq_true hl,Bool.true_and,Bool.true_and,Bool.eq_iff_iff,Hh (by rw [length_map,hl]),all_eq_true]
  constructor
  ·intro t i c
   have:=t i (List.mem_range.2 c)
   rwa [getD_eq_getElem?_getD (l:=F2 ls),getElem?_eq_getElem c] at this
  ·intro t i c
   have c:=List.mem_range.1 c
   have:=t i c
   rw [getD_eq_getElem?_getD (l:=F2 ls),getElem?_eq_getElem c]
   exact this
 ·rw [decide_eq_false hl];rfl

def SM:Value:= .iface 106 (.agg #[])
structure Mk (W w:World) (A:Nat) (v:Value) (l:List (BitVec 8)):Prop where
 sl:BO b8 W v l
 bel:Below W.heap.size W w
 lo:W.heap.size≤A
 cell:AP w A 99 [v]
theorem L5 (W w:World) (A n:Nat) (v:Value) (l:List (BitVec 8)) (j:Mk W w A v l):
  Ls prog 57 [.pointer (some ⟨A,0,none⟩), .int .i64 (n:Int)] w SM
   (fun r c=>n≤l.length∧w.grownBy c (some A)∧c.heap.size=w.heap.size∧BO b8 W r (l.take n)∧∃v',Mk W c A v' (l.drop n)) (fun c=>l.length<n∧c=w):=by
 obtain ⟨a,f,e,b⟩:=j
 have i:=a.bs f
 refine E1 (n:=31) func57 (by kernel_rfl) O O O<|Ad<|Ab O<|Bi<|Ac O<|Ac O<|Aa (Ax O) O<|Ba underlying99 O (DG _)<|Aa (Al (DM _) O ‹_› rfl) O ?_
 refine Aa (Ap AL O ‹_›) O ?_
 refine Aa (Dh O O) O<|Ak<|Aq O ?_ ?_
 ·intro g
  have g:=AC g
  refine Bn<|Aa (C1 (vs:=[]) (cs:=[]) O (by kernel_rfl)) O<|Aa (F3 underlying106 O) O ?_
  refine Gd O (Cp (D9 (⟨by omega,rfl⟩)))
 intro g
 have g:=AD g
 have d:n≤l.length:=by omega
 refine Cs<|Ac O<|Aa (Ax O) O<|Ba underlying99 O (DG _)<|Aa (Al (DM _) O ‹_› rfl) O ?_
 refine Ac O<|Aa (El AL O O ‹_› (by omega)) O ?_
 refine Ab O<|Be<|Ac O<|Ac O<|Aa (Ax O) O<|Ba underlying99 O (DG _)<|Aa (Al (DM _) O ‹_› rfl) O ?_
 refine Ac O<|Aa (Ey AL O O ‹_› (by omega)) O ?_
 refine Aa (Ax O) O<|Ba underlying99 O (DG _)<|Bv (C5 (DG _) O O (a.drop d).one' b (show 0<1 by omega)) ?_
 rintro w ⟨b,h,k⟩
 refine Be<|Ac O<|Ab O<|Ay<|Fs O O ?_
 exact ⟨d,h,k,a.take d,_,⟨a.drop d,f.grown h (AA f) (by rintro _ ⟨⟩;omega),e,b⟩⟩
theorem Rs (W w:World) (A:Nat) (v:Value) (l:List (BitVec 8)) (h:Mk W w A v l):
  Ls prog 52 [.pointer (some ⟨A,0,none⟩)] w SM
   (fun r a=>1≤l.length∧w.grownBy a (some A)∧a.heap.size=w.heap.size∧r= .int .i64 ((l.getD 0 default).toNat:Int)∧∃v',Mk W a A v' (l.drop 1)) (fun a=>l.length<1∧a=w):=by
 refine E1 (n:=8) func52 (by kernel_rfl) O O O<|Ad<|Ab O<|Be<|Ac O<|Dw O O (L5 W w A 1 v l h) (fun a i=>Cp (D9 (i))) ?_
 rintro r m ⟨g,j,k,e,v',d⟩
 have f:=e.bs d.bel
 have c:0<(l.take 1).length:=by rw [length_take];omega
 have c:0<(l.take 1).length:=by rw [length_take];omega
 refine Aa (Dn AL O O f.shp 0 O c) O<|Aa (Bo (Hf _) O ‹_› (by omega)) O ?_
 refine Aa (Fb Lx Jt O) O<|Ab O<|Ay<|Fs O O ?_
 refine ⟨g,j,k, ?_,v',d⟩
 cases l with
 |nil=>simp at g
 |cons b t=>rfl
def FD (t:List (BitVec 8)):List Int:=t.map fun b=>(b.toNat:Int)
theorem IM (t:List (BitVec 8)):(FD t).length=t.length:=length_map ..
theorem Ks {t:List (BitVec 8)} {i:Nat} (a:i<t.length):FD (t.take (i+1))=FD (t.take i)++[((t.getD i default).toNat:Int)]:=by
 unfold FD
 rw [take_succ_eq_append_getElem a,map_append,getD_eq_getElem?_getD,getElem?_eq_getElem a]
 rfl
set_option maxHeartbeats 1000000 in
theorem Tg (W w:World) (A:Nat) (v:Value) (l:List (BitVec 8)) (Z:Mk W w A v l):
  Ls prog 53 [.pointer (some ⟨A,0,none⟩)] w SM
   (fun r d=>1≤l.length∧(l.getD 0 default).toNat≤(l.drop 1).length∧w.grownBy d (some A)∧
    AQ d w.heap.size 3 1 r (FD ((l.drop 1).take (l.getD 0 default).toNat)).length ((FD ((l.drop 1).take (l.getD 0 default).toNat)).map (Value.int .i64))∧
    ∃v',Mk W d A v' ((l.drop 1).drop (l.getD 0 default).toNat))
   (fun d=>(l.length<1∨(l.drop 1).length<(l.getD 0 default).toNat)∧w.grownBy d (some A)):=by
 obtain ⟨n,C⟩:∃n,n=(l.getD 0 default).toNat:=⟨_,rfl⟩
 have K:n<256:=by rw [C];exact (l.getD 0 default).isLt
 rw [← C]
 refine E1 (n:=22) func53 (by kernel_rfl) O O O<|Ad<|Ab O<|Bi<|Ac O<|Ac O<|Dw O O (Rs W w A v l Z) (fun d m=>Cp (Cp (D9 (⟨.inl m.1,m.2 ▸ DB (Below.refl _ _) _⟩)))) ?_
 rintro _ H ⟨M,o,N,rfl,Q,E⟩
 rw [← C]
 refine Dw O O (L5 W H A n Q _ E) (fun d m=>Cp (Cp (D9 (⟨.inr m.1,m.2 ▸ o⟩)))) ?_
 rintro r u ⟨I,x,V,s,X,a⟩
 obtain ⟨t,F⟩:∃t,t=(l.drop 1).take n:=⟨_,rfl⟩
 rw [← F] at s ⊢
 have L:=ET o x
 have U:u.heap.size=w.heap.size:=by omega
 have h:=s.bs a.bel
 have lt:t.length≤255:=by rw [F,length_take];omega
 refine Aa (Ap AL O ‹_›) O ?_
 refine Ac O<|Ak<|An ?_
 refine Bl (S:=(Nat×Value)) (fun z=>[(0, .pointer (some ⟨A,0,none⟩)),(2,z.2),(8,r),(9, .int .i64 (t.length:Int)),(10, .int .i64 (z.1:Int))]) (fun z d=>z.1≤t.length∧Below u.heap.size u d∧d.ownsRow u.heap.size 3 1 z.2 (FD (t.take z.1)).length ((FD (t.take z.1)).map (Value.int .i64))) (fun z=>t.length - z.1) ((0, .slice none 0 0)) ⟨rfl,rfl,rfl,rfl,rfl,trivial⟩ ?_ ?_
 ·exact ⟨Nat.zero_le _,Below.refl _ _,World.ownsRow_nil _ _ _ _⟩
 rintro ⟨i,y⟩ J ⟨Y,b,f⟩
 dsimp only at Y b f ⊢
 have h:=h.bs b
 refine Ad<|Bz O<|Ak<|Ao<|Aq O ?_ ?_
 ·intro g
  have c:i<t.length:=by have:=AC g;omega
  have T:(FD (t.take i)).length+1=(FD (t.take (i+1))).length:=by rw [IM,IM,length_take,length_take];omega
  have e3:(FD (t.take i)).length=i:=by rw [IM,length_take];omega
  refine Bw<|Ao<|An<|Ad<|Aa (Dn AL O O h.shp i O c) O<|Aa (Bo (Hf _) O ‹_› (by omega)) O ?_
  refine Ab O<|Ak<|Bn<|Ac O<|Ac O<|Aa (Fb Lx Jt O) O<|Bc (Cv (vs:=[((t.getD i default).toNat:Int)].map (Value.int .i64)) AE DO O O O O O) O ?_
  rintro q G ⟨B, -,j, -⟩
  have f:=AI f j
  have p:=bt b j
  refine Bc (De (base:=u.heap.size) AE DO O (by decide) O O f (AF B) (BL (fun _=>rfl) _) (by omega) (by omega) p.size) O ?_
  rintro R w5 ⟨k,D, -⟩
  rw [← map_append,← Ks c,T] at k
  refine Ab O<|Bd<|Bg<|B6<|B1 O (by omega)<|Ac O<|Bd ?_
  exact Ar (Bp ((i+1,R)) ⟨rfl,rfl,rfl,rfl,rfl,trivial⟩ (⟨c,p.trans D,k⟩) (by simp only;omega))
 intro g
 have c:i=t.length:=by have:=AD g;omega
 subst c
 rw [take_length] at f
 refine Bk<|Aj<|Aj<|A0<|Cb<|Ac O<|Ai O O (Ma y (FD t) J (BD f)) ?_
 rintro _ G ⟨rfl,e⟩
 refine Ab O<|Ay<|Fs O O ?_
 refine ⟨M,I,ET L (DB (bt b e) _), ?_,X, ?_⟩
 ·rw [← U];exact (AQ.clip f).bs e
 ·exact ⟨a.sl,a.bel.trans ((bt b e).mono (AA a.bel)),a.lo,a.cell.bs (bt b e)⟩
end Go.Proofs.YtblbopcaflaldaaGreatDoor

namespace Go.Proofs.YtblbopcaflaldaaGreatDoor
open Go Go.Dd Go.RowKit List
set_option maxRecDepth 100000
abbrev Bs:=List (BitVec 8)
abbrev PN:=BitVec 8×List Int×List Int×Int×Int
def pn (a:N5):PN:=(a.k,a.i,a.s,a.n,a.p)
def un (p:PN):N5:=⟨p.1, .slice none 0 0, .slice none 0 0,p.2.1,p.2.2.1,p.2.2.2.1,p.2.2.2.2⟩
def ES:Bs→Option (BitVec 8×Bs)
 |[]=>none
 |b::t=>some (b,t)
def DZ (l:Bs):Option (List Int×Bs):=match ES l with
 |none=>none
 |some (b,t)=>if b.toNat≤t.length then some (FD (t.take b.toNat),t.drop b.toNat) else none
def EB (l:Bs):Option (PN×Bs):=match ES l with
 |none=>none
 |some (k,l)=>match DZ l with
  |none=>none
  |some (i,l)=>match DZ l with
   |none=>none
   |some (s,l)=>match ES l with
    |none=>none
    |some (n,l)=>match ES l with
     |none=>none
     |some (p,l)=>some ((k,i,s,(n.toNat:Int),(p.toNat:Int)),l)
def CJ:Nat→Bs→Option (List PN×Bs)
 |0,l=>some ([],l)
 |n+1,l=>match EB l with
  |none=>none
  |some (x,l)=>(CJ n l).map fun q=>(x::q.1,q.2)
def Q6 (s:List Int) (l:Bs):Option (PV×Bs):=
 if Shapes.ok s=true∧4*(Shapes.size s).toNat≤l.length then some ((s,nums (l.take (4*(Shapes.size s).toNat))),l.drop (4*(Shapes.size s).toNat)) else none
def EV:List (List Int)→Bs→Option (List PV×Bs)
 |[],l=>some ([],l)
 |s::ss,l=>match Q6 s l with
  |none=>none
  |some (x,l)=>(EV ss l).map fun q=>(x::q.1,q.2)
def Js (ns:List PN):List (List Int):=(ns.filter fun a=>decide (a.1=2#8)).map fun a=>a.2.2.1
def DK (l:Bs):Option (List PN×List PV×Bs):=match ES l with
 |none=>none
 |some (b,l)=>match CJ b.toNat l with
  |none=>none
  |some (ns,l)=>(EV (Js ns) l).map fun q=>(ns,q.1,q.2)
def RZ (ns:List PN):Option (List (List Int)):=GL (ns.map un)
def DS (l:Bs):Option (List PN×List PV):=match DK l with
 |none=>none
 |some (ns,ws,r)=>if r=[]∧(RZ ns).isSome=true then some (ns,ws) else none
def IP (b:Bs):Int:=if b.length<4 then 5 else if gf (b.drop (b.length - 4))≠Crc.of (b.take (b.length - 4)) then 11 else if (DS (b.take (b.length - 4))).isSome then 0 else 4
def HY (b:Bs):Option (List PN×List PV):=if b.length<4 then none else if gf (b.drop (b.length - 4))≠Crc.of (b.take (b.length - 4)) then none else DS (b.take (b.length - 4))
theorem Pr:∀(ls:List N5) (a:List (List Int)),FA a (ls.map fun x=>un (pn x))=FA a ls
 |[],_=>rfl
 |x::ls,a=>by
  show (match JI a x with|some s=>FA (a++[s]) (ls.map fun x=>un (pn x))|none=>none)=match JI a x with|some s=>FA (a++[s]) ls|none=>none
  cases JI a x with
  |none=>rfl
  |some s=>exact Pr ls _
theorem Sp (k:BitVec 8):∀ls:List N5,((ls.map fun x=>un (pn x)).filter fun a=>decide (a.k=k)).length=(ls.filter fun a=>decide (a.k=k)).length
 |[]=>rfl
 |x::ls=>by
  have b:=Sp k ls
  rw [map_cons,filter_cons,filter_cons,show (un (pn x)).k=x.k from rfl]
  split
  ·rw [length_cons,length_cons,b]
  ·exact b
theorem HB (ls:List N5):RZ (ls.map pn)=GL ls:=by
 unfold RZ
 rw [map_map]
 show GL (ls.map fun x=>un (pn x))=GL ls
 unfold GL
 have b:DJ (ls.map fun x=>un (pn x))=DJ ls:=Sp _ ls
 have a:((ls.map fun x=>un (pn x)).getD (ls.length - 1) default).k=(ls.getD (ls.length - 1) default).k:=by
  rw [getD_eq_getElem?_getD,getD_eq_getElem?_getD,getElem?_map]
  cases ls[ls.length - 1]? <;>rfl
 rw [length_map,Pr,b,a]
theorem Ie (ls:List N5):Js (ls.map pn)=(F2 ls).map (·.s):=by
 unfold Js F2
 rw [filter_map,map_map]
 rfl
theorem KY {l:Bs}:ES l=none↔l.length<1:=by cases l<;>simp [ES]
theorem IH {l:Bs} (h:1≤l.length):ES l=some (l.getD 0 default,l.drop 1):=by
 cases l with
 |nil=>simp at h
 |cons b t=>rfl
theorem NO {l:Bs}:DZ l=none↔(l.length<1∨(l.drop 1).length<(l.getD 0 default).toNat):=by
 cases l with
 |nil=>simp [DZ,ES]
 |cons b t=>
  simp only [DZ,ES]
  split
  ·rename_i h;simp;omega
  ·rename_i h;simp;omega
theorem NN {l:Bs} (a:1≤l.length) (b:(l.getD 0 default).toNat≤(l.drop 1).length):DZ l=some (FD ((l.drop 1).take (l.getD 0 default).toNat),(l.drop 1).drop (l.getD 0 default).toNat):=by
 unfold DZ
 rw [IH a]
 exact if_pos b
theorem JA:∀{a:List (List Int)} {l r:Bs} {ws:List PV},EV a l=some (ws,r)→ws.map Prod.fst=a∧∀p ∈ ws,L1 p.1 p.2=true
 |[],l,r,ws,h=>by cases h;exact ⟨rfl,fun _ h=>by cases h⟩
 |s::a,l,r,ws,h=>by
  unfold EV at h
  cases h1:Q6 s l with
  |none=>rw [h1] at h;cases h
  |some q=>
   obtain ⟨x,f⟩:=q
   rw [h1] at h
   simp only at h
   cases h2:EV a f with
   |none=>rw [h2] at h;cases h
   |some q2=>
    obtain ⟨g,j⟩:=q2
    rw [h2] at h
    cases h
    obtain ⟨d,i⟩:=JA h2
    unfold Q6 at h1
    split at h1
    ·rename_i c
     cases h1
     refine ⟨by rw [map_cons,d],fun p b=> ?_⟩
     rcases List.mem_cons.1 b with rfl|b
     ·have:=Shapes.size_le s
      have e:=JT (Shapes.size s).toNat (l.take (4*(Shapes.size s).toNat)) (by rw [length_take];omega)
      unfold L1
      rw [c.1,e,Bool.true_and,decide_eq_true_eq]
      show ((Shapes.size s).toNat:Int)=Shapes.size s
      omega
     ·exact i p b
    ·cases h1
theorem MK {ls:List N5} {ts:List T4} {l r:Bs} (h:EV (Js (ls.map pn)) l=some (ts.map pv,r)):GB ls ts=(GL ls).isSome:=by
 obtain ⟨b,g⟩:=JA h
 rw [Ie,map_map] at b
 have d:(F2 ls).length=ts.length:=by have:=cngA length b;simpa using this.symm
 have j:Ic (ts.map pv) (F2 ls)=true:=by
  refine (Hh (by rw [length_map,d])).2 fun i f=> ?_
  have a:i<ts.length:=by omega
  rw [getD_eq_getElem?_getD,getElem?_map,getElem?_eq_getElem a]
  show IS (pv ts[i]) _=true
  have e:=g (pv ts[i]) (mem_map_of_mem (getElem_mem a))
  have c:(ts.map (Prod.fst∘pv))[i]? =((F2 ls).map (·.s))[i]? :=by rw [b]
  rw [getElem?_map,getElem?_map,getElem?_eq_getElem a,getElem?_eq_getElem f] at c
  unfold IS
  rw [e,Bool.true_and,decide_eq_true_eq]
  exact Option.some.inj c
 unfold GB
 rw [d,j,decide_eq_true rfl,Bool.true_and,Bool.and_true]
theorem Jd {n:Nat} {b l c:Bs} {a:List PN} {x:PN} {m:Nat} (h:CJ m b=(CJ (n+1) l).map fun q=>(a++q.1,q.2)) (d:EB l=some (x,c)):CJ m b=(CJ n c).map fun q=>(a++[x]++q.1,q.2):=by
 rw [h]
 show ((match EB l with|none=>none|some (x,l)=>(CJ n l).map fun q=>(x::q.1,q.2)):Option _).map _=_
 rw [d]
 simp only [Option.map_map]
 congr 1
 funext q
 simp
theorem Lb {n:Nat} {b l:Bs} {a:List PN} {m:Nat} (h:CJ m b=(CJ (n+1) l).map fun q=>(a++q.1,q.2)) (c:EB l=none):CJ m b=none:=by
 rw [h]
 show ((match EB l with|none=>none|some (x,l)=>(CJ n l).map fun q=>(x::q.1,q.2)):Option _).map _=_
 rw [c];rfl
theorem KQ {c b:List (List Int)} {s:List Int} {d l e:Bs} {a:List PV} {x:PV} (h:EV b d=(EV (s::c) l).map fun q=>(a++q.1,q.2)) (f:Q6 s l=some (x,e)):EV b d=(EV c e).map fun q=>(a++[x]++q.1,q.2):=by
 rw [h]
 show ((match Q6 s l with|none=>none|some (x,l)=>(EV c l).map fun q=>(x::q.1,q.2)):Option _).map _=_
 rw [f]
 simp only [Option.map_map]
 congr 1
 funext q
 simp
theorem OV {d a:List (List Int)} {s:List Int} {c l:Bs} {b:List PV} (h:EV a c=(EV (s::d) l).map fun q=>(b++q.1,q.2)) (e:Q6 s l=none):EV a c=none:=by
 rw [h]
 show ((match Q6 s l with|none=>none|some (x,l)=>(EV d l).map fun q=>(x::q.1,q.2)):Option _).map _=_
 rw [e];rfl
theorem JB {s:List Int} {l:Bs} (h:Shapes.ok s=false∨l.length<4*(Shapes.size s).toNat):Q6 s l=none:=by
 unfold Q6
 refine if_neg fun a=> ?_
 rcases h with h|h
 ·rw [h] at a;cases a.1
 ·omega
theorem Mm {s:List Int} {l:Bs} (h:Shapes.ok s=true) (a:4*(Shapes.size s).toNat≤l.length):Q6 s l=some ((s,nums (l.take (4*(Shapes.size s).toNat))),l.drop (4*(Shapes.size s).toNat)):=if_pos ⟨h,a⟩
end Go.Proofs.YtblbopcaflaldaaGreatDoor

namespace Go.Proofs.YtblbopcaflaldaaGreatDoor
open Go Go.Dd Go.RowKit List Go.Proofs.Tryz
set_option maxRecDepth 100000
abbrev BG:TypeId:=55
abbrev CL (n:Int):Value:=b8 (BitVec.ofInt 8 n)
theorem Kb (n:Int) (w:World) (_hn:0≤n∧n≤4000000):AK prog 169 [.int .i64 n] w (fun r a=>r=CL n∧Below w.heap.size w a):=by
 exact Az (n:=5) func169 rfl<|Ad<|Aa (Ce (show _=some (b8 (0#8)) from rfl)) rfl<|Be<|Ac rfl<|Aa (Dm Hc GM rfl) rfl<|Ab rfl<|Ay<|As rfl rfl<|⟨rfl,Below.refl _ _⟩
theorem MT (n:Int) (w:World) (_hn:0≤n∧n≤4000000):AK prog 184 [CL n, .int .i64 n] w (fun r a=>r= .bool true∧Below w.heap.size w a):=by
 exact Az (n:=9) func184 rfl<|Ad<|Ab rfl<|Be<|Ac rfl<|Ac rfl<|Aa (Dm Hc GM rfl) rfl<|Aa (Ch rfl rfl) rfl<|Ab rfl<|Ay<|As rfl rfl<|⟨cngA Value.bool (by simp),Below.refl _ _⟩
theorem OC (A:Nat) (p:List Value) (u:Value) (hs:List Hd) (lo base:Nat) (w:World) (hA:AP w A BG p) (hu:p[1]? =some u) (Z:w.ownsRow lo 179 3 u hs.length (AS hs)) (m:FB w base 5 1 hs)
  (Q:¬BF hs A) (L:∀b,u.ownBlock=some b→¬BF hs b):
  AK prog 71 [.pointer (some ⟨A,0,none⟩)] w (fun r g=>r= .tuple #[]∧BR (BF hs) w g∧GA g base 5 CL hs):=by
 have hle:=(AF Z).le
 refine Az (n:=35) func71 O<|Ad<|Ab O<|Ak<|An ?_
 refine Bl (S:=Nat) (fun i=>[(0, .pointer (some ⟨A,0,none⟩)),(2, .int .i64 (i:Int))]) (fun i g=>i≤hs.length∧BR (BF hs) w g∧(∀j (f:j<hs.length),j<i→AQ g base 5 1 hs[j].v hs[j].k (BW CL hs[j].k hs[j].n))∧(∀j (f:j<hs.length),i≤j→AQ g base 5 1 hs[j].v hs[j].k hs[j].xs)) (fun i=>hs.length - i) (0) ⟨rfl,rfl,trivial⟩ ?_ ?_
 ·exact ⟨by omega,BR.refl _ _,fun j f h=>by omega,fun j f _=>m.own _ (getElem_mem f)⟩
 rintro i o ⟨hi,C,R,U⟩
 have T:=hA.chg C Q
 have J:=AF (AM Z C L)
 refine Ao<|Ad<|Ac O<|Ac O<|Aa (Ax O) O<|Ba underlying55 O (HH _)<|Aa (Al (Jr _) O T hu) O<|Aa (Ap (sz:=3) Iq O J) O<|Bz O<|Ak<|Aq O ?_ ?_
 ·intro h
  have a:i<hs.length:=by simp at h;omega
  have s:=getElem_mem a
  have hfew:=m.few _ s
  have E:=m.num _ s
  have D:hs[i].g.oneCell' =true:=by rw [m.new _ s];rfl
  have v:=(m.own _ s).len
  have G:∀b,hs[i].v.ownBlock=some b→b<w.heap.size:=fun b e=>(m.blk ⟨_,s,e⟩).2
  refine Bw<|Ao<|An<|Ad<|Ac O<|Aa (Ax O) O<|Ba underlying55 O (HH _)<|Aa (Al (Jr _) O T hu) O<|Ac O<|Aa (Cl Iq O O J i O a) O<|Aa (C8 (cs:=hs[i].cells) (OQ _) (NM _) O J O (by decide) (BT a)) O<|Cz (cs:=hs[i].cells) Ko O O O O (fun _=>rfl) (by simp [Hd.cells,(m.own _ s).sl.one',D,DP]) ?_
  rintro B w2 V l q W
  have K:=C.below q
  have z1:=C.size
  have X:=(U i a (AU _)).bs q
  refine Be<|Ab O<|Ak<|An ?_
  refine Bl (S:=Nat) (fun k=>[(0, .pointer (some ⟨A,0,none⟩)),(2, .int .i64 (i:Int)),(3, .pointer (some ⟨B,0,none⟩)),(4, .int .i64 (k:Int))]) (fun k g=>k≤hs[i].k∧AP g B 179 hs[i].cells∧BR (BF hs) w g∧BR (fun b=>hs[i].v.ownBlock=some b) w2 g∧AQ g base 5 1 hs[i].v hs[i].k (BW CL k hs[i].n++hs[i].xs.drop k)) (fun k=>hs[i].k - k) (0) ⟨rfl,rfl,rfl,rfl,trivial⟩ ?_ ?_
  ·exact ⟨by omega,l,K,BR.refl _ _,by simpa [BW] using X⟩
  clear l X
  rintro k w3 ⟨M,l,F,z,y⟩
  refine Ao<|Ad<|Ac O<|Ba underlying179 O (DG _)<|Aa (Al (DM _) O ‹_› rfl) O ?_
  refine Aa (Ap (sz:=1) AL O y.sl) O<|Bz O<|Ak<|Aq O ?_ ?_
  ·intro h
   have c:k<hs[i].k:=by simp at h;omega
   refine Bw<|Ao<|An<|Cw.tail 7 BB (by kernel_rfl)<|Ah (fun o d=>B8 underlying179 O (DG _)) O<|Ah (fun o d=>Al (DM _) O (AP.bs ‹_› d) O) O ?_
   refine Bq O<|Ah (fun o d=>B8 underlying179 O (BC _)) O<|Ah (fun o d=>Al (AO _) O (AP.bs ‹_› d) O) O ?_
   refine Db O O (fun o d=>(Kb hs[i].n o E).q d)<|Ah (fun o d=>Dn AL O O y.sl.shp k O c) O ?_
   refine D0 (fun w4 d=> ?_)
   refine Bv (Gm (VE _) O O O (y.bs d) (by rw [IL (by simpa using v) M];exact c)) ?_
   rintro w5 ⟨Y,t, -⟩
   rw [HT (by simpa using v) c] at Y
   have b5:=(l.bs d).by t (fun e=>by have:=G _ e.symm;omega)
   refine Bd<|Bg<|B6<|Ac O<|B1 O (by omega)<|Ab O<|Bd ?_
   exact Ar (Bp (k+1) ⟨rfl,rfl,rfl,rfl,trivial⟩ (⟨c,b5,(F.below d).grown t (fun b e=> .inl ⟨_,s,e⟩),(z.below d).grown t (fun b e=> .inl e),Y⟩) (by omega))
  intro h
  have c:k=hs[i].k:=by simp at h;omega
  rw [drop_of_length_le (by omega),append_nil,c] at y
  have hall:BR (fun b=>hs[i].v.ownBlock=some b) o w3:=(BR.of_below q).trans z
  refine Bk<|Aj<|Aj<|A0<|Bg<|B6<|Ac O<|B1 O (by omega)<|Ab O<|Bd ?_
  exact Ar (Bp (i+1) ⟨rfl,rfl,trivial⟩ (⟨a,F,fun j f H=>(if e:j=i then by subst e;exact y else (R j f (by omega)).chg hall fun b N I=>BV m.apart a f (Ne.symm e) b I N),fun j f H=>(U j f (by omega)).chg hall fun b N I=>BV m.apart a f (by omega) b I N⟩) (by omega))
 intro h
 have a:i=hs.length:=by simp at h;omega
 refine Bk<|Aj<|Aj<|A0<|Cu O ?_
 refine ⟨rfl,C,fun x hx=> ?_⟩
 obtain ⟨j,f,rfl⟩:=List.mem_iff_getElem.1 hx
 exact R j f (by omega)
theorem O4 (A:Nat) (D:List Value) (u:Value) (hs:List Hd) (lo base:Nat) (w:World) (hA:AP w A BG D) (hu:D[1]? =some u) (ho:w.ownsRow lo 179 3 u hs.length (AS hs)) (G:KOk hs) (hf:GA w base 5 CL hs)
  (hb1:¬BF hs A) (m:∀b,u.ownBlock=some b→¬BF hs b) (U:u.ownBlock≠some A) (hbase:base≤w.heap.size):
  AK prog 86 [.pointer (some ⟨A,0,none⟩)] w (fun r o=>r= .tuple #[]∧BR (fun b=>BF hs b∨u.ownBlock=some b) w o∧∃ts,DN w hs ts∧o.ownsRow lo 179 3 u hs.length (AS ts)∧∀t ∈ ts,DT o CL t):=by
 have hle:=(AF ho).le
 refine Az (n:=42) func86 O<|Ad<|Ab O<|Ak<|An ?_
 refine Bl (S:=(Nat×List Hd)) (fun s=>[(0, .pointer (some ⟨A,0,none⟩)),(2, .int .i64 (s.1:Int))]) (fun s o=>s.1≤hs.length∧DN w hs s.2∧(∀t ∈ s.2,t.g.oneCell' =true)∧BR (fun b=>BF hs b∨u.ownBlock=some b) w o∧o.ownsRow lo 179 3 u hs.length (AS s.2)∧(∀j (l:j<s.2.length),j<s.1→DT o CL s.2[j])∧(∀j (l:j<hs.length),s.1≤j→AQ o base 5 1 hs[j].v hs[j].k (BW CL hs[j].k hs[j].n))) (fun s=>hs.length - s.1) ((0,hs)) ⟨rfl,rfl,trivial⟩ ?_ ?_
 ·exact ⟨by simp,Ep w G.new,fun t R=>(by rw [G.new t R];rfl),BR.refl _ _,ho,fun j l h=>by simp at h,fun j l _=>hf _ (getElem_mem l)⟩
 rintro ⟨i,ts⟩ w1 ⟨hi,M,h1,N,o1,hd,R⟩
 dsimp only at hi M h1 N o1 hd R ⊢
 have b1:=hA.chg N (fun e=>e.elim hb1 U)
 have s1:=AF o1
 have hlen:=M.len
 refine Ao<|Ad<|Ac O<|Ac O<|Aa (Ax O) O<|Ba underlying55 O (HH _)<|Aa (Al (Jr _) O b1 hu) O<|Aa (Ap (sz:=3) Iq O s1) O<|Bz O<|Ak<|Aq O ?_ ?_
 ·intro h
  have a:i<hs.length:=by simp at h;omega
  have x:i<ts.length:=by omega
  obtain ⟨ev,ek,en,eg⟩:=M.all i a x
  have C:=getElem_mem a
  have hmt:=getElem_mem x
  have hfew:=G.few _ C
  have hnum:=G.num _ C
  have T:=h1 _ hmt
  have X:∀b,hs[i].v.ownBlock=some b→b<w.heap.size:=fun b e=>(hf.blk ⟨_,C,e⟩).2
  refine Bw<|Ao<|An<|Ad<|Ac O<|Aa (Ax O) O<|Ba underlying55 O (HH _)<|Aa (Al (Jr _) O b1 hu) O<|Ac O<|Aa (Cl Iq O O s1 i O a) O<|Aa (C8 (cs:=ts[i].cells) (OQ _) (NM _) O s1 O (by decide) (BT x)) O<|Cz (cs:=ts[i].cells) Ko O O O O (fun _=>rfl) (by simp [Hd.cells,ev,(hf _ C).sl.one',T,DP]) ?_
  rintro K w2 eA_h z L zhn2
  have hc2:=N.below L
  have z1:=N.size
  have z2:=hc2.size
  have r0:=(R i a (AU _)).bs L
  refine Be<|Ba underlying179 O (DG _)<|Aa (Al (DM _) O ‹_› rfl) O ?_
  refine Ab O<|Bi<|Ab O<|Ak<|An<|Em 4 (v' :=hs[i].v) O (ev) ?_
  refine Bl (S:=(Nat×Value)) (fun s=>[(0, .pointer (some ⟨A,0,none⟩)),(2, .int .i64 (i:Int)),(3, .pointer (some ⟨K,0,none⟩)),(4,s.2),(5, .int .i64 (s.1:Int))]) (fun s o=>s.1≤40∧AP o K 179 ts[i].cells∧BR (fun b=>hs[i].v.ownBlock=some b) w2 o∧AQ o base 5 1 s.2 (hs[i].k+s.1) (BW CL (hs[i].k+s.1) hs[i].n)∧(∀b,s.2.ownBlock=some b→hs[i].v.ownBlock=some b∨w2.heap.size≤b)∧Sl o 1 hs[i].v hs[i].k (BW CL hs[i].k hs[i].n)) (fun s=>40 - s.1) ((0,hs[i].v)) ⟨rfl,rfl,rfl,rfl,rfl,trivial⟩ ?_ ?_
  ·exact ⟨by simp,z,BR.refl _ _,r0,fun b e=> .inl e,r0.sl⟩
  clear z
  rintro ⟨k,g⟩ w3 ⟨hk3,z,F,V,p,l3⟩
  dsimp only at hk3 V p ⊢
  have z3:=F.size
  refine Ao<|Ad<|Ac O<|Bz O<|Ak<|Aq O ?_ ?_
  ·intro h
   have E:k<40:=by simp at h;omega
   refine Bw<|Ao<|An<|Bn<|Ac O<|Ba underlying179 O (BC _)<|Aa (Al (AO _) O ‹_› rfl) O ?_
   refine Cm 30 (v' := .int .i64 hs[i].n) O (cngA (Value.int .i64) en)<|Ai O O (Kb hs[i].n w3 hnum) ?_
   rintro _ H ⟨rfl,hn4⟩
   refine Bc (Cv (vs:=[CL hs[i].n]) AL CY O O O O O) O ?_
   rintro nv w5 ⟨o5, -,hn5, -⟩
   have f:=bt hn4 hn5
   have z5:=f.size
   have r5:=V.bs f
   refine Bc (En (base:=base) AL CY O (by decide) O O r5 (AF o5) O (by omega) (by omega) (by omega) (AU _)) O ?_
   rintro g' w6 ⟨r6,I,y⟩
   have l5:=l3.bs f
   have b5:=z.bs f
   have e6:BW CL (hs[i].k+k) hs[i].n++[CL hs[i].n]=BW CL (hs[i].k+(k+1)) hs[i].n:=HU
   rw [e6] at r6
   have hgA:some K≠g.ownBlock:=fun e=>by
    rcases p _ e.symm with c|c
    ·have:=X _ c;omega
    ·omega
   have l6:Sl w6 1 hs[i].v hs[i].k (BW CL hs[i].k hs[i].n):=HX r0 (.inl r6) I y l5 (by omega) (by simp [BW])
   have W:∀b,g'.ownBlock=some b→hs[i].v.ownBlock=some b∨w2.heap.size≤b:=fun b e=>by
    rcases y with c|⟨c, -⟩
    ·rw [c] at e;exact p b e
    ·exact .inr (by have:=c b e;omega)
   refine Ab O<|Bd<|Bg<|B6<|Ac O<|B1 O (by omega)<|Ab O<|Bd ?_
   exact Ar (Bp ((k+1,g')) ⟨rfl,rfl,rfl,rfl,rfl,trivial⟩ (⟨E,b5.by I hgA,(F.below f).grown I p, .inl r6,W,l6⟩) (by simp only;omega))
  intro h
  have E:k=40:=by simp at h;omega
  subst E
  have hall:BR (fun b=>hs[i].v.ownBlock=some b) w1 w3:=(BR.of_below L).trans F
  have Y:BR (fun b=>BF hs b∨u.ownBlock=some b) w w3:=N.trans (hall.mono fun b e=> .inl ⟨_,C,e⟩)
  have b3:=hA.chg Y (fun e=>e.elim hb1 U)
  have o3:=AM o1 hall (fun b v d=>m b v ⟨_,C,d⟩)
  refine Bk<|Aj<|Aj<|A0<|B6<|Ac O<|Aa (Ax O) O<|Ba underlying55 O (HH _)<|Aa (Al (Jr _) O b3 hu) O<|Ac O<|Ac O<|Aa (Cl Iq O O (AF o3) i O a) O<|Aa (C9 underlying179 O (DG _) O (Hq o3 (by omega))) O<|Bv (Et (j:=i*3+1) (DG _) O O V.sl.one' o3 (by rw [FK];omega)) ?_
  rintro H ⟨o4,B, -⟩
  have e4:=FJ x g
  have o4:H.ownsRow lo 179 3 u hs.length (AS (ts.set i {ts[i] with g:=g})):=by rw [← e4];exact o4
  have hG4:=M.set a x (g:=g) (fun b e=>by
   rcases p b e with c|c
   ·exact .inl c
   ·exact .inr (by omega))
  have q:BR (fun b=>hs[i].v.ownBlock=some b∨u.ownBlock=some b) w1 H:=(hall.mono fun b e=> .inl e).grown B (fun b e=> .inl (.inr e))
  have hS4:BR (fun b=>BF hs b∨u.ownBlock=some b) w H:=Y.grown B (fun b e=> .inl (.inr e))
  have t4:DT H CL {ts[i] with g:=g}:=by
   refine ⟨?_, ?_⟩
   ·simp only;rw [ev,ek,en]
    refine l3.by B ?_
    cases hv:hs[i].v.ownBlock with
    |none=>exact .inl rfl
    |some b=>exact .inr fun e=>m b e.symm ⟨_,C,hv⟩
   ·simp only;rw [ek,en]
    refine V.sl.by B ?_
    cases hv:g.ownBlock with
    |none=>exact .inl rfl
    |some b=>
     refine .inr fun e=> ?_
     rcases p b hv with c|c
     ·exact m b e.symm ⟨_,C,c⟩
     ·have:=(AB ho b e.symm).2;omega
  have h14:∀t ∈ ts.set i {ts[i] with g:=g},t.g.oneCell' =true:=fun t J=>by
   rcases mem_or_eq_of_mem_set J with c|c
   ·exact h1 t c
   ·rw [c];exact V.sl.one'
  have hd4:∀j (l:j<(ts.set i {ts[i] with g:=g}).length),j<i+1→DT H CL (ts.set i {ts[i] with g:=g})[j]:=fun j l hji=>by
    rw [getElem_set]
    split
    ·exact t4
    ·rename_i Q
     have Z:j<ts.length:=by simpa using l
     obtain ⟨fv,_,_,fg⟩:=M.all j (by omega) Z
     refine (hd j Z (by omega)).chg q (fun b v _ d=> ?_) (fun b v _ d=> ?_)
     ·rw [fv] at v
      rcases d with d|d
      ·exact BV G.apart a (show j<hs.length by omega) Q b d v
      ·exact m b d ⟨_,getElem_mem _,v⟩
     ·rcases d with d|d
      ·rcases fg b v with c|c
       ·exact BV G.apart a (show j<hs.length by omega) Q b d c
       ·have:=X b d;omega
      ·rcases fg b v with c|c
       ·exact m b d ⟨_,getElem_mem _,c⟩
       ·have:=(AB ho b d).2;omega
  have ht4:∀j (l:j<hs.length),i+1≤j→AQ H base 5 1 hs[j].v hs[j].k (BW CL hs[j].k hs[j].n):=fun j l hji=>(R j l (by omega)).chg q (fun b v d=>(by
    rcases d with d|d
    ·exact BV G.apart a l (by omega) b d v
    ·exact m b d ⟨_,getElem_mem _,v⟩))
  refine Bd<|Bg<|B6<|Ac O<|B1 O (by omega)<|Ab O<|Bd ?_
  exact Ar (Bp ((i+1,ts.set i {ts[i] with g:=g})) ⟨rfl,rfl,trivial⟩ (⟨a,hG4,h14,hS4,o4,hd4,ht4⟩) (by simp only;omega))
 intro h
 have a:i=hs.length:=by simp at h;omega
 refine Bk<|Aj<|Aj<|A0<|Cu O ?_
 refine ⟨rfl,N,ts,M,o1,fun t J=> ?_⟩
 obtain ⟨j,l,rfl⟩:=List.mem_iff_getElem.1 J
 exact hd j l (by omega)
theorem Oh (A:Nat) (j:List Value) (u:Value) (ts:List Hd) (U:Nat) (w:World) (N:AP w A BG j) (H:j[1]? =some u) (G:w.ownsRow U 179 3 u ts.length (AS ts)) (M:∀t ∈ ts,DT w CL t) (R:∀t ∈ ts,(0≤t.n∧t.n≤4000000)∧t.k≤16777216):
  AK prog 101 [.pointer (some ⟨A,0,none⟩)] w (fun r o=>r= .bool true∧Below w.heap.size w o):=by
 have T:=(AF G).le
 refine Az (n:=64) func101 O<|Ad<|Ab O<|Bi<|Ab O<|Ak<|An ?_
 refine Bl (S:=Nat) (fun i=>[(0, .pointer (some ⟨A,0,none⟩)),(2, .bool false),(3, .int .i64 (i:Int))]) (fun i o=>i≤ts.length∧Below w.heap.size w o) (fun i=>ts.length - i) (0) ⟨rfl,rfl,rfl,trivial⟩ ?_ ?_
 ·exact ⟨by omega,Below.refl _ _⟩
 rintro i b ⟨X,f⟩
 have C:=N.bs f
 have y:=(AF G).bs f
 refine Ao<|Ad<|Ac O<|Ac O<|Aa (Ax O) O<|Ba underlying55 O (HH _)<|Aa (Al (Jr _) O C H) O<|Aa (Ap (sz:=3) Iq O y) O<|Bz O<|Ak<|Aq O ?_ ?_
 ·intro h
  have e:i<ts.length:=by simp at h;omega
  have I:=getElem_mem e
  obtain ⟨l,J⟩:=R _ I
  have q:=M _ I
  refine Bw<|Ao<|An<|Ad<|Ac O<|Aa (Ax O) O<|Ba underlying55 O (HH _)<|Aa (Al (Jr _) O C H) O<|Ac O<|Aa (Cl Iq O O y i O e) O<|Aa (C8 (cs:=ts[i].cells) (OQ _) (NM _) O y O (by decide) (BT e)) O<|Cz (cs:=ts[i].cells) Ko O O O O (fun _=>rfl) (by simp [Hd.cells,q.l.one',q.g.one',DP]) ?_
  rintro v K D s z F
  have m:=bt f z
  have l2:=q.l.bs m
  have E:=q.g.bs m
  refine Bi<|Ba underlying179 O (DG _)<|Aa (Al (DM _) O ‹_› rfl) O ?_
  refine Aa (Ap (sz:=1) AL O E) O<|Ba underlying179 O (DG _)<|Aa (Al (DM _) O ‹_› rfl) O ?_
  refine Aa (Ap (sz:=1) AL O l2) O<|B1 O (by omega)<|Aa (Ct O O) O<|Ak<|Bu O false (by simp)<|Cs<|Ab O<|Ak<|An ?_
  refine Bl (S:=Nat) (fun k=>[(0, .pointer (some ⟨A,0,none⟩)),(2, .bool false),(3, .int .i64 (i:Int)),(4, .pointer (some ⟨v,0,none⟩)),(5, .int .i64 (k:Int))]) (fun k o=>k≤ts[i].k+40∧Below K.heap.size K o) (fun k=>ts[i].k+40 - k) (0) ⟨rfl,rfl,rfl,rfl,rfl,trivial⟩ ?_ ?_
  ·exact ⟨by omega,Below.refl _ _⟩
  rintro k V ⟨Q,c⟩
  have x:=l2.bs c
  have B:=E.bs c
  have W:=s.bs c
  refine Ao<|Ad<|Ac O<|Ba underlying179 O (DG _)<|Aa (Al (DM _) O ‹_› rfl) O ?_
  refine Aa (Ap (sz:=1) AL O B) O<|Bz O<|Ak<|Aq O ?_ ?_
  ·intro h
   have d:k<ts[i].k+40:=by simp at h;omega
   refine Bw<|Ao<|An<|Ao<|Da BB (by kernel_rfl)<|Ah (fun b a=>B8 underlying179 O (DG _)) O<|Ah (fun b a=>Al (DM _) O (AP.bs ‹_› a) O) O ?_
   refine Bq O<|Ah (fun b a=>Dn AL O O B.shp k O d) O<|Ah (fun b a=>Ea (u:=CL ts[i].n) (Hf _) O (B.bs a) (G3 d)) O<|Ah (fun b a=>B8 underlying179 O (BC _)) O<|Ah (fun b a=>Al (AO _) O (AP.bs ‹_› a) O) O ?_
   refine Db O O (fun b a=>(MT ts[i].n b l).q a)<|Ah (fun b a=>Co O) O<|Bq O<|Ew 46 (v' := .bool false) O (cngA Value.bool (rfl))<|Bb (dj:=46) O O<|Bq O<|Bb (dj:=46) O O<|Ah (fun b a=>B8 underlying179 O (DG _)) O<|Bb (dj:=46) O O<|Ah (fun b a=>Al (DM _) O (AP.bs ‹_› a) O) O ?_
   refine Bb (dj:=46) O O<|Ah (fun b a=>Ap (sz:=1) AL O (x.bs a)) O<|Bb (dj:=46) O O<|Ah (fun b a=>Er O O) O<|Bb (dj:=46) O O<|Bq O ?_
   refine Dj 52 O ?_ ?_
   ·intro g
    have p:k<ts[i].k:=by simpa using g
    refine Bb (dj:=52) O O<|Ah (fun b a=>B8 underlying179 O (DG _)) O<|Bb (dj:=52) O O<|Ah (fun b a=>Al (DM _) O (AP.bs ‹_› a) O) O ?_
    refine Bb (dj:=52) O O<|Bq O<|Bb (dj:=52) O O<|Ah (fun b a=>Dn AL O O x.shp k O p) O<|Bb (dj:=52) O O<|Ah (fun b a=>Ea (u:=CL ts[i].n) (Hf _) O (x.bs a) (G3 p)) O<|Bb (dj:=52) O O<|Ah (fun b a=>B8 underlying179 O (BC _)) O<|Bb (dj:=52) O O<|Ah (fun b a=>Al (AO _) O (AP.bs ‹_› a) O) O ?_
    refine Bb (dj:=52) O O<|Db O O (fun b a=>(MT ts[i].n b l).q a)<|Bb (dj:=52) O O<|Ah (fun b a=>Co O) O<|Bb (dj:=46) O O<|Ah (fun b a=>C3 O O) O<|Ah (fun b a=>C0 O O) O ?_
    refine C2 (fun L a=> ?_)
    refine Ar<|B9<|Bu O false (rfl)<|Cj<|Bg<|B6<|Ac O<|B1 O (by omega)<|Ab O<|Bd ?_
    exact Ar (Bp (k+1) ⟨rfl,rfl,rfl,rfl,rfl,trivial⟩ (⟨d,bt c a⟩) (by omega))
   ·intro g
    refine Au (dj:=52) O O O O<|Au (dj:=52) O O O O<|Au (dj:=52) O O O O<|Au (dj:=52) O O O O<|Au (dj:=52) O O O O<|Au (dj:=52) O O O O<|Au (dj:=52) O O O O<|Au (dj:=52) O O O O<|Au (dj:=52) O O O O<|Bb (dj:=46) O O<|Ah (fun b a=>C0 O O) O<|Ah (fun b a=>C0 O O) O ?_
    refine C2 (fun L a=> ?_)
    refine Ar<|B9<|D5 O<|Cj<|Bg<|B6<|Ac O<|B1 O (by omega)<|Ab O<|Bd ?_
    exact Ar (Bp (k+1) ⟨rfl,rfl,rfl,rfl,rfl,trivial⟩ (⟨d,bt c a⟩) (by omega))
  intro h
  refine Bk<|Aj<|Aj<|A0<|Bg<|B6<|Ac O<|B1 O (by omega)<|Ab O<|Bd ?_
  exact Ar (Bp (i+1) ⟨rfl,rfl,rfl,trivial⟩ (⟨e,bt m c⟩) (by omega))
 intro h
 exact Bk<|Aj<|Aj<|A0<|Cb<|Ab rfl<|Ay<|As rfl rfl<|⟨rfl,f⟩
abbrev DH (n:Int):Value:= .int .i64 (-n)
theorem Le (n:Int) (w:World) (_hn:0≤n∧n≤4000000):AK prog 170 [.int .i64 n] w (fun r a=>r=DH n∧Below w.heap.size w a):=by
 refine Az (n:=5) func170 O<|Ad<|Ab O<|Be<|Ac O<|Aa (Es O (by omega)) O<|Ab O<|Ay<|As O O ?_
 exact ⟨rfl,Below.refl _ _⟩
theorem Pl (n:Int) (w:World) (_hn:0≤n∧n≤4000000):AK prog 185 [DH n, .int .i64 n] w (fun r a=>r= .bool true∧Below w.heap.size w a):=by
 refine Az (n:=9) func185 O<|Ad<|Ab O<|Be<|Ac O<|Ac O<|Aa (Es O (by omega)) O<|Aa (C6 O O) O<|Ab O<|Ay<|As O O ?_
 exact ⟨cngA Value.bool (by simp),Below.refl _ _⟩
theorem Qu (A:Nat) (p:List Value) (u:Value) (hs:List Hd) (lo base:Nat) (w:World) (hA:AP w A BG p) (hu:p[2]? =some u) (Z:w.ownsRow lo 182 3 u hs.length (AS hs)) (m:FB w base 3 1 hs)
  (Q:¬BF hs A) (L:∀b,u.ownBlock=some b→¬BF hs b):
  AK prog 72 [.pointer (some ⟨A,0,none⟩)] w (fun r g=>r= .tuple #[]∧BR (BF hs) w g∧GA g base 3 DH hs):=by
 have hle:=(AF Z).le
 refine Az (n:=35) func72 O<|Ad<|Ab O<|Ak<|An ?_
 refine Bl (S:=Nat) (fun i=>[(0, .pointer (some ⟨A,0,none⟩)),(2, .int .i64 (i:Int))]) (fun i g=>i≤hs.length∧BR (BF hs) w g∧(∀j (f:j<hs.length),j<i→AQ g base 3 1 hs[j].v hs[j].k (BW DH hs[j].k hs[j].n))∧(∀j (f:j<hs.length),i≤j→AQ g base 3 1 hs[j].v hs[j].k hs[j].xs)) (fun i=>hs.length - i) (0) ⟨rfl,rfl,trivial⟩ ?_ ?_
 ·exact ⟨by omega,BR.refl _ _,fun j f h=>by omega,fun j f _=>m.own _ (getElem_mem f)⟩
 rintro i o ⟨hi,C,R,U⟩
 have T:=hA.chg C Q
 have J:=AF (AM Z C L)
 refine Ao<|Ad<|Ac O<|Ac O<|Aa (Ax O) O<|Ba underlying55 O (HG _)<|Aa (Al (Jq _) O T hu) O<|Aa (Ap (sz:=3) Ip O J) O<|Bz O<|Ak<|Aq O ?_ ?_
 ·intro h
  have a:i<hs.length:=by simp at h;omega
  have s:=getElem_mem a
  have hfew:=m.few _ s
  have E:=m.num _ s
  have D:hs[i].g.oneCell' =true:=by rw [m.new _ s];rfl
  have v:=(m.own _ s).len
  have G:∀b,hs[i].v.ownBlock=some b→b<w.heap.size:=fun b e=>(m.blk ⟨_,s,e⟩).2
  refine Bw<|Ao<|An<|Ad<|Ac O<|Aa (Ax O) O<|Ba underlying55 O (HG _)<|Aa (Al (Jq _) O T hu) O<|Ac O<|Aa (Cl Ip O O J i O a) O<|Aa (C8 (cs:=hs[i].cells) (OP _) (NL _) O J O (by decide) (BT a)) O<|Cz (cs:=hs[i].cells) Kn O O O O (fun _=>rfl) (by simp [Hd.cells,(m.own _ s).sl.one',D,DP]) ?_
  rintro B w2 V l q W
  have K:=C.below q
  have z1:=C.size
  have X:=(U i a (AU _)).bs q
  refine Be<|Ab O<|Ak<|An ?_
  refine Bl (S:=Nat) (fun k=>[(0, .pointer (some ⟨A,0,none⟩)),(2, .int .i64 (i:Int)),(3, .pointer (some ⟨B,0,none⟩)),(4, .int .i64 (k:Int))]) (fun k g=>k≤hs[i].k∧AP g B 182 hs[i].cells∧BR (BF hs) w g∧BR (fun b=>hs[i].v.ownBlock=some b) w2 g∧AQ g base 3 1 hs[i].v hs[i].k (BW DH k hs[i].n++hs[i].xs.drop k)) (fun k=>hs[i].k - k) (0) ⟨rfl,rfl,rfl,rfl,trivial⟩ ?_ ?_
  ·exact ⟨by omega,l,K,BR.refl _ _,by simpa [BW] using X⟩
  clear l X
  rintro k w3 ⟨M,l,F,z,y⟩
  refine Ao<|Ad<|Ac O<|Ba underlying182 O (AT _)<|Aa (Al (AN _) O ‹_› rfl) O ?_
  refine Aa (Ap (sz:=1) AE O y.sl) O<|Bz O<|Ak<|Aq O ?_ ?_
  ·intro h
   have c:k<hs[i].k:=by simp at h;omega
   refine Bw<|Ao<|An<|Cw.tail 7 BB (by kernel_rfl)<|Ah (fun o d=>B8 underlying182 O (AT _)) O<|Ah (fun o d=>Al (AN _) O (AP.bs ‹_› d) O) O ?_
   refine Bq O<|Ah (fun o d=>B8 underlying182 O (BC _)) O<|Ah (fun o d=>Al (AO _) O (AP.bs ‹_› d) O) O ?_
   refine Db O O (fun o d=>(Le hs[i].n o E).q d)<|Ah (fun o d=>Dn AE O O y.sl.shp k O c) O ?_
   refine D0 (fun w4 d=> ?_)
   refine Bv (Gm (BC _) O O O (y.bs d) (by rw [IL (by simpa using v) M];exact c)) ?_
   rintro w5 ⟨Y,t, -⟩
   rw [HT (by simpa using v) c] at Y
   have b5:=(l.bs d).by t (fun e=>by have:=G _ e.symm;omega)
   refine Bd<|Bg<|B6<|Ac O<|B1 O (by omega)<|Ab O<|Bd ?_
   exact Ar (Bp (k+1) ⟨rfl,rfl,rfl,rfl,trivial⟩ (⟨c,b5,(F.below d).grown t (fun b e=> .inl ⟨_,s,e⟩),(z.below d).grown t (fun b e=> .inl e),Y⟩) (by omega))
  intro h
  have c:k=hs[i].k:=by simp at h;omega
  rw [drop_of_length_le (by omega),append_nil,c] at y
  have hall:BR (fun b=>hs[i].v.ownBlock=some b) o w3:=(BR.of_below q).trans z
  refine Bk<|Aj<|Aj<|A0<|Bg<|B6<|Ac O<|B1 O (by omega)<|Ab O<|Bd ?_
  exact Ar (Bp (i+1) ⟨rfl,rfl,trivial⟩ (⟨a,F,fun j f H=>(if e:j=i then by subst e;exact y else (R j f (by omega)).chg hall fun b N I=>BV m.apart a f (Ne.symm e) b I N),fun j f H=>(U j f (by omega)).chg hall fun b N I=>BV m.apart a f (by omega) b I N⟩) (by omega))
 intro h
 have a:i=hs.length:=by simp at h;omega
 refine Bk<|Aj<|Aj<|A0<|Cu O ?_
 refine ⟨rfl,C,fun x hx=> ?_⟩
 obtain ⟨j,f,rfl⟩:=List.mem_iff_getElem.1 hx
 exact R j f (by omega)
theorem Qn (A:Nat) (D:List Value) (u:Value) (hs:List Hd) (lo base:Nat) (w:World) (hA:AP w A BG D) (hu:D[2]? =some u) (ho:w.ownsRow lo 182 3 u hs.length (AS hs)) (G:KOk hs) (hf:GA w base 3 DH hs)
  (hb1:¬BF hs A) (m:∀b,u.ownBlock=some b→¬BF hs b) (U:u.ownBlock≠some A) (hbase:base≤w.heap.size):
  AK prog 87 [.pointer (some ⟨A,0,none⟩)] w (fun r o=>r= .tuple #[]∧BR (fun b=>BF hs b∨u.ownBlock=some b) w o∧∃ts,DN w hs ts∧o.ownsRow lo 182 3 u hs.length (AS ts)∧∀t ∈ ts,DT o DH t):=by
 have hle:=(AF ho).le
 refine Az (n:=42) func87 O<|Ad<|Ab O<|Ak<|An ?_
 refine Bl (S:=(Nat×List Hd)) (fun s=>[(0, .pointer (some ⟨A,0,none⟩)),(2, .int .i64 (s.1:Int))]) (fun s o=>s.1≤hs.length∧DN w hs s.2∧(∀t ∈ s.2,t.g.oneCell' =true)∧BR (fun b=>BF hs b∨u.ownBlock=some b) w o∧o.ownsRow lo 182 3 u hs.length (AS s.2)∧(∀j (l:j<s.2.length),j<s.1→DT o DH s.2[j])∧(∀j (l:j<hs.length),s.1≤j→AQ o base 3 1 hs[j].v hs[j].k (BW DH hs[j].k hs[j].n))) (fun s=>hs.length - s.1) ((0,hs)) ⟨rfl,rfl,trivial⟩ ?_ ?_
 ·exact ⟨by simp,Ep w G.new,fun t R=>(by rw [G.new t R];rfl),BR.refl _ _,ho,fun j l h=>by simp at h,fun j l _=>hf _ (getElem_mem l)⟩
 rintro ⟨i,ts⟩ w1 ⟨hi,M,h1,N,o1,hd,R⟩
 dsimp only at hi M h1 N o1 hd R ⊢
 have b1:=hA.chg N (fun e=>e.elim hb1 U)
 have s1:=AF o1
 have hlen:=M.len
 refine Ao<|Ad<|Ac O<|Ac O<|Aa (Ax O) O<|Ba underlying55 O (HG _)<|Aa (Al (Jq _) O b1 hu) O<|Aa (Ap (sz:=3) Ip O s1) O<|Bz O<|Ak<|Aq O ?_ ?_
 ·intro h
  have a:i<hs.length:=by simp at h;omega
  have x:i<ts.length:=by omega
  obtain ⟨ev,ek,en,eg⟩:=M.all i a x
  have C:=getElem_mem a
  have hmt:=getElem_mem x
  have hfew:=G.few _ C
  have hnum:=G.num _ C
  have T:=h1 _ hmt
  have X:∀b,hs[i].v.ownBlock=some b→b<w.heap.size:=fun b e=>(hf.blk ⟨_,C,e⟩).2
  refine Bw<|Ao<|An<|Ad<|Ac O<|Aa (Ax O) O<|Ba underlying55 O (HG _)<|Aa (Al (Jq _) O b1 hu) O<|Ac O<|Aa (Cl Ip O O s1 i O a) O<|Aa (C8 (cs:=ts[i].cells) (OP _) (NL _) O s1 O (by decide) (BT x)) O<|Cz (cs:=ts[i].cells) Kn O O O O (fun _=>rfl) (by simp [Hd.cells,ev,(hf _ C).sl.one',T,DP]) ?_
  rintro K w2 eA_h z L zhn2
  have hc2:=N.below L
  have z1:=N.size
  have z2:=hc2.size
  have r0:=(R i a (AU _)).bs L
  refine Be<|Ba underlying182 O (AT _)<|Aa (Al (AN _) O ‹_› rfl) O ?_
  refine Ab O<|Bi<|Ab O<|Ak<|An<|Em 4 (v' :=hs[i].v) O (ev) ?_
  refine Bl (S:=(Nat×Value)) (fun s=>[(0, .pointer (some ⟨A,0,none⟩)),(2, .int .i64 (i:Int)),(3, .pointer (some ⟨K,0,none⟩)),(4,s.2),(5, .int .i64 (s.1:Int))]) (fun s o=>s.1≤40∧AP o K 182 ts[i].cells∧BR (fun b=>hs[i].v.ownBlock=some b) w2 o∧AQ o base 3 1 s.2 (hs[i].k+s.1) (BW DH (hs[i].k+s.1) hs[i].n)∧(∀b,s.2.ownBlock=some b→hs[i].v.ownBlock=some b∨w2.heap.size≤b)∧Sl o 1 hs[i].v hs[i].k (BW DH hs[i].k hs[i].n)) (fun s=>40 - s.1) ((0,hs[i].v)) ⟨rfl,rfl,rfl,rfl,rfl,trivial⟩ ?_ ?_
  ·exact ⟨by simp,z,BR.refl _ _,r0,fun b e=> .inl e,r0.sl⟩
  clear z
  rintro ⟨k,g⟩ w3 ⟨hk3,z,F,V,p,l3⟩
  dsimp only at hk3 V p ⊢
  have z3:=F.size
  refine Ao<|Ad<|Ac O<|Bz O<|Ak<|Aq O ?_ ?_
  ·intro h
   have E:k<40:=by simp at h;omega
   refine Bw<|Ao<|An<|Bn<|Ac O<|Ba underlying182 O (BC _)<|Aa (Al (AO _) O ‹_› rfl) O ?_
   refine Cm 30 (v' := .int .i64 hs[i].n) O (cngA (Value.int .i64) en)<|Ai O O (Le hs[i].n w3 hnum) ?_
   rintro _ H ⟨rfl,hn4⟩
   refine Bc (Cv (vs:=[DH hs[i].n]) AE DO O O O O O) O ?_
   rintro nv w5 ⟨o5, -,hn5, -⟩
   have f:=bt hn4 hn5
   have z5:=f.size
   have r5:=V.bs f
   refine Bc (En (base:=base) AE DO O (by decide) O O r5 (AF o5) O (by omega) (by omega) (by omega) (AU _)) O ?_
   rintro g' w6 ⟨r6,I,y⟩
   have l5:=l3.bs f
   have b5:=z.bs f
   have e6:BW DH (hs[i].k+k) hs[i].n++[DH hs[i].n]=BW DH (hs[i].k+(k+1)) hs[i].n:=HU
   rw [e6] at r6
   have hgA:some K≠g.ownBlock:=fun e=>by
    rcases p _ e.symm with c|c
    ·have:=X _ c;omega
    ·omega
   have l6:Sl w6 1 hs[i].v hs[i].k (BW DH hs[i].k hs[i].n):=HX r0 (.inl r6) I y l5 (by omega) (by simp [BW])
   have W:∀b,g'.ownBlock=some b→hs[i].v.ownBlock=some b∨w2.heap.size≤b:=fun b e=>by
    rcases y with c|⟨c, -⟩
    ·rw [c] at e;exact p b e
    ·exact .inr (by have:=c b e;omega)
   refine Ab O<|Bd<|Bg<|B6<|Ac O<|B1 O (by omega)<|Ab O<|Bd ?_
   exact Ar (Bp ((k+1,g')) ⟨rfl,rfl,rfl,rfl,rfl,trivial⟩ (⟨E,b5.by I hgA,(F.below f).grown I p, .inl r6,W,l6⟩) (by simp only;omega))
  intro h
  have E:k=40:=by simp at h;omega
  subst E
  have hall:BR (fun b=>hs[i].v.ownBlock=some b) w1 w3:=(BR.of_below L).trans F
  have Y:BR (fun b=>BF hs b∨u.ownBlock=some b) w w3:=N.trans (hall.mono fun b e=> .inl ⟨_,C,e⟩)
  have b3:=hA.chg Y (fun e=>e.elim hb1 U)
  have o3:=AM o1 hall (fun b v d=>m b v ⟨_,C,d⟩)
  refine Bk<|Aj<|Aj<|A0<|B6<|Ac O<|Aa (Ax O) O<|Ba underlying55 O (HG _)<|Aa (Al (Jq _) O b3 hu) O<|Ac O<|Ac O<|Aa (Cl Ip O O (AF o3) i O a) O<|Aa (C9 underlying182 O (AT _) O (Hq o3 (by omega))) O<|Bv (Et (j:=i*3+1) (AT _) O O V.sl.one' o3 (by rw [FK];omega)) ?_
  rintro H ⟨o4,B, -⟩
  have e4:=FJ x g
  have o4:H.ownsRow lo 182 3 u hs.length (AS (ts.set i {ts[i] with g:=g})):=by rw [← e4];exact o4
  have hG4:=M.set a x (g:=g) (fun b e=>by
   rcases p b e with c|c
   ·exact .inl c
   ·exact .inr (by omega))
  have q:BR (fun b=>hs[i].v.ownBlock=some b∨u.ownBlock=some b) w1 H:=(hall.mono fun b e=> .inl e).grown B (fun b e=> .inl (.inr e))
  have hS4:BR (fun b=>BF hs b∨u.ownBlock=some b) w H:=Y.grown B (fun b e=> .inl (.inr e))
  have t4:DT H DH {ts[i] with g:=g}:=by
   refine ⟨?_, ?_⟩
   ·simp only;rw [ev,ek,en]
    refine l3.by B ?_
    cases hv:hs[i].v.ownBlock with
    |none=>exact .inl rfl
    |some b=>exact .inr fun e=>m b e.symm ⟨_,C,hv⟩
   ·simp only;rw [ek,en]
    refine V.sl.by B ?_
    cases hv:g.ownBlock with
    |none=>exact .inl rfl
    |some b=>
     refine .inr fun e=> ?_
     rcases p b hv with c|c
     ·exact m b e.symm ⟨_,C,c⟩
     ·have:=(AB ho b e.symm).2;omega
  have h14:∀t ∈ ts.set i {ts[i] with g:=g},t.g.oneCell' =true:=fun t J=>by
   rcases mem_or_eq_of_mem_set J with c|c
   ·exact h1 t c
   ·rw [c];exact V.sl.one'
  have hd4:∀j (l:j<(ts.set i {ts[i] with g:=g}).length),j<i+1→DT H DH (ts.set i {ts[i] with g:=g})[j]:=fun j l hji=>by
    rw [getElem_set]
    split
    ·exact t4
    ·rename_i Q
     have Z:j<ts.length:=by simpa using l
     obtain ⟨fv,_,_,fg⟩:=M.all j (by omega) Z
     refine (hd j Z (by omega)).chg q (fun b v _ d=> ?_) (fun b v _ d=> ?_)
     ·rw [fv] at v
      rcases d with d|d
      ·exact BV G.apart a (show j<hs.length by omega) Q b d v
      ·exact m b d ⟨_,getElem_mem _,v⟩
     ·rcases d with d|d
      ·rcases fg b v with c|c
       ·exact BV G.apart a (show j<hs.length by omega) Q b d c
       ·have:=X b d;omega
      ·rcases fg b v with c|c
       ·exact m b d ⟨_,getElem_mem _,c⟩
       ·have:=(AB ho b d).2;omega
  have ht4:∀j (l:j<hs.length),i+1≤j→AQ H base 3 1 hs[j].v hs[j].k (BW DH hs[j].k hs[j].n):=fun j l hji=>(R j l (by omega)).chg q (fun b v d=>(by
    rcases d with d|d
    ·exact BV G.apart a l (by omega) b d v
    ·exact m b d ⟨_,getElem_mem _,v⟩))
  refine Bd<|Bg<|B6<|Ac O<|B1 O (by omega)<|Ab O<|Bd ?_
  exact Ar (Bp ((i+1,ts.set i {ts[i] with g:=g})) ⟨rfl,rfl,trivial⟩ (⟨a,hG4,h14,hS4,o4,hd4,ht4⟩) (by simp only;omega))
 intro h
 have a:i=hs.length:=by simp at h;omega
 refine Bk<|Aj<|Aj<|A0<|Cu O ?_
 refine ⟨rfl,N,ts,M,o1,fun t J=> ?_⟩
 obtain ⟨j,l,rfl⟩:=List.mem_iff_getElem.1 J
 exact hd j l (by omega)
theorem PZ (A:Nat) (j:List Value) (u:Value) (ts:List Hd) (U:Nat) (w:World) (N:AP w A BG j) (H:j[2]? =some u) (G:w.ownsRow U 182 3 u ts.length (AS ts)) (M:∀t ∈ ts,DT w DH t) (R:∀t ∈ ts,(0≤t.n∧t.n≤4000000)∧t.k≤16777216):
  AK prog 102 [.pointer (some ⟨A,0,none⟩)] w (fun r o=>r= .bool true∧Below w.heap.size w o):=by
 have T:=(AF G).le
 refine Az (n:=64) func102 O<|Ad<|Ab O<|Bi<|Ab O<|Ak<|An ?_
 refine Bl (S:=Nat) (fun i=>[(0, .pointer (some ⟨A,0,none⟩)),(2, .bool false),(3, .int .i64 (i:Int))]) (fun i o=>i≤ts.length∧Below w.heap.size w o) (fun i=>ts.length - i) (0) ⟨rfl,rfl,rfl,trivial⟩ ?_ ?_
 ·exact ⟨by omega,Below.refl _ _⟩
 rintro i b ⟨X,f⟩
 have C:=N.bs f
 have y:=(AF G).bs f
 refine Ao<|Ad<|Ac O<|Ac O<|Aa (Ax O) O<|Ba underlying55 O (HG _)<|Aa (Al (Jq _) O C H) O<|Aa (Ap (sz:=3) Ip O y) O<|Bz O<|Ak<|Aq O ?_ ?_
 ·intro h
  have e:i<ts.length:=by simp at h;omega
  have I:=getElem_mem e
  obtain ⟨l,J⟩:=R _ I
  have q:=M _ I
  refine Bw<|Ao<|An<|Ad<|Ac O<|Aa (Ax O) O<|Ba underlying55 O (HG _)<|Aa (Al (Jq _) O C H) O<|Ac O<|Aa (Cl Ip O O y i O e) O<|Aa (C8 (cs:=ts[i].cells) (OP _) (NL _) O y O (by decide) (BT e)) O<|Cz (cs:=ts[i].cells) Kn O O O O (fun _=>rfl) (by simp [Hd.cells,q.l.one',q.g.one',DP]) ?_
  rintro v K D s z F
  have m:=bt f z
  have l2:=q.l.bs m
  have E:=q.g.bs m
  refine Bi<|Ba underlying182 O (AT _)<|Aa (Al (AN _) O ‹_› rfl) O ?_
  refine Aa (Ap (sz:=1) AE O E) O<|Ba underlying182 O (AT _)<|Aa (Al (AN _) O ‹_› rfl) O ?_
  refine Aa (Ap (sz:=1) AE O l2) O<|B1 O (by omega)<|Aa (Ct O O) O<|Ak<|Bu O false (by simp)<|Cs<|Ab O<|Ak<|An ?_
  refine Bl (S:=Nat) (fun k=>[(0, .pointer (some ⟨A,0,none⟩)),(2, .bool false),(3, .int .i64 (i:Int)),(4, .pointer (some ⟨v,0,none⟩)),(5, .int .i64 (k:Int))]) (fun k o=>k≤ts[i].k+40∧Below K.heap.size K o) (fun k=>ts[i].k+40 - k) (0) ⟨rfl,rfl,rfl,rfl,rfl,trivial⟩ ?_ ?_
  ·exact ⟨by omega,Below.refl _ _⟩
  rintro k V ⟨Q,c⟩
  have x:=l2.bs c
  have B:=E.bs c
  have W:=s.bs c
  refine Ao<|Ad<|Ac O<|Ba underlying182 O (AT _)<|Aa (Al (AN _) O ‹_› rfl) O ?_
  refine Aa (Ap (sz:=1) AE O B) O<|Bz O<|Ak<|Aq O ?_ ?_
  ·intro h
   have d:k<ts[i].k+40:=by simp at h;omega
   refine Bw<|Ao<|An<|Ao<|Da BB (by kernel_rfl)<|Ah (fun b a=>B8 underlying182 O (AT _)) O<|Ah (fun b a=>Al (AN _) O (AP.bs ‹_› a) O) O ?_
   refine Bq O<|Ah (fun b a=>Dn AE O O B.shp k O d) O<|Ah (fun b a=>Ea (u:=DH ts[i].n) (AO _) O (B.bs a) (G3 d)) O<|Ah (fun b a=>B8 underlying182 O (BC _)) O<|Ah (fun b a=>Al (AO _) O (AP.bs ‹_› a) O) O ?_
   refine Db O O (fun b a=>(Pl ts[i].n b l).q a)<|Ah (fun b a=>Co O) O<|Bq O<|Ew 46 (v' := .bool false) O (cngA Value.bool (rfl))<|Bb (dj:=46) O O<|Bq O<|Bb (dj:=46) O O<|Ah (fun b a=>B8 underlying182 O (AT _)) O<|Bb (dj:=46) O O<|Ah (fun b a=>Al (AN _) O (AP.bs ‹_› a) O) O ?_
   refine Bb (dj:=46) O O<|Ah (fun b a=>Ap (sz:=1) AE O (x.bs a)) O<|Bb (dj:=46) O O<|Ah (fun b a=>Er O O) O<|Bb (dj:=46) O O<|Bq O ?_
   refine Dj 52 O ?_ ?_
   ·intro g
    have p:k<ts[i].k:=by simpa using g
    refine Bb (dj:=52) O O<|Ah (fun b a=>B8 underlying182 O (AT _)) O<|Bb (dj:=52) O O<|Ah (fun b a=>Al (AN _) O (AP.bs ‹_› a) O) O ?_
    refine Bb (dj:=52) O O<|Bq O<|Bb (dj:=52) O O<|Ah (fun b a=>Dn AE O O x.shp k O p) O<|Bb (dj:=52) O O<|Ah (fun b a=>Ea (u:=DH ts[i].n) (AO _) O (x.bs a) (G3 p)) O<|Bb (dj:=52) O O<|Ah (fun b a=>B8 underlying182 O (BC _)) O<|Bb (dj:=52) O O<|Ah (fun b a=>Al (AO _) O (AP.bs ‹_› a) O) O ?_
    refine Bb (dj:=52) O O<|Db O O (fun b a=>(Pl ts[i].n b l).q a)<|Bb (dj:=52) O O<|Ah (fun b a=>Co O) O<|Bb (dj:=46) O O<|Ah (fun b a=>C3 O O) O<|Ah (fun b a=>C0 O O) O ?_
    refine C2 (fun L a=> ?_)
    refine Ar<|B9<|Bu O false (rfl)<|Cj<|Bg<|B6<|Ac O<|B1 O (by omega)<|Ab O<|Bd ?_
    exact Ar (Bp (k+1) ⟨rfl,rfl,rfl,rfl,rfl,trivial⟩ (⟨d,bt c a⟩) (by omega))
   ·intro g
    refine Au (dj:=52) O O O O<|Au (dj:=52) O O O O<|Au (dj:=52) O O O O<|Au (dj:=52) O O O O<|Au (dj:=52) O O O O<|Au (dj:=52) O O O O<|Au (dj:=52) O O O O<|Au (dj:=52) O O O O<|Au (dj:=52) O O O O<|Bb (dj:=46) O O<|Ah (fun b a=>C0 O O) O<|Ah (fun b a=>C0 O O) O ?_
    refine C2 (fun L a=> ?_)
    refine Ar<|B9<|D5 O<|Cj<|Bg<|B6<|Ac O<|B1 O (by omega)<|Ab O<|Bd ?_
    exact Ar (Bp (k+1) ⟨rfl,rfl,rfl,rfl,rfl,trivial⟩ (⟨d,bt c a⟩) (by omega))
  intro h
  refine Bk<|Aj<|Aj<|A0<|Bg<|B6<|Ac O<|B1 O (by omega)<|Ab O<|Bd ?_
  exact Ar (Bp (i+1) ⟨rfl,rfl,rfl,trivial⟩ (⟨e,bt m c⟩) (by omega))
 intro h
 exact Bk<|Aj<|Aj<|A0<|Cb<|Ab rfl<|Ay<|As rfl rfl<|⟨rfl,f⟩
abbrev BQ (n:Int):Value:=i32 (BitVec.ofInt 32 (-n))
theorem I2 (n:Int) (w:World) (_hn:0≤n∧n≤4000000):AK prog 171 [.int .i64 n] w (fun r a=>r=BQ n∧Below w.heap.size w a):=by
 refine Az (n:=6) func171 O<|Ad<|Aa (Ce (show _=some (i32 (0#32)) from rfl)) O<|Be<|Ac O<|Aa (Es O (by omega)) O<|Aa (Fa Hc KS O) O<|Ab O<|Ay<|As O O ?_
 exact ⟨rfl,Below.refl _ _⟩
theorem Kr (n:Int) (w:World) (_hn:0≤n∧n≤4000000):AK prog 186 [BQ n, .int .i64 n] w (fun r a=>r= .bool true∧Below w.heap.size w a):=by
 refine Az (n:=10) func186 O<|Ad<|Ab O<|Be<|Ac O<|Ac O<|Aa (Es O (by omega)) O<|Aa (Fa Hc KS O) O<|Aa (F4 O O) O<|Ab O<|Ay<|As O O ?_
 exact ⟨cngA Value.bool (by simp),Below.refl _ _⟩
theorem LY (A:Nat) (p:List Value) (u:Value) (hs:List Hd) (lo base:Nat) (w:World) (hA:AP w A BG p) (hu:p[3]? =some u) (Z:w.ownsRow lo 185 3 u hs.length (AS hs)) (m:FB w base 21 1 hs)
  (Q:¬BF hs A) (L:∀b,u.ownBlock=some b→¬BF hs b):
  AK prog 73 [.pointer (some ⟨A,0,none⟩)] w (fun r g=>r= .tuple #[]∧BR (BF hs) w g∧GA g base 21 BQ hs):=by
 have hle:=(AF Z).le
 refine Az (n:=35) func73 O<|Ad<|Ab O<|Ak<|An ?_
 refine Bl (S:=Nat) (fun i=>[(0, .pointer (some ⟨A,0,none⟩)),(2, .int .i64 (i:Int))]) (fun i g=>i≤hs.length∧BR (BF hs) w g∧(∀j (f:j<hs.length),j<i→AQ g base 21 1 hs[j].v hs[j].k (BW BQ hs[j].k hs[j].n))∧(∀j (f:j<hs.length),i≤j→AQ g base 21 1 hs[j].v hs[j].k hs[j].xs)) (fun i=>hs.length - i) (0) ⟨rfl,rfl,trivial⟩ ?_ ?_
 ·exact ⟨by omega,BR.refl _ _,fun j f h=>by omega,fun j f _=>m.own _ (getElem_mem f)⟩
 rintro i o ⟨hi,C,R,U⟩
 have T:=hA.chg C Q
 have J:=AF (AM Z C L)
 refine Ao<|Ad<|Ac O<|Ac O<|Aa (Ax O) O<|Ba underlying55 O (HF _)<|Aa (Al (Jp _) O T hu) O<|Aa (Ap (sz:=3) Im O J) O<|Bz O<|Ak<|Aq O ?_ ?_
 ·intro h
  have a:i<hs.length:=by simp at h;omega
  have s:=getElem_mem a
  have hfew:=m.few _ s
  have E:=m.num _ s
  have D:hs[i].g.oneCell' =true:=by rw [m.new _ s];rfl
  have v:=(m.own _ s).len
  have G:∀b,hs[i].v.ownBlock=some b→b<w.heap.size:=fun b e=>(m.blk ⟨_,s,e⟩).2
  refine Bw<|Ao<|An<|Ad<|Ac O<|Aa (Ax O) O<|Ba underlying55 O (HF _)<|Aa (Al (Jp _) O T hu) O<|Ac O<|Aa (Cl Im O O J i O a) O<|Aa (C8 (cs:=hs[i].cells) (OO _) (NJ _) O J O (by decide) (BT a)) O<|Cz (cs:=hs[i].cells) Km O O O O (fun _=>rfl) (by simp [Hd.cells,(m.own _ s).sl.one',D,DP]) ?_
  rintro B w2 V l q W
  have K:=C.below q
  have z1:=C.size
  have X:=(U i a (AU _)).bs q
  refine Be<|Ab O<|Ak<|An ?_
  refine Bl (S:=Nat) (fun k=>[(0, .pointer (some ⟨A,0,none⟩)),(2, .int .i64 (i:Int)),(3, .pointer (some ⟨B,0,none⟩)),(4, .int .i64 (k:Int))]) (fun k g=>k≤hs[i].k∧AP g B 185 hs[i].cells∧BR (BF hs) w g∧BR (fun b=>hs[i].v.ownBlock=some b) w2 g∧AQ g base 21 1 hs[i].v hs[i].k (BW BQ k hs[i].n++hs[i].xs.drop k)) (fun k=>hs[i].k - k) (0) ⟨rfl,rfl,rfl,rfl,trivial⟩ ?_ ?_
  ·exact ⟨by omega,l,K,BR.refl _ _,by simpa [BW] using X⟩
  clear l X
  rintro k w3 ⟨M,l,F,z,y⟩
  refine Ao<|Ad<|Ac O<|Ba underlying185 O (CW _)<|Aa (Al (DC _) O ‹_› rfl) O ?_
  refine Aa (Ap (sz:=1) BP O y.sl) O<|Bz O<|Ak<|Aq O ?_ ?_
  ·intro h
   have c:k<hs[i].k:=by simp at h;omega
   refine Bw<|Ao<|An<|Cw.tail 7 BB (by kernel_rfl)<|Ah (fun o d=>B8 underlying185 O (CW _)) O<|Ah (fun o d=>Al (DC _) O (AP.bs ‹_› d) O) O ?_
   refine Bq O<|Ah (fun o d=>B8 underlying185 O (BC _)) O<|Ah (fun o d=>Al (AO _) O (AP.bs ‹_› d) O) O ?_
   refine Db O O (fun o d=>(I2 hs[i].n o E).q d)<|Ah (fun o d=>Dn BP O O y.sl.shp k O c) O ?_
   refine D0 (fun w4 d=> ?_)
   refine Bv (Gm (QY _) O O O (y.bs d) (by rw [IL (by simpa using v) M];exact c)) ?_
   rintro w5 ⟨Y,t, -⟩
   rw [HT (by simpa using v) c] at Y
   have b5:=(l.bs d).by t (fun e=>by have:=G _ e.symm;omega)
   refine Bd<|Bg<|B6<|Ac O<|B1 O (by omega)<|Ab O<|Bd ?_
   exact Ar (Bp (k+1) ⟨rfl,rfl,rfl,rfl,trivial⟩ (⟨c,b5,(F.below d).grown t (fun b e=> .inl ⟨_,s,e⟩),(z.below d).grown t (fun b e=> .inl e),Y⟩) (by omega))
  intro h
  have c:k=hs[i].k:=by simp at h;omega
  rw [drop_of_length_le (by omega),append_nil,c] at y
  have hall:BR (fun b=>hs[i].v.ownBlock=some b) o w3:=(BR.of_below q).trans z
  refine Bk<|Aj<|Aj<|A0<|Bg<|B6<|Ac O<|B1 O (by omega)<|Ab O<|Bd ?_
  exact Ar (Bp (i+1) ⟨rfl,rfl,trivial⟩ (⟨a,F,fun j f H=>(if e:j=i then by subst e;exact y else (R j f (by omega)).chg hall fun b N I=>BV m.apart a f (Ne.symm e) b I N),fun j f H=>(U j f (by omega)).chg hall fun b N I=>BV m.apart a f (by omega) b I N⟩) (by omega))
 intro h
 have a:i=hs.length:=by simp at h;omega
 refine Bk<|Aj<|Aj<|A0<|Cu O ?_
 refine ⟨rfl,C,fun x hx=> ?_⟩
 obtain ⟨j,f,rfl⟩:=List.mem_iff_getElem.1 hx
 exact R j f (by omega)
theorem LU (A:Nat) (D:List Value) (u:Value) (hs:List Hd) (lo base:Nat) (w:World) (hA:AP w A BG D) (hu:D[3]? =some u) (ho:w.ownsRow lo 185 3 u hs.length (AS hs)) (G:KOk hs) (hf:GA w base 21 BQ hs)
  (hb1:¬BF hs A) (m:∀b,u.ownBlock=some b→¬BF hs b) (U:u.ownBlock≠some A) (hbase:base≤w.heap.size):
  AK prog 88 [.pointer (some ⟨A,0,none⟩)] w (fun r o=>r= .tuple #[]∧BR (fun b=>BF hs b∨u.ownBlock=some b) w o∧∃ts,DN w hs ts∧o.ownsRow lo 185 3 u hs.length (AS ts)∧∀t ∈ ts,DT o BQ t):=by
 have hle:=(AF ho).le
 refine Az (n:=42) func88 O<|Ad<|Ab O<|Ak<|An ?_
 refine Bl (S:=(Nat×List Hd)) (fun s=>[(0, .pointer (some ⟨A,0,none⟩)),(2, .int .i64 (s.1:Int))]) (fun s o=>s.1≤hs.length∧DN w hs s.2∧(∀t ∈ s.2,t.g.oneCell' =true)∧BR (fun b=>BF hs b∨u.ownBlock=some b) w o∧o.ownsRow lo 185 3 u hs.length (AS s.2)∧(∀j (l:j<s.2.length),j<s.1→DT o BQ s.2[j])∧(∀j (l:j<hs.length),s.1≤j→AQ o base 21 1 hs[j].v hs[j].k (BW BQ hs[j].k hs[j].n))) (fun s=>hs.length - s.1) ((0,hs)) ⟨rfl,rfl,trivial⟩ ?_ ?_
 ·exact ⟨by simp,Ep w G.new,fun t R=>(by rw [G.new t R];rfl),BR.refl _ _,ho,fun j l h=>by simp at h,fun j l _=>hf _ (getElem_mem l)⟩
 rintro ⟨i,ts⟩ w1 ⟨hi,M,h1,N,o1,hd,R⟩
 dsimp only at hi M h1 N o1 hd R ⊢
 have b1:=hA.chg N (fun e=>e.elim hb1 U)
 have s1:=AF o1
 have hlen:=M.len
 refine Ao<|Ad<|Ac O<|Ac O<|Aa (Ax O) O<|Ba underlying55 O (HF _)<|Aa (Al (Jp _) O b1 hu) O<|Aa (Ap (sz:=3) Im O s1) O<|Bz O<|Ak<|Aq O ?_ ?_
 ·intro h
  have a:i<hs.length:=by simp at h;omega
  have x:i<ts.length:=by omega
  obtain ⟨ev,ek,en,eg⟩:=M.all i a x
  have C:=getElem_mem a
  have hmt:=getElem_mem x
  have hfew:=G.few _ C
  have hnum:=G.num _ C
  have T:=h1 _ hmt
  have X:∀b,hs[i].v.ownBlock=some b→b<w.heap.size:=fun b e=>(hf.blk ⟨_,C,e⟩).2
  refine Bw<|Ao<|An<|Ad<|Ac O<|Aa (Ax O) O<|Ba underlying55 O (HF _)<|Aa (Al (Jp _) O b1 hu) O<|Ac O<|Aa (Cl Im O O s1 i O a) O<|Aa (C8 (cs:=ts[i].cells) (OO _) (NJ _) O s1 O (by decide) (BT x)) O<|Cz (cs:=ts[i].cells) Km O O O O (fun _=>rfl) (by simp [Hd.cells,ev,(hf _ C).sl.one',T,DP]) ?_
  rintro K w2 eA_h z L zhn2
  have hc2:=N.below L
  have z1:=N.size
  have z2:=hc2.size
  have r0:=(R i a (AU _)).bs L
  refine Be<|Ba underlying185 O (CW _)<|Aa (Al (DC _) O ‹_› rfl) O ?_
  refine Ab O<|Bi<|Ab O<|Ak<|An<|Em 4 (v' :=hs[i].v) O (ev) ?_
  refine Bl (S:=(Nat×Value)) (fun s=>[(0, .pointer (some ⟨A,0,none⟩)),(2, .int .i64 (i:Int)),(3, .pointer (some ⟨K,0,none⟩)),(4,s.2),(5, .int .i64 (s.1:Int))]) (fun s o=>s.1≤40∧AP o K 185 ts[i].cells∧BR (fun b=>hs[i].v.ownBlock=some b) w2 o∧AQ o base 21 1 s.2 (hs[i].k+s.1) (BW BQ (hs[i].k+s.1) hs[i].n)∧(∀b,s.2.ownBlock=some b→hs[i].v.ownBlock=some b∨w2.heap.size≤b)∧Sl o 1 hs[i].v hs[i].k (BW BQ hs[i].k hs[i].n)) (fun s=>40 - s.1) ((0,hs[i].v)) ⟨rfl,rfl,rfl,rfl,rfl,trivial⟩ ?_ ?_
  ·exact ⟨by simp,z,BR.refl _ _,r0,fun b e=> .inl e,r0.sl⟩
  clear z
  rintro ⟨k,g⟩ w3 ⟨hk3,z,F,V,p,l3⟩
  dsimp only at hk3 V p ⊢
  have z3:=F.size
  refine Ao<|Ad<|Ac O<|Bz O<|Ak<|Aq O ?_ ?_
  ·intro h
   have E:k<40:=by simp at h;omega
   refine Bw<|Ao<|An<|Bn<|Ac O<|Ba underlying185 O (BC _)<|Aa (Al (AO _) O ‹_› rfl) O ?_
   refine Cm 30 (v' := .int .i64 hs[i].n) O (cngA (Value.int .i64) en)<|Ai O O (I2 hs[i].n w3 hnum) ?_
   rintro _ H ⟨rfl,hn4⟩
   refine Bc (Cv (vs:=[BQ hs[i].n]) BP HJ O O O O O) O ?_
   rintro nv w5 ⟨o5, -,hn5, -⟩
   have f:=bt hn4 hn5
   have z5:=f.size
   have r5:=V.bs f
   refine Bc (En (base:=base) BP HJ O (by decide) O O r5 (AF o5) O (by omega) (by omega) (by omega) (AU _)) O ?_
   rintro g' w6 ⟨r6,I,y⟩
   have l5:=l3.bs f
   have b5:=z.bs f
   have e6:BW BQ (hs[i].k+k) hs[i].n++[BQ hs[i].n]=BW BQ (hs[i].k+(k+1)) hs[i].n:=HU
   rw [e6] at r6
   have hgA:some K≠g.ownBlock:=fun e=>by
    rcases p _ e.symm with c|c
    ·have:=X _ c;omega
    ·omega
   have l6:Sl w6 1 hs[i].v hs[i].k (BW BQ hs[i].k hs[i].n):=HX r0 (.inl r6) I y l5 (by omega) (by simp [BW])
   have W:∀b,g'.ownBlock=some b→hs[i].v.ownBlock=some b∨w2.heap.size≤b:=fun b e=>by
    rcases y with c|⟨c, -⟩
    ·rw [c] at e;exact p b e
    ·exact .inr (by have:=c b e;omega)
   refine Ab O<|Bd<|Bg<|B6<|Ac O<|B1 O (by omega)<|Ab O<|Bd ?_
   exact Ar (Bp ((k+1,g')) ⟨rfl,rfl,rfl,rfl,rfl,trivial⟩ (⟨E,b5.by I hgA,(F.below f).grown I p, .inl r6,W,l6⟩) (by simp only;omega))
  intro h
  have E:k=40:=by simp at h;omega
  subst E
  have hall:BR (fun b=>hs[i].v.ownBlock=some b) w1 w3:=(BR.of_below L).trans F
  have Y:BR (fun b=>BF hs b∨u.ownBlock=some b) w w3:=N.trans (hall.mono fun b e=> .inl ⟨_,C,e⟩)
  have b3:=hA.chg Y (fun e=>e.elim hb1 U)
  have o3:=AM o1 hall (fun b v d=>m b v ⟨_,C,d⟩)
  refine Bk<|Aj<|Aj<|A0<|B6<|Ac O<|Aa (Ax O) O<|Ba underlying55 O (HF _)<|Aa (Al (Jp _) O b3 hu) O<|Ac O<|Ac O<|Aa (Cl Im O O (AF o3) i O a) O<|Aa (C9 underlying185 O (CW _) O (Hq o3 (by omega))) O<|Bv (Et (j:=i*3+1) (CW _) O O V.sl.one' o3 (by rw [FK];omega)) ?_
  rintro H ⟨o4,B, -⟩
  have e4:=FJ x g
  have o4:H.ownsRow lo 185 3 u hs.length (AS (ts.set i {ts[i] with g:=g})):=by rw [← e4];exact o4
  have hG4:=M.set a x (g:=g) (fun b e=>by
   rcases p b e with c|c
   ·exact .inl c
   ·exact .inr (by omega))
  have q:BR (fun b=>hs[i].v.ownBlock=some b∨u.ownBlock=some b) w1 H:=(hall.mono fun b e=> .inl e).grown B (fun b e=> .inl (.inr e))
  have hS4:BR (fun b=>BF hs b∨u.ownBlock=some b) w H:=Y.grown B (fun b e=> .inl (.inr e))
  have t4:DT H BQ {ts[i] with g:=g}:=by
   refine ⟨?_, ?_⟩
   ·simp only;rw [ev,ek,en]
    refine l3.by B ?_
    cases hv:hs[i].v.ownBlock with
    |none=>exact .inl rfl
    |some b=>exact .inr fun e=>m b e.symm ⟨_,C,hv⟩
   ·simp only;rw [ek,en]
    refine V.sl.by B ?_
    cases hv:g.ownBlock with
    |none=>exact .inl rfl
    |some b=>
     refine .inr fun e=> ?_
     rcases p b hv with c|c
     ·exact m b e.symm ⟨_,C,c⟩
     ·have:=(AB ho b e.symm).2;omega
  have h14:∀t ∈ ts.set i {ts[i] with g:=g},t.g.oneCell' =true:=fun t J=>by
   rcases mem_or_eq_of_mem_set J with c|c
   ·exact h1 t c
   ·rw [c];exact V.sl.one'
  have hd4:∀j (l:j<(ts.set i {ts[i] with g:=g}).length),j<i+1→DT H BQ (ts.set i {ts[i] with g:=g})[j]:=fun j l hji=>by
    rw [getElem_set]
    split
    ·exact t4
    ·rename_i Q
     have Z:j<ts.length:=by simpa using l
     obtain ⟨fv,_,_,fg⟩:=M.all j (by omega) Z
     refine (hd j Z (by omega)).chg q (fun b v _ d=> ?_) (fun b v _ d=> ?_)
     ·rw [fv] at v
      rcases d with d|d
      ·exact BV G.apart a (show j<hs.length by omega) Q b d v
      ·exact m b d ⟨_,getElem_mem _,v⟩
     ·rcases d with d|d
      ·rcases fg b v with c|c
       ·exact BV G.apart a (show j<hs.length by omega) Q b d c
       ·have:=X b d;omega
      ·rcases fg b v with c|c
       ·exact m b d ⟨_,getElem_mem _,c⟩
       ·have:=(AB ho b d).2;omega
  have ht4:∀j (l:j<hs.length),i+1≤j→AQ H base 21 1 hs[j].v hs[j].k (BW BQ hs[j].k hs[j].n):=fun j l hji=>(R j l (by omega)).chg q (fun b v d=>(by
    rcases d with d|d
    ·exact BV G.apart a l (by omega) b d v
    ·exact m b d ⟨_,getElem_mem _,v⟩))
  refine Bd<|Bg<|B6<|Ac O<|B1 O (by omega)<|Ab O<|Bd ?_
  exact Ar (Bp ((i+1,ts.set i {ts[i] with g:=g})) ⟨rfl,rfl,trivial⟩ (⟨a,hG4,h14,hS4,o4,hd4,ht4⟩) (by simp only;omega))
 intro h
 have a:i=hs.length:=by simp at h;omega
 refine Bk<|Aj<|Aj<|A0<|Cu O ?_
 refine ⟨rfl,N,ts,M,o1,fun t J=> ?_⟩
 obtain ⟨j,l,rfl⟩:=List.mem_iff_getElem.1 J
 exact hd j l (by omega)
theorem LG (A:Nat) (j:List Value) (u:Value) (ts:List Hd) (U:Nat) (w:World) (N:AP w A BG j) (H:j[3]? =some u) (G:w.ownsRow U 185 3 u ts.length (AS ts)) (M:∀t ∈ ts,DT w BQ t) (R:∀t ∈ ts,(0≤t.n∧t.n≤4000000)∧t.k≤16777216):
  AK prog 103 [.pointer (some ⟨A,0,none⟩)] w (fun r o=>r= .bool true∧Below w.heap.size w o):=by
 have T:=(AF G).le
 refine Az (n:=64) func103 O<|Ad<|Ab O<|Bi<|Ab O<|Ak<|An ?_
 refine Bl (S:=Nat) (fun i=>[(0, .pointer (some ⟨A,0,none⟩)),(2, .bool false),(3, .int .i64 (i:Int))]) (fun i o=>i≤ts.length∧Below w.heap.size w o) (fun i=>ts.length - i) (0) ⟨rfl,rfl,rfl,trivial⟩ ?_ ?_
 ·exact ⟨by omega,Below.refl _ _⟩
 rintro i b ⟨X,f⟩
 have C:=N.bs f
 have y:=(AF G).bs f
 refine Ao<|Ad<|Ac O<|Ac O<|Aa (Ax O) O<|Ba underlying55 O (HF _)<|Aa (Al (Jp _) O C H) O<|Aa (Ap (sz:=3) Im O y) O<|Bz O<|Ak<|Aq O ?_ ?_
 ·intro h
  have e:i<ts.length:=by simp at h;omega
  have I:=getElem_mem e
  obtain ⟨l,J⟩:=R _ I
  have q:=M _ I
  refine Bw<|Ao<|An<|Ad<|Ac O<|Aa (Ax O) O<|Ba underlying55 O (HF _)<|Aa (Al (Jp _) O C H) O<|Ac O<|Aa (Cl Im O O y i O e) O<|Aa (C8 (cs:=ts[i].cells) (OO _) (NJ _) O y O (by decide) (BT e)) O<|Cz (cs:=ts[i].cells) Km O O O O (fun _=>rfl) (by simp [Hd.cells,q.l.one',q.g.one',DP]) ?_
  rintro v K D s z F
  have m:=bt f z
  have l2:=q.l.bs m
  have E:=q.g.bs m
  refine Bi<|Ba underlying185 O (CW _)<|Aa (Al (DC _) O ‹_› rfl) O ?_
  refine Aa (Ap (sz:=1) BP O E) O<|Ba underlying185 O (CW _)<|Aa (Al (DC _) O ‹_› rfl) O ?_
  refine Aa (Ap (sz:=1) BP O l2) O<|B1 O (by omega)<|Aa (Ct O O) O<|Ak<|Bu O false (by simp)<|Cs<|Ab O<|Ak<|An ?_
  refine Bl (S:=Nat) (fun k=>[(0, .pointer (some ⟨A,0,none⟩)),(2, .bool false),(3, .int .i64 (i:Int)),(4, .pointer (some ⟨v,0,none⟩)),(5, .int .i64 (k:Int))]) (fun k o=>k≤ts[i].k+40∧Below K.heap.size K o) (fun k=>ts[i].k+40 - k) (0) ⟨rfl,rfl,rfl,rfl,rfl,trivial⟩ ?_ ?_
  ·exact ⟨by omega,Below.refl _ _⟩
  rintro k V ⟨Q,c⟩
  have x:=l2.bs c
  have B:=E.bs c
  have W:=s.bs c
  refine Ao<|Ad<|Ac O<|Ba underlying185 O (CW _)<|Aa (Al (DC _) O ‹_› rfl) O ?_
  refine Aa (Ap (sz:=1) BP O B) O<|Bz O<|Ak<|Aq O ?_ ?_
  ·intro h
   have d:k<ts[i].k+40:=by simp at h;omega
   refine Bw<|Ao<|An<|Ao<|Da BB (by kernel_rfl)<|Ah (fun b a=>B8 underlying185 O (CW _)) O<|Ah (fun b a=>Al (DC _) O (AP.bs ‹_› a) O) O ?_
   refine Bq O<|Ah (fun b a=>Dn BP O O B.shp k O d) O<|Ah (fun b a=>Ea (u:=BQ ts[i].n) (HK _) O (B.bs a) (G3 d)) O<|Ah (fun b a=>B8 underlying185 O (BC _)) O<|Ah (fun b a=>Al (AO _) O (AP.bs ‹_› a) O) O ?_
   refine Db O O (fun b a=>(Kr ts[i].n b l).q a)<|Ah (fun b a=>Co O) O<|Bq O<|Ew 46 (v' := .bool false) O (cngA Value.bool (rfl))<|Bb (dj:=46) O O<|Bq O<|Bb (dj:=46) O O<|Ah (fun b a=>B8 underlying185 O (CW _)) O<|Bb (dj:=46) O O<|Ah (fun b a=>Al (DC _) O (AP.bs ‹_› a) O) O ?_
   refine Bb (dj:=46) O O<|Ah (fun b a=>Ap (sz:=1) BP O (x.bs a)) O<|Bb (dj:=46) O O<|Ah (fun b a=>Er O O) O<|Bb (dj:=46) O O<|Bq O ?_
   refine Dj 52 O ?_ ?_
   ·intro g
    have p:k<ts[i].k:=by simpa using g
    refine Bb (dj:=52) O O<|Ah (fun b a=>B8 underlying185 O (CW _)) O<|Bb (dj:=52) O O<|Ah (fun b a=>Al (DC _) O (AP.bs ‹_› a) O) O ?_
    refine Bb (dj:=52) O O<|Bq O<|Bb (dj:=52) O O<|Ah (fun b a=>Dn BP O O x.shp k O p) O<|Bb (dj:=52) O O<|Ah (fun b a=>Ea (u:=BQ ts[i].n) (HK _) O (x.bs a) (G3 p)) O<|Bb (dj:=52) O O<|Ah (fun b a=>B8 underlying185 O (BC _)) O<|Bb (dj:=52) O O<|Ah (fun b a=>Al (AO _) O (AP.bs ‹_› a) O) O ?_
    refine Bb (dj:=52) O O<|Db O O (fun b a=>(Kr ts[i].n b l).q a)<|Bb (dj:=52) O O<|Ah (fun b a=>Co O) O<|Bb (dj:=46) O O<|Ah (fun b a=>C3 O O) O<|Ah (fun b a=>C0 O O) O ?_
    refine C2 (fun L a=> ?_)
    refine Ar<|B9<|Bu O false (rfl)<|Cj<|Bg<|B6<|Ac O<|B1 O (by omega)<|Ab O<|Bd ?_
    exact Ar (Bp (k+1) ⟨rfl,rfl,rfl,rfl,rfl,trivial⟩ (⟨d,bt c a⟩) (by omega))
   ·intro g
    refine Au (dj:=52) O O O O<|Au (dj:=52) O O O O<|Au (dj:=52) O O O O<|Au (dj:=52) O O O O<|Au (dj:=52) O O O O<|Au (dj:=52) O O O O<|Au (dj:=52) O O O O<|Au (dj:=52) O O O O<|Au (dj:=52) O O O O<|Bb (dj:=46) O O<|Ah (fun b a=>C0 O O) O<|Ah (fun b a=>C0 O O) O ?_
    refine C2 (fun L a=> ?_)
    refine Ar<|B9<|D5 O<|Cj<|Bg<|B6<|Ac O<|B1 O (by omega)<|Ab O<|Bd ?_
    exact Ar (Bp (k+1) ⟨rfl,rfl,rfl,rfl,rfl,trivial⟩ (⟨d,bt c a⟩) (by omega))
  intro h
  refine Bk<|Aj<|Aj<|A0<|Bg<|B6<|Ac O<|B1 O (by omega)<|Ab O<|Bd ?_
  exact Ar (Bp (i+1) ⟨rfl,rfl,rfl,trivial⟩ (⟨e,bt m c⟩) (by omega))
 intro h
 exact Bk<|Aj<|Aj<|A0<|Cb<|Ab rfl<|Ay<|As rfl rfl<|⟨rfl,f⟩
theorem Sm (A:Nat) (a:List Value) (w:World) (d:AP w A BG a) (c:a[4]? =some (.slice none 0 0)):AK prog 74 [.pointer (some ⟨A,0,none⟩)] w (fun r b=>r= .tuple #[]∧w=b):=by
 refine Az (n:=35) func74 O<|Ad<|Ab O<|Ak<|An ?_
 refine Bl (S:=Unit) (fun s=>[(0, .pointer (some ⟨A,0,none⟩)),(2, .int .i64 0)]) (fun s b=>w=b) (fun s=>0) (()) ⟨rfl,rfl,trivial⟩ ?_ ?_
 ·rfl
 rintro _ _ rfl
 exact Ao<|Ad<|Ac rfl<|Ac rfl<|Aa (Ax rfl) rfl<|Ba underlying55 rfl (QX _)<|Aa (Al (SE _) rfl d c) rfl<|Aa (Ap (sz:=3) Rj rfl (Ck _ _)) rfl<|Bz rfl<|Ak<|Bu rfl false (rfl)<|Bk<|Aj<|Aj<|A0<|Cu rfl<|⟨rfl,rfl⟩
theorem Sa (A:Nat) (a:List Value) (w:World) (d:AP w A BG a) (c:a[4]? =some (.slice none 0 0)):AK prog 89 [.pointer (some ⟨A,0,none⟩)] w (fun r b=>r= .tuple #[]∧w=b):=by
 refine Az (n:=42) func89 O<|Ad<|Ab O<|Ak<|An ?_
 refine Bl (S:=Unit) (fun s=>[(0, .pointer (some ⟨A,0,none⟩)),(2, .int .i64 0)]) (fun s b=>w=b) (fun s=>0) (()) ⟨rfl,rfl,trivial⟩ ?_ ?_
 ·rfl
 rintro _ _ rfl
 exact Ao<|Ad<|Ac rfl<|Ac rfl<|Aa (Ax rfl) rfl<|Ba underlying55 rfl (QX _)<|Aa (Al (SE _) rfl d c) rfl<|Aa (Ap (sz:=3) Rj rfl (Ck _ _)) rfl<|Bz rfl<|Ak<|Bu rfl false (rfl)<|Bk<|Aj<|Aj<|A0<|Cu rfl<|⟨rfl,rfl⟩
theorem RD (A:Nat) (a:List Value) (w:World) (d:AP w A BG a) (c:a[4]? =some (.slice none 0 0)):AK prog 104 [.pointer (some ⟨A,0,none⟩)] w (fun r b=>r= .bool true∧w=b):=by
 refine Az (n:=64) func104 O<|Ad<|Ab O<|Bi<|Ab O<|Ak<|An ?_
 refine Bl (S:=Unit) (fun s=>[(0, .pointer (some ⟨A,0,none⟩)),(2, .bool false),(3, .int .i64 0)]) (fun s b=>w=b) (fun s=>0) (()) ⟨rfl,rfl,rfl,trivial⟩ ?_ ?_
 ·rfl
 rintro _ _ rfl
 exact Ao<|Ad<|Ac rfl<|Ac rfl<|Aa (Ax rfl) rfl<|Ba underlying55 rfl (QX _)<|Aa (Al (SE _) rfl d c) rfl<|Aa (Ap (sz:=3) Rj rfl (Ck _ _)) rfl<|Bz rfl<|Ak<|Bu rfl false (rfl)<|Bk<|Aj<|Aj<|A0<|Cb<|Ab rfl<|Ay<|As rfl rfl<|⟨rfl,rfl⟩
theorem O5 (A:Nat) (a:List Value) (w:World) (d:AP w A BG a) (c:a[5]? =some (.slice none 0 0)):AK prog 75 [.pointer (some ⟨A,0,none⟩)] w (fun r b=>r= .tuple #[]∧w=b):=by
 refine Az (n:=35) func75 O<|Ad<|Ab O<|Ak<|An ?_
 refine Bl (S:=Unit) (fun s=>[(0, .pointer (some ⟨A,0,none⟩)),(2, .int .i64 0)]) (fun s b=>w=b) (fun s=>0) (()) ⟨rfl,rfl,trivial⟩ ?_ ?_
 ·rfl
 rintro _ _ rfl
 exact Ao<|Ad<|Ac rfl<|Ac rfl<|Aa (Ax rfl) rfl<|Ba underlying55 rfl (QW _)<|Aa (Al (SD _) rfl d c) rfl<|Aa (Ap (sz:=3) Ri rfl (Ck _ _)) rfl<|Bz rfl<|Ak<|Bu rfl false (rfl)<|Bk<|Aj<|Aj<|A0<|Cu rfl<|⟨rfl,rfl⟩
theorem Ox (A:Nat) (a:List Value) (w:World) (d:AP w A BG a) (c:a[5]? =some (.slice none 0 0)):AK prog 90 [.pointer (some ⟨A,0,none⟩)] w (fun r b=>r= .tuple #[]∧w=b):=by
 refine Az (n:=42) func90 O<|Ad<|Ab O<|Ak<|An ?_
 refine Bl (S:=Unit) (fun s=>[(0, .pointer (some ⟨A,0,none⟩)),(2, .int .i64 0)]) (fun s b=>w=b) (fun s=>0) (()) ⟨rfl,rfl,trivial⟩ ?_ ?_
 ·rfl
 rintro _ _ rfl
 exact Ao<|Ad<|Ac rfl<|Ac rfl<|Aa (Ax rfl) rfl<|Ba underlying55 rfl (QW _)<|Aa (Al (SD _) rfl d c) rfl<|Aa (Ap (sz:=3) Ri rfl (Ck _ _)) rfl<|Bz rfl<|Ak<|Bu rfl false (rfl)<|Bk<|Aj<|Aj<|A0<|Cu rfl<|⟨rfl,rfl⟩
theorem Oa (A:Nat) (a:List Value) (w:World) (d:AP w A BG a) (c:a[5]? =some (.slice none 0 0)):AK prog 105 [.pointer (some ⟨A,0,none⟩)] w (fun r b=>r= .bool true∧w=b):=by
 refine Az (n:=64) func105 O<|Ad<|Ab O<|Bi<|Ab O<|Ak<|An ?_
 refine Bl (S:=Unit) (fun s=>[(0, .pointer (some ⟨A,0,none⟩)),(2, .bool false),(3, .int .i64 0)]) (fun s b=>w=b) (fun s=>0) (()) ⟨rfl,rfl,rfl,trivial⟩ ?_ ?_
 ·rfl
 rintro _ _ rfl
 exact Ao<|Ad<|Ac rfl<|Ac rfl<|Aa (Ax rfl) rfl<|Ba underlying55 rfl (QW _)<|Aa (Al (SD _) rfl d c) rfl<|Aa (Ap (sz:=3) Ri rfl (Ck _ _)) rfl<|Bz rfl<|Ak<|Bu rfl false (rfl)<|Bk<|Aj<|Aj<|A0<|Cb<|Ab rfl<|Ay<|As rfl rfl<|⟨rfl,rfl⟩
theorem O6 (A:Nat) (a:List Value) (w:World) (d:AP w A BG a) (c:a[8]? =some (.slice none 0 0)):AK prog 78 [.pointer (some ⟨A,0,none⟩)] w (fun r b=>r= .tuple #[]∧w=b):=by
 refine Az (n:=35) func78 O<|Ad<|Ab O<|Ak<|An ?_
 refine Bl (S:=Unit) (fun s=>[(0, .pointer (some ⟨A,0,none⟩)),(2, .int .i64 0)]) (fun s b=>w=b) (fun s=>0) (()) ⟨rfl,rfl,trivial⟩ ?_ ?_
 ·rfl
 rintro _ _ rfl
 exact Ao<|Ad<|Ac rfl<|Ac rfl<|Aa (Ax rfl) rfl<|Ba underlying55 rfl (QV _)<|Aa (Al (SC _) rfl d c) rfl<|Aa (Ap (sz:=3) Rh rfl (Ck _ _)) rfl<|Bz rfl<|Ak<|Bu rfl false (rfl)<|Bk<|Aj<|Aj<|A0<|Cu rfl<|⟨rfl,rfl⟩
theorem Oy (A:Nat) (a:List Value) (w:World) (d:AP w A BG a) (c:a[8]? =some (.slice none 0 0)):AK prog 93 [.pointer (some ⟨A,0,none⟩)] w (fun r b=>r= .tuple #[]∧w=b):=by
 refine Az (n:=42) func93 O<|Ad<|Ab O<|Ak<|An ?_
 refine Bl (S:=Unit) (fun s=>[(0, .pointer (some ⟨A,0,none⟩)),(2, .int .i64 0)]) (fun s b=>w=b) (fun s=>0) (()) ⟨rfl,rfl,trivial⟩ ?_ ?_
 ·rfl
 rintro _ _ rfl
 exact Ao<|Ad<|Ac rfl<|Ac rfl<|Aa (Ax rfl) rfl<|Ba underlying55 rfl (QV _)<|Aa (Al (SC _) rfl d c) rfl<|Aa (Ap (sz:=3) Rh rfl (Ck _ _)) rfl<|Bz rfl<|Ak<|Bu rfl false (rfl)<|Bk<|Aj<|Aj<|A0<|Cu rfl<|⟨rfl,rfl⟩
theorem Ob (A:Nat) (a:List Value) (w:World) (d:AP w A BG a) (c:a[8]? =some (.slice none 0 0)):AK prog 108 [.pointer (some ⟨A,0,none⟩)] w (fun r b=>r= .bool true∧w=b):=by
 refine Az (n:=64) func108 O<|Ad<|Ab O<|Bi<|Ab O<|Ak<|An ?_
 refine Bl (S:=Unit) (fun s=>[(0, .pointer (some ⟨A,0,none⟩)),(2, .bool false),(3, .int .i64 0)]) (fun s b=>w=b) (fun s=>0) (()) ⟨rfl,rfl,rfl,trivial⟩ ?_ ?_
 ·rfl
 rintro _ _ rfl
 exact Ao<|Ad<|Ac rfl<|Ac rfl<|Aa (Ax rfl) rfl<|Ba underlying55 rfl (QV _)<|Aa (Al (SC _) rfl d c) rfl<|Aa (Ap (sz:=3) Rh rfl (Ck _ _)) rfl<|Bz rfl<|Ak<|Bu rfl false (rfl)<|Bk<|Aj<|Aj<|A0<|Cb<|Ab rfl<|Ay<|As rfl rfl<|⟨rfl,rfl⟩
theorem OB (A:Nat) (a:List Value) (w:World) (d:AP w A BG a) (c:a[9]? =some (.slice none 0 0)):AK prog 79 [.pointer (some ⟨A,0,none⟩)] w (fun r b=>r= .tuple #[]∧w=b):=by
 refine Az (n:=35) func79 O<|Ad<|Ab O<|Ak<|An ?_
 refine Bl (S:=Unit) (fun s=>[(0, .pointer (some ⟨A,0,none⟩)),(2, .int .i64 0)]) (fun s b=>w=b) (fun s=>0) (()) ⟨rfl,rfl,trivial⟩ ?_ ?_
 ·rfl
 rintro _ _ rfl
 exact Ao<|Ad<|Ac rfl<|Ac rfl<|Aa (Ax rfl) rfl<|Ba underlying55 rfl (QU _)<|Aa (Al (SB _) rfl d c) rfl<|Aa (Ap (sz:=3) Rg rfl (Ck _ _)) rfl<|Bz rfl<|Ak<|Bu rfl false (rfl)<|Bk<|Aj<|Aj<|A0<|Cu rfl<|⟨rfl,rfl⟩
theorem O3 (A:Nat) (a:List Value) (w:World) (d:AP w A BG a) (c:a[9]? =some (.slice none 0 0)):AK prog 94 [.pointer (some ⟨A,0,none⟩)] w (fun r b=>r= .tuple #[]∧w=b):=by
 refine Az (n:=42) func94 O<|Ad<|Ab O<|Ak<|An ?_
 refine Bl (S:=Unit) (fun s=>[(0, .pointer (some ⟨A,0,none⟩)),(2, .int .i64 0)]) (fun s b=>w=b) (fun s=>0) (()) ⟨rfl,rfl,trivial⟩ ?_ ?_
 ·rfl
 rintro _ _ rfl
 exact Ao<|Ad<|Ac rfl<|Ac rfl<|Aa (Ax rfl) rfl<|Ba underlying55 rfl (QU _)<|Aa (Al (SB _) rfl d c) rfl<|Aa (Ap (sz:=3) Rg rfl (Ck _ _)) rfl<|Bz rfl<|Ak<|Bu rfl false (rfl)<|Bk<|Aj<|Aj<|A0<|Cu rfl<|⟨rfl,rfl⟩
theorem Og (A:Nat) (a:List Value) (w:World) (d:AP w A BG a) (c:a[9]? =some (.slice none 0 0)):AK prog 109 [.pointer (some ⟨A,0,none⟩)] w (fun r b=>r= .bool true∧w=b):=by
 refine Az (n:=64) func109 O<|Ad<|Ab O<|Bi<|Ab O<|Ak<|An ?_
 refine Bl (S:=Unit) (fun s=>[(0, .pointer (some ⟨A,0,none⟩)),(2, .bool false),(3, .int .i64 0)]) (fun s b=>w=b) (fun s=>0) (()) ⟨rfl,rfl,rfl,trivial⟩ ?_ ?_
 ·rfl
 rintro _ _ rfl
 exact Ao<|Ad<|Ac rfl<|Ac rfl<|Aa (Ax rfl) rfl<|Ba underlying55 rfl (QU _)<|Aa (Al (SB _) rfl d c) rfl<|Aa (Ap (sz:=3) Rg rfl (Ck _ _)) rfl<|Bz rfl<|Ak<|Bu rfl false (rfl)<|Bk<|Aj<|Aj<|A0<|Cb<|Ab rfl<|Ay<|As rfl rfl<|⟨rfl,rfl⟩
theorem LX (A:Nat) (a:List Value) (w:World) (d:AP w A BG a) (c:a[10]? =some (.slice none 0 0)):AK prog 80 [.pointer (some ⟨A,0,none⟩)] w (fun r b=>r= .tuple #[]∧w=b):=by
 refine Az (n:=35) func80 O<|Ad<|Ab O<|Ak<|An ?_
 refine Bl (S:=Unit) (fun s=>[(0, .pointer (some ⟨A,0,none⟩)),(2, .int .i64 0)]) (fun s b=>w=b) (fun s=>0) (()) ⟨rfl,rfl,trivial⟩ ?_ ?_
 ·rfl
 rintro _ _ rfl
 exact Ao<|Ad<|Ac rfl<|Ac rfl<|Aa (Ax rfl) rfl<|Ba underlying55 rfl (QT _)<|Aa (Al (SA _) rfl d c) rfl<|Aa (Ap (sz:=3) Rf rfl (Ck _ _)) rfl<|Bz rfl<|Ak<|Bu rfl false (rfl)<|Bk<|Aj<|Aj<|A0<|Cu rfl<|⟨rfl,rfl⟩
theorem LS (A:Nat) (a:List Value) (w:World) (d:AP w A BG a) (c:a[10]? =some (.slice none 0 0)):AK prog 95 [.pointer (some ⟨A,0,none⟩)] w (fun r b=>r= .tuple #[]∧w=b):=by
 refine Az (n:=42) func95 O<|Ad<|Ab O<|Ak<|An ?_
 refine Bl (S:=Unit) (fun s=>[(0, .pointer (some ⟨A,0,none⟩)),(2, .int .i64 0)]) (fun s b=>w=b) (fun s=>0) (()) ⟨rfl,rfl,trivial⟩ ?_ ?_
 ·rfl
 rintro _ _ rfl
 exact Ao<|Ad<|Ac rfl<|Ac rfl<|Aa (Ax rfl) rfl<|Ba underlying55 rfl (QT _)<|Aa (Al (SA _) rfl d c) rfl<|Aa (Ap (sz:=3) Rf rfl (Ck _ _)) rfl<|Bz rfl<|Ak<|Bu rfl false (rfl)<|Bk<|Aj<|Aj<|A0<|Cu rfl<|⟨rfl,rfl⟩
theorem LF (A:Nat) (a:List Value) (w:World) (d:AP w A BG a) (c:a[10]? =some (.slice none 0 0)):AK prog 110 [.pointer (some ⟨A,0,none⟩)] w (fun r b=>r= .bool true∧w=b):=by
 refine Az (n:=64) func110 O<|Ad<|Ab O<|Bi<|Ab O<|Ak<|An ?_
 refine Bl (S:=Unit) (fun s=>[(0, .pointer (some ⟨A,0,none⟩)),(2, .bool false),(3, .int .i64 0)]) (fun s b=>w=b) (fun s=>0) (()) ⟨rfl,rfl,rfl,trivial⟩ ?_ ?_
 ·rfl
 rintro _ _ rfl
 exact Ao<|Ad<|Ac rfl<|Ac rfl<|Aa (Ax rfl) rfl<|Ba underlying55 rfl (QT _)<|Aa (Al (SA _) rfl d c) rfl<|Aa (Ap (sz:=3) Rf rfl (Ck _ _)) rfl<|Bz rfl<|Ak<|Bu rfl false (rfl)<|Bk<|Aj<|Aj<|A0<|Cb<|Ab rfl<|Ay<|As rfl rfl<|⟨rfl,rfl⟩
theorem Ni (A:Nat) (a:List Value) (w:World) (d:AP w A BG a) (c:a[11]? =some (.slice none 0 0)):AK prog 81 [.pointer (some ⟨A,0,none⟩)] w (fun r b=>r= .tuple #[]∧w=b):=by
 refine Az (n:=35) func81 O<|Ad<|Ab O<|Ak<|An ?_
 refine Bl (S:=Unit) (fun s=>[(0, .pointer (some ⟨A,0,none⟩)),(2, .int .i64 0)]) (fun s b=>w=b) (fun s=>0) (()) ⟨rfl,rfl,trivial⟩ ?_ ?_
 ·rfl
 rintro _ _ rfl
 exact Ao<|Ad<|Ac rfl<|Ac rfl<|Aa (Ax rfl) rfl<|Ba underlying55 rfl (QS _)<|Aa (Al (S9 _) rfl d c) rfl<|Aa (Ap (sz:=3) Re rfl (Ck _ _)) rfl<|Bz rfl<|Ak<|Bu rfl false (rfl)<|Bk<|Aj<|Aj<|A0<|Cu rfl<|⟨rfl,rfl⟩
theorem Nb (A:Nat) (a:List Value) (w:World) (d:AP w A BG a) (c:a[11]? =some (.slice none 0 0)):AK prog 96 [.pointer (some ⟨A,0,none⟩)] w (fun r b=>r= .tuple #[]∧w=b):=by
 refine Az (n:=42) func96 O<|Ad<|Ab O<|Ak<|An ?_
 refine Bl (S:=Unit) (fun s=>[(0, .pointer (some ⟨A,0,none⟩)),(2, .int .i64 0)]) (fun s b=>w=b) (fun s=>0) (()) ⟨rfl,rfl,trivial⟩ ?_ ?_
 ·rfl
 rintro _ _ rfl
 exact Ao<|Ad<|Ac rfl<|Ac rfl<|Aa (Ax rfl) rfl<|Ba underlying55 rfl (QS _)<|Aa (Al (S9 _) rfl d c) rfl<|Aa (Ap (sz:=3) Re rfl (Ck _ _)) rfl<|Bz rfl<|Ak<|Bu rfl false (rfl)<|Bk<|Aj<|Aj<|A0<|Cu rfl<|⟨rfl,rfl⟩
theorem ML (A:Nat) (a:List Value) (w:World) (d:AP w A BG a) (c:a[11]? =some (.slice none 0 0)):AK prog 111 [.pointer (some ⟨A,0,none⟩)] w (fun r b=>r= .bool true∧w=b):=by
 refine Az (n:=64) func111 O<|Ad<|Ab O<|Bi<|Ab O<|Ak<|An ?_
 refine Bl (S:=Unit) (fun s=>[(0, .pointer (some ⟨A,0,none⟩)),(2, .bool false),(3, .int .i64 0)]) (fun s b=>w=b) (fun s=>0) (()) ⟨rfl,rfl,rfl,trivial⟩ ?_ ?_
 ·rfl
 rintro _ _ rfl
 exact Ao<|Ad<|Ac rfl<|Ac rfl<|Aa (Ax rfl) rfl<|Ba underlying55 rfl (QS _)<|Aa (Al (S9 _) rfl d c) rfl<|Aa (Ap (sz:=3) Re rfl (Ck _ _)) rfl<|Bz rfl<|Ak<|Bu rfl false (rfl)<|Bk<|Aj<|Aj<|A0<|Cb<|Ab rfl<|Ay<|As rfl rfl<|⟨rfl,rfl⟩
theorem Qv (A:Nat) (a:List Value) (w:World) (d:AP w A BG a) (c:a[12]? =some (.slice none 0 0)):AK prog 82 [.pointer (some ⟨A,0,none⟩)] w (fun r b=>r= .tuple #[]∧w=b):=by
 refine Az (n:=35) func82 O<|Ad<|Ab O<|Ak<|An ?_
 refine Bl (S:=Unit) (fun s=>[(0, .pointer (some ⟨A,0,none⟩)),(2, .int .i64 0)]) (fun s b=>w=b) (fun s=>0) (()) ⟨rfl,rfl,trivial⟩ ?_ ?_
 ·rfl
 rintro _ _ rfl
 exact Ao<|Ad<|Ac rfl<|Ac rfl<|Aa (Ax rfl) rfl<|Ba underlying55 rfl (QR _)<|Aa (Al (S8 _) rfl d c) rfl<|Aa (Ap (sz:=3) Rd rfl (Ck _ _)) rfl<|Bz rfl<|Ak<|Bu rfl false (rfl)<|Bk<|Aj<|Aj<|A0<|Cu rfl<|⟨rfl,rfl⟩
theorem Qo (A:Nat) (a:List Value) (w:World) (d:AP w A BG a) (c:a[12]? =some (.slice none 0 0)):AK prog 97 [.pointer (some ⟨A,0,none⟩)] w (fun r b=>r= .tuple #[]∧w=b):=by
 refine Az (n:=42) func97 O<|Ad<|Ab O<|Ak<|An ?_
 refine Bl (S:=Unit) (fun s=>[(0, .pointer (some ⟨A,0,none⟩)),(2, .int .i64 0)]) (fun s b=>w=b) (fun s=>0) (()) ⟨rfl,rfl,trivial⟩ ?_ ?_
 ·rfl
 rintro _ _ rfl
 exact Ao<|Ad<|Ac rfl<|Ac rfl<|Aa (Ax rfl) rfl<|Ba underlying55 rfl (QR _)<|Aa (Al (S8 _) rfl d c) rfl<|Aa (Ap (sz:=3) Rd rfl (Ck _ _)) rfl<|Bz rfl<|Ak<|Bu rfl false (rfl)<|Bk<|Aj<|Aj<|A0<|Cu rfl<|⟨rfl,rfl⟩
theorem Qa (A:Nat) (a:List Value) (w:World) (d:AP w A BG a) (c:a[12]? =some (.slice none 0 0)):AK prog 112 [.pointer (some ⟨A,0,none⟩)] w (fun r b=>r= .bool true∧w=b):=by
 refine Az (n:=64) func112 O<|Ad<|Ab O<|Bi<|Ab O<|Ak<|An ?_
 refine Bl (S:=Unit) (fun s=>[(0, .pointer (some ⟨A,0,none⟩)),(2, .bool false),(3, .int .i64 0)]) (fun s b=>w=b) (fun s=>0) (()) ⟨rfl,rfl,rfl,trivial⟩ ?_ ?_
 ·rfl
 rintro _ _ rfl
 exact Ao<|Ad<|Ac rfl<|Ac rfl<|Aa (Ax rfl) rfl<|Ba underlying55 rfl (QR _)<|Aa (Al (S8 _) rfl d c) rfl<|Aa (Ap (sz:=3) Rd rfl (Ck _ _)) rfl<|Bz rfl<|Ak<|Bu rfl false (rfl)<|Bk<|Aj<|Aj<|A0<|Cb<|Ab rfl<|Ay<|As rfl rfl<|⟨rfl,rfl⟩
theorem OA (A:Nat) (a:List Value) (w:World) (d:AP w A BG a) (c:a[13]? =some (.slice none 0 0)):AK prog 83 [.pointer (some ⟨A,0,none⟩)] w (fun r b=>r= .tuple #[]∧w=b):=by
 refine Az (n:=35) func83 O<|Ad<|Ab O<|Ak<|An ?_
 refine Bl (S:=Unit) (fun s=>[(0, .pointer (some ⟨A,0,none⟩)),(2, .int .i64 0)]) (fun s b=>w=b) (fun s=>0) (()) ⟨rfl,rfl,trivial⟩ ?_ ?_
 ·rfl
 rintro _ _ rfl
 exact Ao<|Ad<|Ac rfl<|Ac rfl<|Aa (Ax rfl) rfl<|Ba underlying55 rfl (QQ _)<|Aa (Al (S7 _) rfl d c) rfl<|Aa (Ap (sz:=3) Rb rfl (Ck _ _)) rfl<|Bz rfl<|Ak<|Bu rfl false (rfl)<|Bk<|Aj<|Aj<|A0<|Cu rfl<|⟨rfl,rfl⟩
theorem O2 (A:Nat) (a:List Value) (w:World) (d:AP w A BG a) (c:a[13]? =some (.slice none 0 0)):AK prog 98 [.pointer (some ⟨A,0,none⟩)] w (fun r b=>r= .tuple #[]∧w=b):=by
 refine Az (n:=42) func98 O<|Ad<|Ab O<|Ak<|An ?_
 refine Bl (S:=Unit) (fun s=>[(0, .pointer (some ⟨A,0,none⟩)),(2, .int .i64 0)]) (fun s b=>w=b) (fun s=>0) (()) ⟨rfl,rfl,trivial⟩ ?_ ?_
 ·rfl
 rintro _ _ rfl
 exact Ao<|Ad<|Ac rfl<|Ac rfl<|Aa (Ax rfl) rfl<|Ba underlying55 rfl (QQ _)<|Aa (Al (S7 _) rfl d c) rfl<|Aa (Ap (sz:=3) Rb rfl (Ck _ _)) rfl<|Bz rfl<|Ak<|Bu rfl false (rfl)<|Bk<|Aj<|Aj<|A0<|Cu rfl<|⟨rfl,rfl⟩
theorem Of (A:Nat) (a:List Value) (w:World) (d:AP w A BG a) (c:a[13]? =some (.slice none 0 0)):AK prog 113 [.pointer (some ⟨A,0,none⟩)] w (fun r b=>r= .bool true∧w=b):=by
 refine Az (n:=64) func113 O<|Ad<|Ab O<|Bi<|Ab O<|Ak<|An ?_
 refine Bl (S:=Unit) (fun s=>[(0, .pointer (some ⟨A,0,none⟩)),(2, .bool false),(3, .int .i64 0)]) (fun s b=>w=b) (fun s=>0) (()) ⟨rfl,rfl,rfl,trivial⟩ ?_ ?_
 ·rfl
 rintro _ _ rfl
 exact Ao<|Ad<|Ac rfl<|Ac rfl<|Aa (Ax rfl) rfl<|Ba underlying55 rfl (QQ _)<|Aa (Al (S7 _) rfl d c) rfl<|Aa (Ap (sz:=3) Rb rfl (Ck _ _)) rfl<|Bz rfl<|Ak<|Bu rfl false (rfl)<|Bk<|Aj<|Aj<|A0<|Cb<|Ab rfl<|Ay<|As rfl rfl<|⟨rfl,rfl⟩
theorem O9 (A:Nat) (a:List Value) (w:World) (d:AP w A BG a) (c:a[14]? =some (.slice none 0 0)):AK prog 84 [.pointer (some ⟨A,0,none⟩)] w (fun r b=>r= .tuple #[]∧w=b):=by
 refine Az (n:=35) func84 O<|Ad<|Ab O<|Ak<|An ?_
 refine Bl (S:=Unit) (fun s=>[(0, .pointer (some ⟨A,0,none⟩)),(2, .int .i64 0)]) (fun s b=>w=b) (fun s=>0) (()) ⟨rfl,rfl,trivial⟩ ?_ ?_
 ·rfl
 rintro _ _ rfl
 exact Ao<|Ad<|Ac rfl<|Ac rfl<|Aa (Ax rfl) rfl<|Ba underlying55 rfl (QP _)<|Aa (Al (S6 _) rfl d c) rfl<|Aa (Ap (sz:=3) Ra rfl (Ck _ _)) rfl<|Bz rfl<|Ak<|Bu rfl false (rfl)<|Bk<|Aj<|Aj<|A0<|Cu rfl<|⟨rfl,rfl⟩
theorem O1 (A:Nat) (a:List Value) (w:World) (d:AP w A BG a) (c:a[14]? =some (.slice none 0 0)):AK prog 99 [.pointer (some ⟨A,0,none⟩)] w (fun r b=>r= .tuple #[]∧w=b):=by
 refine Az (n:=42) func99 O<|Ad<|Ab O<|Ak<|An ?_
 refine Bl (S:=Unit) (fun s=>[(0, .pointer (some ⟨A,0,none⟩)),(2, .int .i64 0)]) (fun s b=>w=b) (fun s=>0) (()) ⟨rfl,rfl,trivial⟩ ?_ ?_
 ·rfl
 rintro _ _ rfl
 exact Ao<|Ad<|Ac rfl<|Ac rfl<|Aa (Ax rfl) rfl<|Ba underlying55 rfl (QP _)<|Aa (Al (S6 _) rfl d c) rfl<|Aa (Ap (sz:=3) Ra rfl (Ck _ _)) rfl<|Bz rfl<|Ak<|Bu rfl false (rfl)<|Bk<|Aj<|Aj<|A0<|Cu rfl<|⟨rfl,rfl⟩
theorem Oe (A:Nat) (a:List Value) (w:World) (d:AP w A BG a) (c:a[14]? =some (.slice none 0 0)):AK prog 114 [.pointer (some ⟨A,0,none⟩)] w (fun r b=>r= .bool true∧w=b):=by
 refine Az (n:=64) func114 O<|Ad<|Ab O<|Bi<|Ab O<|Ak<|An ?_
 refine Bl (S:=Unit) (fun s=>[(0, .pointer (some ⟨A,0,none⟩)),(2, .bool false),(3, .int .i64 0)]) (fun s b=>w=b) (fun s=>0) (()) ⟨rfl,rfl,rfl,trivial⟩ ?_ ?_
 ·rfl
 rintro _ _ rfl
 exact Ao<|Ad<|Ac rfl<|Ac rfl<|Aa (Ax rfl) rfl<|Ba underlying55 rfl (QP _)<|Aa (Al (S6 _) rfl d c) rfl<|Aa (Ap (sz:=3) Ra rfl (Ck _ _)) rfl<|Bz rfl<|Ak<|Bu rfl false (rfl)<|Bk<|Aj<|Aj<|A0<|Cb<|Ab rfl<|Ay<|As rfl rfl<|⟨rfl,rfl⟩
theorem O8 (A:Nat) (a:List Value) (w:World) (d:AP w A BG a) (c:a[15]? =some (.slice none 0 0)):AK prog 85 [.pointer (some ⟨A,0,none⟩)] w (fun r b=>r= .tuple #[]∧w=b):=by
 refine Az (n:=35) func85 O<|Ad<|Ab O<|Ak<|An ?_
 refine Bl (S:=Unit) (fun s=>[(0, .pointer (some ⟨A,0,none⟩)),(2, .int .i64 0)]) (fun s b=>w=b) (fun s=>0) (()) ⟨rfl,rfl,trivial⟩ ?_ ?_
 ·rfl
 rintro _ _ rfl
 exact Ao<|Ad<|Ac rfl<|Ac rfl<|Aa (Ax rfl) rfl<|Ba underlying55 rfl (QO _)<|Aa (Al (S5 _) rfl d c) rfl<|Aa (Ap (sz:=3) QZ rfl (Ck _ _)) rfl<|Bz rfl<|Ak<|Bu rfl false (rfl)<|Bk<|Aj<|Aj<|A0<|Cu rfl<|⟨rfl,rfl⟩
theorem O0 (A:Nat) (a:List Value) (w:World) (d:AP w A BG a) (c:a[15]? =some (.slice none 0 0)):AK prog 100 [.pointer (some ⟨A,0,none⟩)] w (fun r b=>r= .tuple #[]∧w=b):=by
 refine Az (n:=42) func100 O<|Ad<|Ab O<|Ak<|An ?_
 refine Bl (S:=Unit) (fun s=>[(0, .pointer (some ⟨A,0,none⟩)),(2, .int .i64 0)]) (fun s b=>w=b) (fun s=>0) (()) ⟨rfl,rfl,trivial⟩ ?_ ?_
 ·rfl
 rintro _ _ rfl
 exact Ao<|Ad<|Ac rfl<|Ac rfl<|Aa (Ax rfl) rfl<|Ba underlying55 rfl (QO _)<|Aa (Al (S5 _) rfl d c) rfl<|Aa (Ap (sz:=3) QZ rfl (Ck _ _)) rfl<|Bz rfl<|Ak<|Bu rfl false (rfl)<|Bk<|Aj<|Aj<|A0<|Cu rfl<|⟨rfl,rfl⟩
theorem Od (A:Nat) (a:List Value) (w:World) (d:AP w A BG a) (c:a[15]? =some (.slice none 0 0)):AK prog 115 [.pointer (some ⟨A,0,none⟩)] w (fun r b=>r= .bool true∧w=b):=by
 refine Az (n:=64) func115 O<|Ad<|Ab O<|Bi<|Ab O<|Ak<|An ?_
 refine Bl (S:=Unit) (fun s=>[(0, .pointer (some ⟨A,0,none⟩)),(2, .bool false),(3, .int .i64 0)]) (fun s b=>w=b) (fun s=>0) (()) ⟨rfl,rfl,rfl,trivial⟩ ?_ ?_
 ·rfl
 rintro _ _ rfl
 exact Ao<|Ad<|Ac rfl<|Ac rfl<|Aa (Ax rfl) rfl<|Ba underlying55 rfl (QO _)<|Aa (Al (S5 _) rfl d c) rfl<|Aa (Ap (sz:=3) QZ rfl (Ck _ _)) rfl<|Bz rfl<|Ak<|Bu rfl false (rfl)<|Bk<|Aj<|Aj<|A0<|Cb<|Ab rfl<|Ay<|As rfl rfl<|⟨rfl,rfl⟩
end Go.Proofs.YtblbopcaflaldaaGreatDoor

namespace Go.Proofs.YtblbopcaflaldaaGreatDoor
open Go Go.Dd Go.RowKit List
set_option maxRecDepth 100000
end Go.Proofs.YtblbopcaflaldaaGreatDoor

namespace Go.Proofs.YtblbopcaflaldaaGreatDoor
open Go Go.Dd Go.RowKit List Go.Proofs.Tryz
set_option maxRecDepth 100000
theorem H1 {s:List Int} {i:Nat} (h:i<s.length):Shapes.prod (s.take (i+1))=Shapes.prod (s.take i)*s.getD i default:=by
 rw [take_succ_eq_append_getElem h,Shapes.prod_append]
 simp [Shapes.prod,h]
theorem Qp {s:List Int} {i:Nat} (h:i<s.length) (b:Shapes.good (s.take i)) (a:1≤s.getD i default∧s.getD i default≤64):Shapes.good (s.take (i+1)):=by
 rw [take_succ_eq_append_getElem h,Shapes.good_append]
 refine ⟨b,fun x c=> ?_⟩
 have:x=s.getD i default:=by simpa [h] using c
 rw [this];exact a
theorem IE:∀{s:List Int},Shapes.good s→s.length≤4→1≤Shapes.prod s∧Shapes.prod s≤16777216
 |s,hg,hl=>by
  have key:∀(s:List Int),Shapes.good s→Shapes.prod s≤64 ^ s.length:=by
   intro s
   induction s with
   |nil=>intro _;simp [Shapes.prod]
   |cons x s ih=>
    intro h
    have b:=(Shapes.good_cons.1 h).1
    have a:=ih (Shapes.good_cons.1 h).2
    have c:=Shapes.prod_pos (Shapes.good_cons.1 h).2
    have:=Int.mul_le_mul b.2 a (by omega) (by omega)
    rw [length_cons,Int.pow_succ,Int.mul_comm ((64:Int) ^ s.length)]
    exact this
  refine ⟨Shapes.prod_pos hg,Int.le_trans (key s hg) ?_⟩
  have:s.length=0∨s.length=1∨s.length=2∨s.length=3∨s.length=4:=by omega
  rcases this with h|h|h|h|h<;>rw [h]<;>decide
theorem DA (u:Value) (s:List Int) (w:World) (x:BO (Value.int .i64) w u s):AK prog 163 [u] w (fun r j=>r= .bool (Shapes.ok s)∧Below w.heap.size w j):=by
 have d:(s.length<1∨4<s.length)→Shapes.ok s=false:=fun h=>by
  cases hk:Shapes.ok s with
  |false=>rfl
  |true=>have:=(Shapes.ok_iff s).1 hk;omega
 refine Az (n:=39) func163 O<|Ad<|Ab O<|Bi<|Ac O<|Aa (Ap AE O ‹_›) O ?_
 refine Bz O<|Ac O ?_
 refine Cc 8 O ?_ ?_
 ·intro g
  refine Ae (dj:=8) O O O O<|Ae (dj:=8) O O O O<|Ae (dj:=8) O O O O<|B7 O<|Ak<|Ca O<|Ad<|Ab O<|B2<|As O O ?_
  exact ⟨by rw [d (.inl (by have:=AC g;omega))],Below.refl _ _⟩
 intro g
 have v:=AD g
 refine Ag (dj:=8) O O<|Ac O<|Ag (dj:=8) O O<|Aa (Ap AE O ‹_›) O ?_
 refine Ag (dj:=8) O O<|Aa (Dh O O) O<|Ci O<|Ak<|Aq O ?_ ?_
 ·intro g
  refine Ad<|Ab O<|B2<|As O O ?_
  exact ⟨by rw [d (.inr (by have:=AC g;omega))],Below.refl _ _⟩
 intro g
 have q:=AD g
 have m:1≤s.length∧s.length≤4:=by omega
 refine Cs<|Ab O<|Bi<|Ab O<|Ak<|An ?_
 refine Bl (S:=Nat) (fun i=>[(0,u),(2, .bool false),(3, .int .i64 (Shapes.prod (s.take i))),(4, .int .i64 (i:Int))]) (fun i j=>i≤s.length∧Shapes.good (s.take i)∧j=w) (fun i=>s.length - i) (0) ⟨rfl,rfl,rfl,rfl,trivial⟩ ?_ ?_
 ·exact ⟨by omega,by simp [Shapes.good],rfl⟩
 rintro i p ⟨y,f,rfl⟩
 have l:=IE f (by rw [length_take];omega)
 refine Ao<|Ad<|Ac O<|Ac O<|Aa (Ap AE O ‹_›) O ?_
 refine Bz O<|Ak<|Aq O ?_ ?_
 ·intro h
  have a:i<s.length:=by simp at h;omega
  have b:(s.getD i default<1∨64<s.getD i default)→Shapes.ok s=false:=fun h=>by
   cases hk:Shapes.ok s with
   |false=>rfl
   |true=>
    have:=((Shapes.ok_iff s).1 hk).2.1 s[i] (getElem_mem a)
    simp [a] at h
    omega
  refine Bw<|Ao<|An<|Ao<|Ad<|Ac O<|Ac O<|Aa (Bh AE O O ‹_› _ O (by omega)) O ?_
  refine Aa (Bo (AO _) O ‹_› (by omega)) O ?_
  refine Bz O<|Ac O ?_
  refine Cc 24 O ?_ ?_
  ·intro g
   exact Ae (dj:=24) rfl rfl rfl rfl<|Ae (dj:=24) rfl rfl rfl rfl<|Ae (dj:=24) rfl rfl rfl rfl<|Ae (dj:=24) rfl rfl rfl rfl<|Ae (dj:=24) rfl rfl rfl rfl<|B7 rfl<|Ak<|Ca rfl<|Ad<|Ab rfl<|B2<|Bj<|Av<|Av<|Bj<|Av<|As rfl rfl<|⟨by rw [b (.inl (AC g))],Below.refl _ _⟩
  intro g
  have z:=AD g
  refine Ag (dj:=24) O O<|Ac O<|Ag (dj:=24) O O<|Ac O<|Ag (dj:=24) O O<|Aa (Bh AE O O ‹_› _ O (by omega)) O ?_
  refine Ag (dj:=24) O O<|Aa (Bo (AO _) O ‹_› (by omega)) O ?_
  refine Ag (dj:=24) O O<|Aa (Dh O O) O<|Ci O<|Ak<|Aq O ?_ ?_
  ·intro g
   exact Ad<|Ab rfl<|B2<|Bj<|Av<|Av<|Bj<|Av<|As rfl rfl<|⟨by rw [b (.inr (AC g))],Below.refl _ _⟩
  intro g
  have t:=AD g
  have o:1≤s.getD i default∧s.getD i default≤64:=by omega
  have c:=Qp a f o
  have k:=IE c (by rw [length_take];omega)
  rw [H1 a] at k
  refine Bw<|Bn<|Ac O<|Ac O<|Ac O<|Aa (Bh AE O O ‹_› _ O (by omega)) O ?_
  refine Aa (Bo (AO _) O ‹_› (by omega)) O ?_
  refine Aa (Dv O O (by omega)) O<|Ab O<|Bd<|Bg<|B6<|Ac O<|B1 O (by omega)<|Ab O<|Bd ?_
  exact Ar (Bp (i+1) ⟨rfl,rfl,(by rw [H1 a];rfl),rfl,trivial⟩ (⟨a,c,rfl⟩) (by omega))
 intro h
 have a:i=s.length:=by simp at h;omega
 subst a
 rw [take_length] at f l
 have e:decide (Shapes.prod (s.take s.length)≤4096)=Shapes.ok s:=by
  rw [take_length]
  cases hk:Shapes.ok s with
  |true=>exact decide_eq_true ((Shapes.ok_iff s).1 hk).2.2
  |false=>
   refine decide_eq_false fun h=> ?_
   have:=(Shapes.ok_iff s).2 ⟨m,f,h⟩
   rw [hk] at this;cases this
 exact Bk<|Aj<|Aj<|A0<|Cb<|Ac rfl<|Aa (Dy rfl rfl) rfl<|Ab rfl<|Ay<|As rfl rfl<|⟨by rw [← e],Below.refl _ _⟩
theorem J1 (u:Value) (s:List Int) (w:World) (d:BO (Value.int .i64) w u s):AK prog 164 [u] w (fun r c=>r= .int .i64 (Shapes.size s)∧Below w.heap.size w c):=by
 refine Az (n:=21) func164 O<|Ad<|Ab O<|Bi<|Ac O<|Ai O O (DA u s w d) ?_
 rintro _ j ⟨rfl,e⟩
 have d:=d.bs e
 refine Aa (Co O) O<|Ak<|Aq O ?_ ?_
 ·intro g
  exact Ad<|Ab rfl<|B2<|As rfl rfl<|⟨by rw [Shapes.size_no (by simpa using g)],e⟩
 intro g
 have f:Shapes.ok s=true:=by simpa using g
 have k:=(Shapes.ok_iff s).1 f
 refine Cs<|Ab O<|Bi<|Ab O<|Ak<|An ?_
 refine Bl (S:=Nat) (fun i=>[(0,u),(3, .int .i64 (Shapes.prod (s.take i))),(4, .int .i64 (i:Int))]) (fun i c=>i≤s.length∧c=j) (fun i=>s.length - i) (0) ⟨rfl,rfl,rfl,trivial⟩ ?_ ?_
 ·exact ⟨by omega,rfl⟩
 rintro i m ⟨o,rfl⟩
 refine Ao<|Ad<|Ac O<|Ac O<|Aa (Ap AE O ‹_›) O ?_
 refine Bz O<|Ak<|Aq O ?_ ?_
 ·intro h
  have a:i<s.length:=by simp at h;omega
  have b:=IE (s:=s.take (i+1)) (fun x l=>k.2.1 x (mem_of_mem_take l)) (by rw [length_take];omega)
  rw [H1 a] at b
  refine Bw<|Ao<|An<|Bn<|Ac O<|Ac O<|Ac O<|Aa (Bh AE O O ‹_› _ O (by omega)) O ?_
  refine Aa (Bo (AO _) O ‹_› (by omega)) O ?_
  refine Aa (Dv O O (by omega)) O<|Ab O<|Bd<|Bg<|B6<|Ac O<|B1 O (by omega)<|Ab O<|Bd ?_
  exact Ar (Bp (i+1) ⟨rfl,(by rw [H1 a];rfl),rfl,trivial⟩ (⟨a,rfl⟩) (by omega))
 intro h
 have a:i=s.length:=by simp at h;omega
 subst a
 exact Bk<|Aj<|Aj<|A0<|Cb<|Ac rfl<|Ab rfl<|Ay<|As rfl rfl<|⟨by rw [take_length,Shapes.size_ok f],e⟩
theorem JO (u v:Value) (a b:List Int) (w:World) (s:BO (Value.int .i64) w u a) (A:BO (Value.int .i64) w v b):AK prog 150 [u,v] w (fun r m=>r= .bool (decide (a=b))∧Below w.heap.size w m):=by
 have B:=s.le
 refine Az (n:=26) func150 O<|Ad<|Ab O<|Bi<|Ac O<|Aa (Ap AE O ‹_›) O ?_
 refine Ac O<|Aa (Ap AE O ‹_›) O ?_
 refine Aa (Ct O O) O<|Ak<|Aq O ?_ ?_
 ·intro h
  have o:a≠b:=fun e=>by subst e;simp at h
  exact Ad<|Ab rfl<|B2<|As rfl rfl<|⟨by rw [decide_eq_false o],Below.refl _ _⟩
 intro h
 have z:a.length=b.length:=by simp at h;omega
 refine Bw<|Ao<|Ad<|Ab O<|Ak<|An ?_
 refine Bl (S:=Nat) (fun i=>[(0,u),(1,v),(4, .bool false),(5, .int .i64 (i:Int))]) (fun i m=>i≤a.length∧a.take i=b.take i∧Below w.heap.size w m) (fun i=>a.length - i) (0) ⟨rfl,rfl,rfl,rfl,trivial⟩ ?_ ?_
 ·exact ⟨by omega,by simp,Below.refl _ _⟩
 rintro i j ⟨C,p,f⟩
 have t:=s.bs f
 have x:=A.bs f
 refine Ao<|Ad<|Ac O<|Ac O<|Aa (Ap AE O ‹_›) O ?_
 refine Bz O<|Ak<|Aq O ?_ ?_
 ·intro h
  have c:i<a.length:=by simp at h;omega
  have k:i<b.length:=by omega
  refine Bw<|Ao<|An<|Ao<|Da BB (by kernel_rfl)<|Bq O<|Bq O<|Ah (fun j d=>Bh AE O O (Sl.bs ‹_› d) _ O (by omega)) O ?_
  refine Ah (fun j d=>Bo (AO _) O (Sl.bs ‹_› d) (by omega)) O ?_
  refine Bq O<|Bq O<|Ah (fun j d=>Bh AE O O (Sl.bs ‹_› d) _ O (by omega)) O ?_
  refine Ah (fun j d=>Bo (AO _) O (Sl.bs ‹_› d) (by omega)) O ?_
  refine Ah (fun j d=>Ct O O) O ?_
  refine C2 (fun D d=> ?_)
  refine Ar<|B9 ?_
  have l:=bt f d
  refine Aq O ?_ ?_
  ·intro g
   have q:a.getD i default≠b.getD i default:=by simpa using g
   exact Ad<|Ab rfl<|Ay<|Bj<|Av<|Av<|Bj<|Av<|As rfl rfl<|⟨by rw [decide_eq_false (fun e=>q (by rw [e]))],l⟩
  ·intro g
   have q:a.getD i default=b.getD i default:=by simpa using g
   have y:a[i]=b[i]:=by simpa [c,k] using q
   refine Cj<|Bg<|B6<|Ac O<|B1 O (by omega)<|Ab O<|Bd ?_
   exact Ar (Bp (i+1) ⟨rfl,rfl,rfl,rfl,trivial⟩ (⟨c,by rw [take_succ_eq_append_getElem c,take_succ_eq_append_getElem k,p,y],l⟩) (by omega))
 ·intro h
  have c:i=a.length:=by simp at h;omega
  subst c
  refine Bk<|Aj<|Aj<|A0<|Cb<|Ab O<|Ay<|As O O ?_
  exact ⟨by rw [decide_eq_true (by rw [take_length,z,take_length] at p;exact p)],f⟩

theorem Rt (n:Nat):(replicate n [Value.int .i32 0]).flatten=(replicate n 0#32).map i32:=by
 induction n with
 |zero=>rfl
 |succ n ih=>simp [replicate_succ,i32]
theorem PC (x y:Value) (s:List Int) (l:List (BitVec 32)) (w:World) (k:BO (Value.int .i64) w x s) (h:BO i32 w y l):
  AK prog 149 [.agg #[x,y]] w (fun r f=>r= .bool (L1 s l)∧Below w.heap.size w f):=by
 refine Az (n:=15) func149 O<|Ad<|Bc (Xw.box (cs:=[x,y]) O O) O ?_
 rintro _ b ⟨rfl,m,c,e⟩
 have d:=k.bs c
 have i:=h.bs c
 refine Ab O<|Ak<|Ao<|Da BB (by kernel_rfl)<|Ah (fun b a=>B8 underlying75 O (AT _)) O<|Ah (fun b a=>Al (AN _) O (AP.bs ‹_› a) O) O ?_
 refine Db O O (fun b a=>(DA x s b (d.bs a)).q a)<|Bq O ?_
 refine Dj 6 O ?_ ?_
 ·intro g
  refine Bb (dj:=6) O O<|Ah (fun b a=>B8 underlying75 O (CW _)) O<|Bb (dj:=6) O O<|Ah (fun b a=>Al (DC _) O (AP.bs ‹_› a) O) O ?_
  refine Bb (dj:=6) O O<|Ah (fun b a=>Ap BP O (Sl.bs ‹_› a)) O ?_
  refine Bb (dj:=6) O O<|Ah (fun b a=>B8 underlying75 O (AT _)) O<|Bb (dj:=6) O O<|Ah (fun b a=>Al (AN _) O (AP.bs ‹_› a) O) O ?_
  refine Bb (dj:=6) O O<|Db O O (fun b a=>(J1 x s b (d.bs a)).q a)<|Bb (dj:=6) O O<|Ah (fun b a=>C6 O O) O<|Ah (fun b a=>C3 O O) O<|Dx O ?_
  refine C2 (fun j a=> ?_)
  refine Ar<|B9<|Dq<|As O O ?_
  exact ⟨cngA Value.bool (by unfold L1;rw [g];rfl),bt c a⟩
 ·intro g
  refine Au (dj:=6) O O O O<|Au (dj:=6) O O O O<|Au (dj:=6) O O O O<|Au (dj:=6) O O O O<|Au (dj:=6) O O O O<|Au (dj:=6) O O O O<|Au (dj:=6) O O O O<|Ah (fun b a=>C0 O O) O<|Dx O ?_
  refine C2 (fun j a=> ?_)
  refine Ar<|B9<|Dq<|As O O ?_
  exact ⟨cngA Value.bool (by unfold L1;rw [g];rfl),bt c a⟩
theorem Us (u:Value) (s:List Int) (W:World) (g:BO (Value.int .i64) W u s):
  AK prog 66 [u] W (fun r F=>Below W.heap.size W F∧((Shapes.ok s=true∧∃x y,r= .tuple #[.agg #[x,y], .int .i64 0]∧SK W F x y s (replicate (Shapes.size s).toNat 0#32))∨(Shapes.ok s=false∧r= .tuple #[.agg #[.slice none 0 0, .slice none 0 0], .int .i64 1]))):=by
 have c:=Below.refl W.heap.size W
 have N:=Shapes.size_le s
 refine Az (n:=14) func66 O<|Ad<|Du EC O ?_
 rintro A w I a d -
 have c:=c.bs d
 have g:=g.bs d
 refine Ab O<|Bi<|Ac O<|Ai O O (DA u s _ g) ?_
 rintro _ w ⟨rfl,d⟩
 have c:=c.bs d
 have g:=g.bs d
 have a:=a.bs d
 refine Aa (Co O) O<|Ak ?_
 have z:=AA c
 refine Aq O ?_ ?_
 ·intro h
  have v:Shapes.ok s=false:=by simpa using h
  refine Ad<|Ez O<|Bv (C7 (cs:=[.slice none 0 0, .slice none 0 0]) O O O O O a O) ?_
  rintro T ⟨a,l, -⟩
  have c:=c.grown l (AA c) (by rintro _ ⟨⟩;omega)
  refine Ab O<|B2<|Di O O O ‹_› underlying75 O O O ?_
  exact ⟨c, .inr ⟨v,rfl⟩⟩
 intro h
 have q:Shapes.ok s=true:=by simpa using h
 have J:=(Shapes.ok_iff s).1 q
 refine Cs<|Ac O<|Bc (D4 (base:=w.heap.size) (k:=0) (xs:=[]) AE DO O (by decide) O O ⟨rfl, .inl ⟨rfl,rfl⟩⟩ g (BL (fun _=>rfl) _) (by omega) (by omega) (AU _)) O ?_
 rintro x R ⟨E,l,t⟩
 have d:Below w.heap.size w R:=⟨l.os,l.tape,l.output,l.size,fun k j=>l.block k j (by simp [Value.ownBlock])⟩
 rw [Nat.zero_add,nil_append] at E
 have X:=BA a
 have C:∀b,x.ownBlock=some b→A<b:=fun b e=>by
  have:=(AB E b e).1
  omega
 have j:=AQ.mono (.inl E) z
 have c:=c.bs d
 have g:=g.bs d
 have a:=a.bs d
 refine Ac O<|Ai O O (J1 u s _ g) ?_
 rintro _ w ⟨rfl,d⟩
 have c:=c.bs d
 have g:=g.bs d
 have a:=a.bs d
 have j:=j.bs d
 refine Cm 11 (v' := .int .i64 (((Shapes.size s).toNat:Nat):Int)) O (cngA (Value.int .i64) (by omega))<|Bc (Eg BP HJ O O O (AU _) (by omega) (by omega)) O ?_
 rintro y S ⟨i,H,f, -⟩
 have p:=j.lt
 have M:=AA c
 have B:K9 y x:=by
  intro b G K
  rw [H] at G
  cases G
  exact absurd (p _ K).2 (Nat.lt_irrefl _)
 rw [Rt] at i
 have o:=(j.bs f).slT
 refine Aa (C1 (vs:=[(0,x),(1,y)]) (cs:=[x,y]) O (K3 _ _ o.one (AF i).one)) O ?_
 have V:=f.size
 have U:=BA a
 have c:=c.bs f
 have g:=g.bs f
 have a:=a.bs f
 have j:=j.bs f
 refine Bv (C7 (cs:=[x,y]) O O O O (by simp [o.one',(AF i).one']) a O) ?_
 rintro L ⟨Q,m, -⟩
 have D:Below W.heap.size W L:=c.grown m (AA c) (by rintro _ ⟨⟩;omega)
 refine Ab O<|Ay<|Di O O O ‹_› underlying75 O O O ?_
 refine ⟨D, .inl ⟨q,x,y,rfl, ?_, ?_,B⟩⟩
 ·exact j.by' m (by
   cases hc:x.ownBlock with
   |none=>exact .inl rfl
   |some b=>exact .inr fun h=>by have:=C b hc;cases h;omega)
 ·have:=i.kept m (.inr (by rw [H];simp [Value.ownBlock];omega))
  rw [length_replicate]
  exact BY this M
end Go.Proofs.YtblbopcaflaldaaGreatDoor

namespace Go.Proofs.YtblbopcaflaldaaGreatDoor
open Go Go.Dd Go.RowKit List
set_option maxRecDepth 100000
theorem _root_.Go.Dd.Twn.own {α:Type} {w:World} {base:Nat} {T:TypeId} {enc:α→Value} {a v:Value} {l:List α} (h:Twn w base T enc a v l):w.ownsRow base T 1 v l.length (l.map enc):=by
 obtain ⟨b,cap,rfl,c⟩:=h
 exact H6 c (by simp)
end Go.Proofs.YtblbopcaflaldaaGreatDoor

namespace Go.Proofs.YtblbopcaflaldaaGreatDoor
open Go Go.Dd Go.RowKit List Go.Proofs.Tryz
set_option maxRecDepth 100000
structure GK (w:World) (lo hi:Nat) (c:T4):Prop where
 rx:AQ w lo 3 1 c.x c.s.length (c.s.map (Value.int .i64))
 ry:AQ w lo 21 1 c.y c.l.length (c.l.map i32)
 bx:∀b,c.x.ownBlock=some b→lo≤b∧b<hi
 by' :∀b,c.y.ownBlock=some b→lo≤b∧b<hi
 apart:K9 c.y c.x
theorem GK.bs {w a:World} {d b:Nat} {c:T4} (h:GK w d b c) (g:Below w.heap.size w a):GK a d b c:=⟨h.rx.bs g,h.ry.bs g,h.bx,h.by',h.apart⟩
theorem GK.at {w:World} {a b:Nat} {c:T4} (h:GK w a b c):c.at w:=⟨h.rx.slT,h.ry.slT⟩
theorem GK.wide {w:World} {g i a d:Nat} {c:T4} (h:GK w g i c) (f:a≤g) (j:i≤d):GK w a d c:=
 ⟨h.rx.mono f,h.ry.mono f,fun b e=>by have:=h.bx b e;omega,fun b e=>by have:=h.by' b e;omega,h.apart⟩
def AZ (w:World):Nat→Nat→List T4→Prop
 |base,top,[]=>base≤top
 |base,top,c::cs=>∃lo hi,base≤lo∧lo≤hi∧GK w lo hi c∧AZ w hi top cs
theorem AZ.le:∀{w:World} {cs:List T4} {base a:Nat},AZ w base a cs→base≤a
 |_,[],_,_,h=>h
 |_,_::_,_,_,⟨_,_,h1,h2,_,h3⟩=>by have:=h3.le;omega
theorem AZ.bs {w b:World} (g:Below w.heap.size w b):∀{cs:List T4} {base a:Nat},AZ w base a cs→AZ b base a cs
 |[],_,_,h=>h
 |_::_,_,_,⟨lo,hi,h1,h2,h3,h4⟩=>⟨lo,hi,h1,h2,h3.bs g,AZ.bs g h4⟩
theorem AZ.each:∀{w:World} {cs:List T4} {base b:Nat},AZ w base b cs→∀c ∈ cs,GK w base b c
 |_,[],_,_,_=>fun c a=>by cases a
 |_,d::ds,_,_,⟨lo,hi,h1,h2,h3,h4⟩=>fun c a=>by
  have:=h4.le
  rcases List.mem_cons.1 a with rfl|a
  ·exact h3.wide h1 (by omega)
  ·exact (h4.each c a).wide (by omega) (AU _)
structure EE (w:World) (lo hi:Nat) (x y:Value) (a:T4):Prop where
 held:GK w lo hi ⟨x,y,a.s,a.l⟩
 tx:Twn w lo 3 (Value.int .i64) (Value.int .i64 (77)) x a.s
 ty:Twn w lo 21 i32 (i32 (77#32)) y a.l
theorem EE.bs {w b:World} {c d:Nat} {x y:Value} {a:T4} (h:EE w c d x y a) (g:Below w.heap.size w b):EE b c d x y a:=⟨h.held.bs g,h.tx.bs g,h.ty.bs g⟩
theorem Twn.mono {α:Type} {w:World} {B c:Nat} {T:TypeId} {enc:α→Value} {a v:Value} {l:List α} (h:Twn w B T enc a v l) (e:c≤B):Twn w c T enc a v l:=by
 obtain ⟨b,cap,rfl,d⟩:=h
 exact ⟨b,cap,rfl,BY d e⟩
theorem Twn.by {α:Type} {w d:World} {B r:Nat} {T:TypeId} {enc:α→Value} {a v:Value} {l:List α} (h:Twn w B T enc a v l) (f:w.grownBy d (some r)) (g:r<B):Twn d B T enc a v l:=by
 obtain ⟨b,cap,rfl,c⟩:=h
 exact ⟨b,cap,rfl,c.kept f (.inr fun e=>by have:=(AB c r e).1;omega)⟩
theorem SQ (a:T4) (w:World) (g:a.at w) (hs:a.s.length≤4194304) (D:a.l.length≤4194304):
  AK prog 140 [a.v] w (fun r B=>Below w.heap.size w B∧∃x y,r= .agg #[x,y]∧EE B w.heap.size B.heap.size x y a):=by
 have f:=Below.refl w.heap.size w
 refine Az (n:=10) func140 O<|Ad<|Bc (Xw.box (cs:=[a.x,a.y]) O O) O ?_
 rintro _ L ⟨rfl,b,d, -⟩
 have f:=f.bs d
 have g:=g.bs d
 have C:=AA f
 refine Bc (Xw.new EC) O ?_
 rintro _ Q ⟨rfl,c,d,M⟩
 have f:=f.bs d
 have g:=g.bs d
 have b:=b.bs d
 refine Ak<|Ao ?_
 refine Cw.any BB (fun A u _=> ?_)
 have f:=f.bs u
 have g:=g.bs u
 have b:=b.bs u
 have c:=c.bs u
 clear u
 refine Aw.take (i:=0) (Am Br) O (by kernel_rfl) (by kernel_rfl) (by kernel_rfl) (fun _=>B8 underlying75 O (AT _)) O<|Aw.take (i:=3) (Am Br) O (by kernel_rfl) (by kernel_rfl) (by kernel_rfl) (fun _=>B8 underlying75 O (CW _)) O ?_
 have E:=AA f
 have N:L.heap.size<A.heap.size:=BA c
 refine F9 (i:=1) (j:=4) (by kernel_rfl) O O ?_ ?_
 ·refine Aa (Al (AN _) O ‹_› rfl) O ?_
  refine Aw.back ?_
  refine F9 (i:=2) (j:=4) (by kernel_rfl) O O ?_ ?_
  ·refine Ai O O (G7 a.x a.s A g.1 hs) ?_
   rintro x t ⟨h,d⟩
   have m:=AB h.own
   have H:=d.size
   have f:=f.bs d
   have g:=g.bs d
   have b:=b.bs d
   have c:=c.bs d
   refine Aw.back<|Aw.only (i:=4) (by kernel_rfl) O<|Aa (Al (DC _) O ‹_› rfl) O ?_
   refine Aw.back<|Aw.only (i:=5) (by kernel_rfl) O<|Ai O O (GG a.y a.l t g.2 D) ?_
   rintro y K ⟨q,d⟩
   have k:=AB q.own
   have F:=d.size
   have f:=f.bs d
   have g:=g.bs d
   have b:=b.bs d
   have c:=c.bs d
   have h:=h.bs d
   refine Aw.back<|Aw.only (i:=6) (by kernel_rfl) O<|Aa (C1 (vs:=[(0,x),(1,y)]) (cs:=[x,y]) O (K3 _ _ h.sl.one q.sl.one)) O<|Aw.back<|Aw.only (i:=7) (by kernel_rfl) O<|Bv (C7 (cs:=[x,y]) O O O O (by simp [h.sl.one',q.sl.one']) c O) ?_
   rintro G ⟨J,p, -⟩
   have s:=f.grown p (AA f) (by rintro _ ⟨⟩;exact C)
   have I:=p.size
   have l:=Twn.mono (Twn.by h p (by omega)) E
   have o:=Twn.mono (Twn.by q p (by omega)) (show w.heap.size≤t.heap.size by omega)
   refine Aw.back<|D7 (by kernel_rfl)<|Ar<|B9<|Dq<|Eh O O ‹_› underlying75 O O O ?_
   exact ⟨s,x,y,rfl,⟨.inl l.own, .inl o.own,fun b e=>by have:=m b e;omega,fun b e=>by have:=k b e;omega,fun b z v=>by have:=m b v;have:=k b z;omega⟩,l,o⟩
  ·refine Aa (Al (DC _) O ‹_› rfl) O ?_
   refine Aw.back<|Aw.only (i:=2) (by kernel_rfl) O<|Ai O O (G7 a.x a.s A g.1 hs) ?_
   rintro x t ⟨h,d⟩
   have m:=AB h.own
   have H:=d.size
   have f:=f.bs d
   have g:=g.bs d
   have b:=b.bs d
   have c:=c.bs d
   refine Aw.back<|Aw.only (i:=5) (by kernel_rfl) O<|Ai O O (GG a.y a.l t g.2 D) ?_
   rintro y K ⟨q,d⟩
   have k:=AB q.own
   have F:=d.size
   have f:=f.bs d
   have g:=g.bs d
   have b:=b.bs d
   have c:=c.bs d
   have h:=h.bs d
   refine Aw.back<|Aw.only (i:=6) (by kernel_rfl) O<|Aa (C1 (vs:=[(0,x),(1,y)]) (cs:=[x,y]) O (K3 _ _ h.sl.one q.sl.one)) O<|Aw.back<|Aw.only (i:=7) (by kernel_rfl) O<|Bv (C7 (cs:=[x,y]) O O O O (by simp [h.sl.one',q.sl.one']) c O) ?_
   rintro G ⟨J,p, -⟩
   have s:=f.grown p (AA f) (by rintro _ ⟨⟩;exact C)
   have I:=p.size
   have l:=Twn.mono (Twn.by h p (by omega)) E
   have o:=Twn.mono (Twn.by q p (by omega)) (show w.heap.size≤t.heap.size by omega)
   refine Aw.back<|D7 (by kernel_rfl)<|Ar<|B9<|Dq<|Eh O O ‹_› underlying75 O O O ?_
   exact ⟨s,x,y,rfl,⟨.inl l.own, .inl o.own,fun b e=>by have:=m b e;omega,fun b e=>by have:=k b e;omega,fun b z v=>by have:=m b v;have:=k b z;omega⟩,l,o⟩
 ·refine Aa (Al (DC _) O ‹_› rfl) O ?_
  refine Aw.back<|Aw.only (i:=1) (by kernel_rfl) O<|Aa (Al (AN _) O ‹_› rfl) O ?_
  refine Aw.back<|Aw.only (i:=2) (by kernel_rfl) O<|Ai O O (G7 a.x a.s A g.1 hs) ?_
  rintro x t ⟨h,d⟩
  have m:=AB h.own
  have H:=d.size
  have f:=f.bs d
  have g:=g.bs d
  have b:=b.bs d
  have c:=c.bs d
  refine Aw.back<|Aw.only (i:=5) (by kernel_rfl) O<|Ai O O (GG a.y a.l t g.2 D) ?_
  rintro y K ⟨q,d⟩
  have k:=AB q.own
  have F:=d.size
  have f:=f.bs d
  have g:=g.bs d
  have b:=b.bs d
  have c:=c.bs d
  have h:=h.bs d
  refine Aw.back<|Aw.only (i:=6) (by kernel_rfl) O<|Aa (C1 (vs:=[(0,x),(1,y)]) (cs:=[x,y]) O (K3 _ _ h.sl.one q.sl.one)) O<|Aw.back<|Aw.only (i:=7) (by kernel_rfl) O<|Bv (C7 (cs:=[x,y]) O O O O (by simp [h.sl.one',q.sl.one']) c O) ?_
  rintro G ⟨J,p, -⟩
  have s:=f.grown p (AA f) (by rintro _ ⟨⟩;exact C)
  have I:=p.size
  have l:=Twn.mono (Twn.by h p (by omega)) E
  have o:=Twn.mono (Twn.by q p (by omega)) (show w.heap.size≤t.heap.size by omega)
  refine Aw.back<|D7 (by kernel_rfl)<|Ar<|B9<|Dq<|Eh O O ‹_› underlying75 O O O ?_
  exact ⟨s,x,y,rfl,⟨.inl l.own, .inl o.own,fun b e=>by have:=m b e;omega,fun b e=>by have:=k b e;omega,fun b z v=>by have:=m b v;have:=k b z;omega⟩,l,o⟩
theorem LH (a:T4) (x y:Value) (h o:Nat) (W:World) (b:a.at W) (c:EE W h o x y a):AK prog 166 [.agg #[x,y],a.v] W (fun r k=>r= .bool true∧Below W.heap.size W k):=by
 have f:=Below.refl W.heap.size W
 refine Az (n:=17) func166 O<|Ad<|Cr (cs:=[x,y]) O O O ?_
 rintro l w j e d -
 have f:=f.bs d
 have b:=b.bs d
 have c:=c.bs d
 refine Cr (cs:=[a.x,a.y]) O O O ?_
 rintro m w i g d -
 have f:=f.bs d
 have b:=b.bs d
 have c:=c.bs d
 have e:=e.bs d
 refine Ab O<|Be<|Ba underlying75 O (AT _)<|Aa (Al (AN _) O ‹_› rfl) O ?_
 refine Ba underlying75 O (AT _)<|Aa (Al (AN _) O ‹_› rfl) O ?_
 refine Ai O O (HV x a.x a.s h _ c.tx b.1) ?_
 rintro _ w ⟨rfl,d⟩
 have f:=f.bs d
 have b:=b.bs d
 have c:=c.bs d
 have e:=e.bs d
 have g:=g.bs d
 refine Ac O<|Cm 10 (v' := .bool true) O (cngA Value.bool (rfl))<|Ag (dj:=10) O O<|Ba underlying75 O (CW _)<|Ag (dj:=10) O O<|Aa (Al (DC _) O ‹_› rfl) O ?_
 refine Ag (dj:=10) O O<|Ba underlying75 O (CW _)<|Ag (dj:=10) O O<|Aa (Al (DC _) O ‹_› rfl) O ?_
 refine Ag (dj:=10) O O<|Ai O O (KJ y a.y a.l h _ c.ty b.2) ?_
 rintro _ w ⟨rfl,d⟩
 have f:=f.bs d
 have b:=b.bs d
 have c:=c.bs d
 have e:=e.bs d
 have g:=g.bs d
 exact B7 rfl<|Ab rfl<|Ay<|As rfl rfl<|⟨rfl,f⟩
end Go.Proofs.YtblbopcaflaldaaGreatDoor

namespace Go.Proofs.YtblbopcaflaldaaGreatDoor
open Go Go.Dd Go.RowKit List
set_option maxRecDepth 100000
structure NK (w:World) (lo hi:Nat) (c:N5):Prop where
 rx:AQ w lo 3 1 c.x c.i.length (c.i.map (Value.int .i64))
 ry:AQ w lo 3 1 c.y c.s.length (c.s.map (Value.int .i64))
 bx:∀b,c.x.ownBlock=some b→lo≤b∧b<hi
 by' :∀b,c.y.ownBlock=some b→lo≤b∧b<hi
 apart:K9 c.x c.y
theorem NK.bs {w a:World} {d b:Nat} {c:N5} (h:NK w d b c) (g:Below w.heap.size w a):NK a d b c:=⟨h.rx.bs g,h.ry.bs g,h.bx,h.by',h.apart⟩
theorem AH {w a:World} {c sz k:Nat} {E T:TypeId} {v:Value} {xs:List Value} {r:Option Nat} (h:AQ w c E sz v k xs) (g:w.grownBy a r) (i:∀b,r=some b→∃cs,AP w b T cs) (j:E≠T):AQ a c E sz v k xs:=
 h.heap fun b e=>g.block b (h.lt b e).2 fun l=>by
  obtain ⟨cs,d⟩:=i b l.symm
  obtain ⟨ds,f⟩:=h.ty e
  exact j (BM f d)
theorem NK.other {w a:World} {f i:Nat} {T:TypeId} {c:N5} {r:Option Nat} (h:NK w f i c) (g:w.grownBy a r) (d:∀b,r=some b→∃cs,AP w b T cs) (e:3≠T):NK a f i c:=
 ⟨AH h.rx g d e,AH h.ry g d e,h.bx,h.by',h.apart⟩
theorem NK.wide {w:World} {g i a d:Nat} {c:N5} (h:NK w g i c) (f:a≤g) (j:i≤d):NK w a d c:=
 ⟨h.rx.mono f,h.ry.mono f,fun b e=>by have:=h.bx b e;omega,fun b e=>by have:=h.by' b e;omega,h.apart⟩
theorem NK.at {w:World} {a b:Nat} {c:N5} (h:NK w a b c):N5.at w c:=⟨h.rx.slT,h.ry.slT⟩
def IV (w:World):Nat→Nat→List N5→Prop
 |base,top,[]=>base≤top
 |base,top,c::cs=>∃lo hi,base≤lo∧lo≤hi∧NK w lo hi c∧IV w hi top cs
theorem IV.le:∀{w:World} {cs:List N5} {base a:Nat},IV w base a cs→base≤a
 |_,[],_,_,h=>h
 |_,_::_,_,_,⟨_,_,h1,h2,_,h3⟩=>by have:=h3.le;omega
theorem IV.bs {w b:World} (g:Below w.heap.size w b):∀{cs:List N5} {base a:Nat},IV w base a cs→IV b base a cs
 |[],_,_,h=>h
 |_::_,_,_,⟨lo,hi,h1,h2,h3,h4⟩=>⟨lo,hi,h1,h2,h3.bs g,IV.bs g h4⟩
theorem IV.other {w c:World} {T:TypeId} {r:Option Nat} (g:w.grownBy c r) (d:∀b,r=some b→∃cs,AP w b T cs) (e:3≠T):∀{cs:List N5} {base a:Nat},IV w base a cs→IV c base a cs
 |[],_,_,h=>h
 |_::_,_,_,⟨lo,hi,q1,q2,q3,q4⟩=>⟨lo,hi,q1,q2,q3.other g d e,IV.other g d e q4⟩
theorem IV.snoc {w:World} {c:N5} {b d:Nat} (f:NK w b d c) (e:b≤d):∀{cs:List N5} {base a:Nat},IV w base a cs→a≤b→IV w base d (cs++[c])
 |[],_,_,h,ht=>⟨b,d,Nat.le_trans h ht,e,f,AU _⟩
 |_::_,_,_,⟨l1,h1,q1,q2,q3,q4⟩,ht=>⟨l1,h1,q1,q2,q3,IV.snoc f e q4 ht⟩
theorem IV.each:∀{w:World} {cs:List N5} {base b:Nat},IV w base b cs→∀c ∈ cs,NK w base b c
 |_,[],_,_,_=>fun c a=>by cases a
 |_,d::ds,_,_,⟨lo,hi,h1,h2,h3,h4⟩=>fun c a=>by
  have:=h4.le
  rcases List.mem_cons.1 a with rfl|a
  ·exact h3.wide h1 (by omega)
  ·exact (h4.each c a).wide (by omega) (AU _)
theorem IV.low {w:World} {cs:List N5} {base a b:Nat} (h:IV w base b cs) (d:a≤base):IV w a b cs:=by
 cases cs with
 |nil=>exact Nat.le_trans d h
 |cons c cs=>
  obtain ⟨g,i,f,e⟩:=h
  exact ⟨g,i,Nat.le_trans d f,e⟩
theorem GK.other {w a:World} {e f:Nat} {T:TypeId} {c:T4} {r:Option Nat} (h:GK w e f c) (g:w.grownBy a r) (d:∀b,r=some b→∃cs,AP w b T cs) (j:3≠T) (i:21≠T):GK a e f c:=
 ⟨AH h.rx g d j,AH h.ry g d i,h.bx,h.by',h.apart⟩
theorem AZ.other {w c:World} {T:TypeId} {r:Option Nat} (g:w.grownBy c r) (e:∀b,r=some b→∃cs,AP w b T cs) (f:3≠T) (d:21≠T):∀{cs:List T4} {base a:Nat},AZ w base a cs→AZ c base a cs
 |[],_,_,h=>h
 |_::_,_,_,⟨lo,hi,q1,q2,q3,q4⟩=>⟨lo,hi,q1,q2,q3.other g e f d,AZ.other g e f d q4⟩
theorem AZ.snocM {w:World} {c:T4} {b d:Nat} (f:GK w b d c) (e:b≤d):∀{cs:List T4} {base a:Nat},AZ w base a cs→a≤b→AZ w base d (cs++[c])
 |[],_,_,h,ht=>⟨b,d,Nat.le_trans h ht,e,f,AU _⟩
 |_::_,_,_,⟨l1,h1,q1,q2,q3,q4⟩,ht=>⟨l1,h1,q1,q2,q3,AZ.snocM f e q4 ht⟩
theorem AZ.topM {w:World} {b:Nat}:∀{cs:List T4} {base a:Nat},AZ w base a cs→a≤b→AZ w base b cs
 |[],_,_,h,ht=>Nat.le_trans h ht
 |_::_,_,_,⟨l1,h1,q1,q2,q3,q4⟩,ht=>⟨l1,h1,q1,q2,q3,AZ.topM q4 ht⟩
structure Ny (w:World) (lo hi:Nat) (v u:Value) (ls:List N5) (ts:List T4):Prop where
 nodes:∃mid,IV w lo mid ls∧AZ w mid hi ts
 nv:AQ w lo 79 5 v ls.length (GI N5.cells ls)
 wv:AQ w lo 75 2 u ts.length (cellsOf ts)
end Go.Proofs.YtblbopcaflaldaaGreatDoor

namespace Go.Proofs.YtblbopcaflaldaaGreatDoor
open Go Go.Dd Go.RowKit Go.ChangeShapes Go.WideShapes List Go.Proofs.Tryz
set_option maxRecDepth 100000
theorem Uk {α:Type} {l:List α} (h:l.length=2):∃a b,l=[a,b]:=by
 match l,h with
 |[a,b],_=>exact ⟨a,b,rfl⟩
theorem UC {H:Type} {enc:TypeId×Value→H} {w:World} {cs:List Value} (h:In enc prog w 75 cs):∃a:T4,cs=[a.x,a.y]∧a.at w∧a.s.length≤17592186044416∧a.l.length≤35184372088832:=by
 obtain ⟨b,c⟩:=h.struct underlying75
 have p:Tryz.prog.cellsOf 75=2:=by kernel_rfl
 have o:Tryz.prog.cellsOf 70=1:=by kernel_rfl
 have m:Tryz.prog.cellsOf 73=1:=by kernel_rfl
 rw [p] at b
 obtain ⟨x,y,rfl⟩:=Uk b
 obtain ⟨q,s,d,i,g⟩:=(c 0 _ rfl).slT OW (by kernel_rfl) (fun cs h=>(In.int Jt h).imp fun _ h=>h.1)
 obtain ⟨r,l,e,n,k⟩:=(c 1 _ rfl).slT UZ (by kernel_rfl) (fun cs h=>In.num (BitVec.ofInt 32) i32 (fun _ h=>Uj h) KS h)
 have j:Tryz.prog.bytesOf 3=8:=by kernel_rfl
 have f:Tryz.prog.bytesOf 21=4:=by kernel_rfl
 rw [j] at g
 rw [f] at k
 simp [o,m] at d e
 subst d e
 have t:reachBytes≤140737488355328:=by decide
 exact ⟨⟨x,y,s,l⟩,rfl,⟨i,n⟩,by simp only;omega,by simp only;omega⟩

def OD (a:T4):Prop:=a.s.length≤1125899906842624∧a.l.length≤1125899906842624
theorem OZ {H:Type} {enc:TypeId×Value→H} {w:World}:∀{n:Nat} {xs:List Value},xs.length=n*2→(∀i,i<n→In enc prog w 75 ((xs.drop (i*2)).take 2))→
  ∃ts:List T4,ts.length=n∧cellsOf ts=xs∧∀t ∈ ts,t.at w∧OD t
 |0,xs,hl,_=>by
  obtain rfl:xs=[]:=eq_nil_of_length_eq_zero (by omega)
  exact ⟨[],rfl,rfl,fun t b=>by simp at b⟩
 |n+1,[],hl,_=>by simp at hl
 |n+1,[_],hl,_=>by simp at hl;omega
 |n+1,x::y::xs,hl,h=>by
  obtain ⟨a,c,d,j,k⟩:=UC (h 0 (by omega))
  obtain ⟨ts,f,e,g⟩:=OZ (n:=n) (xs:=xs) (by simp at hl;omega) fun i l=>by
   have:=h (i+1) (by omega)
   rw [show (i+1)*2=i*2+1+1 by omega] at this
   simpa using this
  simp at c
  refine ⟨a::ts,by simp [f],by rw [cellsOf,e,c.1,c.2],fun t b=> ?_⟩
  rcases List.mem_cons.1 b with rfl|b
  ·exact ⟨d,by omega,by omega⟩
  ·exact g t b
theorem T7 {H:Type} {enc:TypeId×Value→H} {w:World} {cs:List Value} (h:In enc prog w 25 cs):∃v,cs=[v]∧∃ts:List T4,EM w v ts∧ts.length≤1125899906842624∧∀t ∈ ts,OD t:=by
 obtain ⟨v,n,xs,e,hs,f,i⟩:=h.slice Vb (sz:=2) (by kernel_rfl)
 obtain ⟨ts,d,c,b⟩:=OZ hs.len i
 subst d c
 have j:reachBytes≤140737488355328:=by decide
 have g:Tryz.prog.bytesOf 75=48:=by kernel_rfl
 rw [g] at f
 exact ⟨v,e,ts,⟨hs,fun t a=>(b t a).1⟩,by omega,fun t a=>(b t a).2⟩
def Ij:Int→List Int→Int
 |n,[]=>n
 |n,x::l=>if n≤1048576 then Ij (n+x) l else n
theorem GX:∀{l:List Int} {n:Int},(∀x ∈ l,0≤x)→n≤Ij n l
 |[],n,_=>Int.le_refl _
 |x::l,n,h=>by
  unfold Ij
  split
  ·have:=GX (n:=n+x) fun y a=>h y (mem_cons_of_mem _ a)
   have:=h x (by simp)
   omega
  ·exact Int.le_refl _
theorem JF:∀{l:List Int} {n:Int},(∀x ∈ l,0≤x)→Ij n l≤1048576→∀x ∈ l,n+x≤Ij n l
 |[],_,_,_,x,a=>by simp at a
 |y::l,n,h,hle,x,a=>by
  have b:∀z ∈ l,0≤z:=fun z c=>h z (mem_cons_of_mem _ c)
  have d:=GX (n:=n) h
  have e:Ij n (y::l)=Ij (n+y) l:=by
   show (if n≤1048576 then Ij (n+y) l else n)=_
   rw [if_pos (by omega)]
  rw [e] at hle ⊢
  rcases List.mem_cons.1 a with rfl|a
  ·exact GX b
  ·have:=JF b hle x a
   have:=h y (by simp)
   omega
theorem Jw (s:List Int) (l:List (BitVec 32)):1≤Ju s l:=by unfold Ju;split<;>omega
theorem OY {a:T4} (h:OD a):Ju a.s a.l≤4503599627370496:=by have b:=h.1;have c:=h.2;unfold Ju;split<;>omega
theorem Mv {l:List Int} {i:Nat} {n:Int} (a:i<l.length):Ij n (l.drop i)=if n≤1048576 then Ij (n+l.getD i default) (l.drop (i+1)) else n:=by
 rw [drop_eq_getElem_cons a]
 simp only [Ij,getD_eq_getElem?_getD,getElem?_eq_getElem a,Option.getD_some]
theorem NC {ts:List T4} {j:Nat} (h:j<ts.length):∀i,i<2→∃q,[ts[j].x,ts[j].y][i]? =some q∧(cellsOf ts)[j*2+i]? =some q:=G2 (FY h).1 (FY h).2
theorem QJ (v:Value) (ts:List T4) (w:World) (h:EM w v ts) (G:ts.length≤1125899906842624) (C:∀t ∈ ts,OD t):AK prog 39 [v] w (fun r m=>r= .int .i64 (Ij (ts.length:Int) (ts.map fun t=>Ju t.s t.l))∧Below w.heap.size w m):=by
 have f:=h.1
 have I:=f.le
 obtain ⟨T,u⟩:∃T,T=Ij (ts.length:Int) (ts.map fun t=>Ju t.s t.l):=⟨_,rfl⟩
 rw [← u]
 refine Az (n:=25) func39 O<|Ad<|Ab O<|Be<|Ac O<|Aa (Ap BK O ‹_›) O ?_
 refine Ab O<|Bi<|Ab O<|Ak<|An ?_
 refine Bl (S:=(Nat×Int)) (fun p=>[(0,v),(3, .int .i64 p.2),(4, .int .i64 (p.1:Int))]) (fun p m=>p.1≤ts.length∧0≤p.2∧p.2≤1125899906842624+4503599627370496+1048576∧Ij p.2 ((ts.map fun t=>Ju t.s t.l).drop p.1)=T∧Below w.heap.size w m) (fun p=>ts.length - p.1) ((0,(ts.length:Int))) ⟨rfl,rfl,rfl,trivial⟩ ?_ ?_
 ·exact ⟨Nat.zero_le _,by simp only;omega,by simp only;omega,u.symm,Below.refl _ _⟩
 rintro ⟨i,n⟩ A ⟨y,s,x,c,k⟩
 replace y:i≤ts.length:=y
 replace s:0≤n:=s
 replace x:n≤1125899906842624+4503599627370496+1048576:=x
 replace c:Ij n ((ts.map fun t=>Ju t.s t.l).drop i)=T:=c
 have f:=f.bs k
 refine Ao<|Ad<|Ac O<|Ac O<|Aa (Ap BK O ‹_›) O ?_
 refine Bz O<|Ac O ?_
 refine Cc 11 O ?_ ?_
 ·intro g
  have b:i<ts.length:=by have:=AC g;omega
  have E:=Mv (n:=n) (l:=ts.map fun t=>Ju t.s t.l) (i:=i) (by rw [length_map];exact b)
  obtain ⟨a,q⟩:∃a,a=ts[i]:=⟨_,rfl⟩
  have B:(ts.map fun t=>Ju t.s t.l).getD i default=Ju a.s a.l:=by rw [getD_eq_getElem?_getD,getElem?_map,getElem?_eq_getElem b,← q];rfl
  have z:a ∈ ts:=q ▸ getElem_mem b
  have d:=C a z
  have F:=Jw a.s a.l
  have H:=OY d
  have j:=NC b
  rw [← q] at j
  rw [E,B] at c
  refine Ag (dj:=11) O O<|Ac O<|Ag (dj:=11) O O<|Aa (Dy O O) O<|B7 O<|Ak<|Aq O ?_ ?_
  ·intro e
   have e:n≤1048576:=AC e
   rw [if_pos e] at c
   refine Bw<|Ao<|An<|Bn<|Ac O<|Ac O<|Ac O<|Aa (Cl BK O O f i O b) O<|Aa (C8 (cs:=[a.x,a.y]) (FZ _) (FX _) O f O (by decide) j) O<|Ai O O (SV a A ((h.2 a z).bs k) d.1 d.2) ?_
   rintro _ J ⟨rfl,D⟩
   refine B1 O (by omega)<|Ab O<|Bd<|Bg<|B6<|Ac O<|B1 O (by omega)<|Ab O<|Bd ?_
   exact Ar (Bp ((i+1,n+Ju a.s a.l)) ⟨rfl,rfl,rfl,trivial⟩ (⟨b,by simp only;omega,by simp only;omega,c,bt k D⟩) (by simp only;omega))
  intro e
  have e:¬n≤1048576:=AD e
  rw [if_neg e] at c
  exact Bk<|Aj<|Aj<|A0<|Cb<|Ac rfl<|Ab rfl<|Ay<|As rfl rfl<|⟨by rw [← c],k⟩
 intro g
 have b:i=ts.length:=by have:=AD g;omega
 have o:n=T:=by
  rw [b,drop_of_length_le (by simp)] at c;exact c
 exact Ae (dj:=11) rfl rfl rfl rfl<|Ae (dj:=11) rfl rfl rfl rfl<|Ci rfl<|Ak<|D5 rfl<|Bk<|Aj<|Aj<|A0<|Cb<|Ac rfl<|Ab rfl<|Ay<|As rfl rfl<|⟨by rw [o],k⟩
theorem SU {s:List Int} {l:List (BitVec 32)} {m:Int} (h:Ju s l≤m) (a:m≤1048576):(s.length:Int)+l.length+1≤m:=by unfold Ju at h;split at h<;>omega
theorem Lz:∀{l:List Int} {n m:Int},(∀x ∈ l,x≤m)→0≤m→Ij n l≤max n (1048576+m)
 |[],n,m,_,_=>by simp only [Ij];omega
 |x::l,n,m,h,hm=>by
  unfold Ij
  split
  ·have:=Lz (n:=n+x) (m:=m) (fun y a=>h y (mem_cons_of_mem _ a)) hm
   have:=h x (by simp)
   omega
  ·omega

structure N5.few (a:N5):Prop where
 i:a.i.length≤1125899906842624
 s:a.s.length≤1125899906842624
 n: -9223372036854775808≤a.n∧a.n≤9223372036854775807
 p: -9223372036854775808≤a.p∧a.p≤9223372036854775807
theorem TD {α:Type} {l:List α} (h:l.length=5):∃a b c d e,l=[a,b,c,d,e]:=by
 match l,h with
 |[a,b,c,d,e],_=>exact ⟨a,b,c,d,e,rfl⟩
theorem T8 {H:Type} {enc:TypeId×Value→H} {w:World} {cs:List Value} (h:In enc prog w Gw cs):∃a:N5,cs=a.cells∧N5.at w a∧a.few:=by
 obtain ⟨c,b⟩:=h.struct underlying79
 have x:Tryz.prog.cellsOf Gw=5:=by kernel_rfl
 have v:Tryz.prog.cellsOf 70=1:=by kernel_rfl
 have t:Tryz.prog.cellsOf 3=1:=by kernel_rfl
 have B:Tryz.prog.cellsOf 77=1:=by kernel_rfl
 rw [x] at c
 obtain ⟨f,m,A,D,G,rfl⟩:=TD c
 obtain ⟨k,e⟩:=In.num (BitVec.ofInt 8) b8 (fun _ h=>TT h) EX (b 0 _ rfl)
 obtain ⟨C,i,d,q,o⟩:=(b 1 _ rfl).slT OW (by kernel_rfl) (fun cs h=>(In.int Jt h).imp fun _ h=>h.1)
 obtain ⟨E,s,g,u,r⟩:=(b 2 _ rfl).slT OW (by kernel_rfl) (fun cs h=>(In.int Jt h).imp fun _ h=>h.1)
 obtain ⟨n,j,z⟩:=In.int Jt (b 3 _ rfl)
 obtain ⟨p,l,y⟩:=In.int Jt (b 4 _ rfl)
 have f:Tryz.prog.bytesOf 3=8:=by kernel_rfl
 rw [f] at o r
 simp [v,t,B] at e d g j l
 subst d g e j l
 have F:reachBytes≤140737488355328:=by decide
 exact ⟨⟨k,m,A,i,s,n,p⟩,rfl,⟨q,u⟩,⟨by simp only;omega,by simp only;omega,QD z,QD y⟩⟩
theorem MG {H:Type} {enc:TypeId×Value→H} {w:World}:∀{n:Nat} {xs:List Value},xs.length=n*5→(∀i,i<n→In enc prog w Gw ((xs.drop (i*5)).take 5))→
  ∃ls:List N5,ls.length=n∧GI N5.cells ls=xs∧∀a ∈ ls,N5.at w a∧a.few
 |0,xs,hl,_=>by
  obtain rfl:xs=[]:=eq_nil_of_length_eq_zero (by omega)
  exact ⟨[],rfl,rfl,fun t b=>by simp at b⟩
 |n+1,xs,hl,h=>by
  obtain ⟨a,g,d,c⟩:=T8 (h 0 (by omega))
  obtain ⟨ls,f,e,j⟩:=MG (n:=n) (xs:=xs.drop 5) (by simp;omega) fun i k=>by
   have:=h (i+1) (by omega)
   rwa [drop_drop,show 5+i*5=(i+1)*5 by omega]
  refine ⟨a::ls,by simp [f], ?_,fun t b=> ?_⟩
  ·rw [show GI N5.cells (a::ls)=a.cells++GI N5.cells ls from by simp [GI],e,← g]
   simp
  ·rcases List.mem_cons.1 b with rfl|b
   ·exact ⟨d,c⟩
   ·exact j t b
theorem RT {H:Type} {enc:TypeId×Value→H} {w:World} {cs:List Value} (h:In enc prog w 22 cs):∃v,cs=[v]∧∃ls:List N5,GN w v ls∧ls.length≤1125899906842624∧∀t ∈ ls,t.few:=by
 obtain ⟨v,n,xs,e,hs,f,i⟩:=h.slice Vc (sz:=5) (by kernel_rfl)
 obtain ⟨ls,d,c,b⟩:=MG hs.len i
 subst d c
 have j:reachBytes≤140737488355328:=by decide
 have g:Tryz.prog.bytesOf 79=72:=by kernel_rfl
 rw [g] at f
 exact ⟨v,e,ls,⟨hs,fun t a=>(b t a).1⟩,by omega,fun t a=>(b t a).2⟩
theorem RU {H:Type} {enc:TypeId×Value→H} {w:World} {cs:List Value} (h:In enc prog w 24 cs):∃v,cs=[v]∧∃ls:List N5,GN w v ls∧ls.length≤1125899906842624∧∀t ∈ ls,t.few:=by
 obtain ⟨a,b⟩:=h.struct underlying24
 have e:Tryz.prog.cellsOf 24=1:=by kernel_rfl
 have d:Tryz.prog.cellsOf 22=1:=by kernel_rfl
 rw [e] at a
 have c:In enc prog w 22 ((cs.drop 0).take (Tryz.prog.cellsOf 22)):=b 0 _ rfl
 rw [d,drop_zero,take_of_length_le (by omega)] at c
 exact RT c
def Jc (a:N5):Int:=if 1+(a.i.length:Int)≤1048576 then 1+(a.i.length:Int)+(a.s.length:Int) else 1+(a.i.length:Int)
theorem J5 (a:N5):1≤Jc a:=by unfold Jc;split<;>omega
theorem LB {a:N5} (h:a.few):Jc a≤4503599627370496:=by have b:=h.i;have c:=h.s;unfold Jc;split<;>omega
theorem U1 {a:N5} {m:Int} (h:Jc a≤m) (b:m≤1048576):(a.i.length:Int)+a.s.length+1≤m:=by unfold Jc at h;split at h<;>omega
theorem Tp (a:N5) (w:World) (k:N5.at w a) (j:a.few):AK prog 199 [a.v] w (fun r l=>r= .int .i64 (Jc a)∧Below w.heap.size w l):=by
 have f:=Below.refl w.heap.size w
 have c:=k.i
 have b:=k.s
 have p:=j.i
 have q:=j.s
 refine Az (n:=19) func199 O<|Ad<|Cr (cs:=a.cells) O O O ?_
 rintro m w i e d -
 have f:=f.bs d
 have c:=c.bs d
 have b:=b.bs d
 refine Ab O<|Be<|Ab O<|Bi<|Ac O<|Aa (Dy O O) O<|Ak<|Bu O true (by decide)<|Bn<|Ac O<|Ba underlying79 O (AT _)<|Aa (Al (AN _) O ‹_› rfl) O ?_
 refine Ai O O (HW a.x a.i _ c) ?_
 rintro _ o ⟨rfl,d⟩
 have f:=f.bs d
 have c:=c.bs d
 have b:=b.bs d
 have e:=e.bs d
 refine B1 O (by omega)<|Ab O<|Bi<|Ac O<|Aa (Dy O O) O<|Ak<|Aq O ?_ ?_
 ·intro g
  have h:=AC g
  refine Bn<|Ac O<|Ba underlying79 O (AT _)<|Aa (Al (AN _) O ‹_› rfl) O ?_
  refine Ai O O (HW a.y a.s o b) ?_
  rintro _ s ⟨rfl,d⟩
  have f:=f.bs d
  have c:=c.bs d
  have b:=b.bs d
  have e:=e.bs d
  refine B1 O (by omega)<|Ab O<|Be<|Ac O<|Ab O<|Ay<|As O O ?_
  exact ⟨by rw [Jc,if_pos h],f⟩
 ·intro g
  have h:=AD g
  exact Cs<|Ac rfl<|Ab rfl<|Ay<|As rfl rfl<|⟨by rw [Jc,if_neg h],f⟩
theorem R5 (v:Value) (ls:List N5) (w:World) (h:GN w v ls) (G:ls.length≤1125899906842624) (C:∀t ∈ ls,t.few):AK prog 116 [v] w (fun r m=>r= .int .i64 (Ij (ls.length:Int) (ls.map Jc))∧Below w.heap.size w m):=by
 have f:=h.1
 have I:=f.le
 obtain ⟨T,u⟩:∃T,T=Ij (ls.length:Int) (ls.map Jc):=⟨_,rfl⟩
 rw [← u]
 refine Az (n:=25) func116 O<|Ad<|Ab O<|Be<|Ac O<|Aa (Ap BE O ‹_›) O ?_
 refine Ab O<|Bi<|Ab O<|Ak<|An ?_
 refine Bl (S:=(Nat×Int)) (fun p=>[(0,v),(3, .int .i64 p.2),(4, .int .i64 (p.1:Int))]) (fun p m=>p.1≤ls.length∧0≤p.2∧p.2≤1125899906842624+4503599627370496+1048576∧Ij p.2 ((ls.map Jc).drop p.1)=T∧Below w.heap.size w m) (fun p=>ls.length - p.1) ((0,(ls.length:Int))) ⟨rfl,rfl,rfl,trivial⟩ ?_ ?_
 ·exact ⟨Nat.zero_le _,by simp only;omega,by simp only;omega,u.symm,Below.refl _ _⟩
 rintro ⟨i,n⟩ A ⟨y,s,x,c,k⟩
 replace y:i≤ls.length:=y
 replace s:0≤n:=s
 replace x:n≤1125899906842624+4503599627370496+1048576:=x
 replace c:Ij n ((ls.map Jc).drop i)=T:=c
 have f:=f.bs k
 refine Ao<|Ad<|Ac O<|Ac O<|Aa (Ap BE O ‹_›) O ?_
 refine Bz O<|Ac O ?_
 refine Cc 11 O ?_ ?_
 ·intro g
  have b:i<ls.length:=by have:=AC g;omega
  have E:=Mv (n:=n) (l:=ls.map Jc) (i:=i) (by rw [length_map];exact b)
  obtain ⟨a,q⟩:∃a,a=ls[i]:=⟨_,rfl⟩
  have B:(ls.map Jc).getD i default=Jc a:=by rw [getD_eq_getElem?_getD,getElem?_map,getElem?_eq_getElem b,← q];rfl
  have z:a ∈ ls:=q ▸ getElem_mem b
  have e:=C a z
  have F:=J5 a
  have H:=LB e
  have j:=h.cells b
  rw [← q] at j
  rw [E,B] at c
  refine Ag (dj:=11) O O<|Ac O<|Ag (dj:=11) O O<|Aa (Dy O O) O<|B7 O<|Ak<|Aq O ?_ ?_
  ·intro d
   have d:n≤1048576:=AC d
   rw [if_pos d] at c
   refine Bw<|Ao<|An<|Bn<|Ac O<|Ac O<|Ac O<|Aa (Cl BE O O f i O b) O<|Aa (C8 (cs:=a.cells) (EK _) (EH _) O f O (by decide) j) O<|Ai O O (Tp a A ((h.each a z).bs k) e) ?_
   rintro _ J ⟨rfl,D⟩
   refine B1 O (by omega)<|Ab O<|Bd<|Bg<|B6<|Ac O<|B1 O (by omega)<|Ab O<|Bd ?_
   exact Ar (Bp ((i+1,n+Jc a)) ⟨rfl,rfl,rfl,trivial⟩ (⟨b,by simp only;omega,by simp only;omega,c,bt k D⟩) (by simp only;omega))
  intro d
  have d:¬n≤1048576:=AD d
  rw [if_neg d] at c
  exact Bk<|Aj<|Aj<|A0<|Cb<|Ac rfl<|Ab rfl<|Ay<|As rfl rfl<|⟨by rw [← c],k⟩
 intro g
 have b:i=ls.length:=by have:=AD g;omega
 have o:n=T:=by
  rw [b,drop_of_length_le (by simp)] at c;exact c
 exact Ae (dj:=11) rfl rfl rfl rfl<|Ae (dj:=11) rfl rfl rfl rfl<|Ci rfl<|Ak<|D5 rfl<|Bk<|Aj<|Aj<|A0<|Cb<|Ac rfl<|Ab rfl<|Ay<|As rfl rfl<|⟨by rw [o],k⟩
def RX (ls:List N5):Int:=1+Ij (ls.length:Int) (ls.map Jc)
theorem TB (v:Value) (ls:List N5) (w:World) (h:GN w v ls) (k:ls.length≤1125899906842624) (g:∀t ∈ ls,t.few):AK prog 23 [.agg [v].toArray] w (fun r j=>r= .int .i64 (RX ls)∧Below w.heap.size w j):=by
 have d:=Below.refl w.heap.size w
 have p:=Lz (l:=ls.map Jc) (n:=(ls.length:Int)) (m:=4503599627370496) (fun x e=>by
  obtain ⟨a,i,rfl⟩:=List.mem_map.1 e
  exact LB (g a i)) (by decide)
 have q:=GX (l:=ls.map Jc) (n:=(ls.length:Int)) (fun x e=>by
  obtain ⟨a,i,rfl⟩:=List.mem_map.1 e
  have:=J5 a;omega)
 refine Az (n:=12) func23 O<|Ad<|Cr (cs:=[v]) O O O ?_
 rintro o w f c b -
 have d:=d.bs b
 have h:=h.bs b
 refine Ab O<|Be<|Ab O<|Bi<|Ac O<|Aa (Dy O O) O<|Ak<|Bu O true (by decide)<|Bn<|Ac O<|Ba underlying24 O (BU _)<|Aa (Al (CD _) O ‹_› rfl) O ?_
 refine Ai O O (R5 v ls _ h k g) ?_
 rintro _ s ⟨rfl,b⟩
 have d:=d.bs b
 have h:=h.bs b
 have c:=c.bs b
 refine B1 O (by omega)<|Ab O<|Be<|Ac O<|Ab O<|Ay<|As O O ?_
 exact ⟨rfl,d⟩
end Go.Proofs.YtblbopcaflaldaaGreatDoor

namespace Go.Proofs.YtblbopcaflaldaaGreatDoor
open Go Go.Dd Go.RowKit List Go.Proofs.Tryz
set_option maxRecDepth 100000
theorem Ii {α:Type} {w:World} {B c:Nat} {T:TypeId} {enc:α→Value} {a v:Value} {l:List α} (h:Go.Dd.Twn w B T enc a v l) (f:c≤B):Go.Dd.Twn w c T enc a v l:=by
 obtain ⟨b,cap,e,d⟩:=h
 exact ⟨b,cap,e,BY d f⟩
theorem QH {α:Type} {w c:World} {B:Nat} {r:Option Nat} {T:TypeId} {enc:α→Value} {a v:Value} {l:List α} (h:Go.Dd.Twn w B T enc a v l) (g:w.grownBy c r) (f:v.ownBlock≠r):Go.Dd.Twn c B T enc a v l:=by
 obtain ⟨b,cap,rfl,d⟩:=h
 exact ⟨b,cap,rfl,d.kept g (.inr fun e=>f e)⟩
abbrev tI (w:World) (B:Nat) (v:Value) (l:List Int):Prop:=Go.Dd.Twn w B 3 (Value.int .i64) (Value.int .i64 77) v l
structure EL (w:World) (lo hi:Nat) (x y:Value) (a:N5):Prop where
 tx:tI w lo x a.i
 ty:tI w lo y a.s
 bx:∀b,x.ownBlock=some b→lo≤b∧b<hi
 by' :∀b,y.ownBlock=some b→lo≤b∧b<hi
 apart:∀b,x.ownBlock=some b→y.ownBlock≠some b
theorem EL.bs {w b:World} {c d:Nat} {x y:Value} {a:N5} (h:EL w c d x y a) (g:Below w.heap.size w b):EL b c d x y a:=⟨h.tx.bs g,h.ty.bs g,h.bx,h.by',h.apart⟩
theorem EL.at {w:World} {b c:Nat} {x y:Value} {a:N5} (h:EL w b c x y a) (k:BitVec 8) (n p:Int):N5.at w ⟨k,x,y,a.i,a.s,n,p⟩:=⟨h.tx.sl,h.ty.sl⟩
theorem Sw (k:BitVec 8) (x y:Value) (n p:Int) (f:x.cells=[x].toArray) (c:y.cells=[y].toArray):Tryz.prog.built Gw [(0,b8 k),(1,x),(2,y),(3, .int .i64 n),(4, .int .i64 p)]=some [b8 k,x,y, .int .i64 n, .int .i64 p].toArray:=by
 have d:Tryz.prog.info? Gw=some Tryz.t79:=by kernel_rfl
 have a:Tryz.prog.info? 3=some Tryz.t3:=by kernel_rfl
 have e:Tryz.prog.info? 77=some Tryz.t77:=by kernel_rfl
 have b:Tryz.prog.info? 70=some Tryz.t70:=by kernel_rfl
 simp [Program.built,d,underlying79,a,e,b,Instr.fill,f,c]
 rfl
theorem NA (a:N5) (W:World) (F:N5.at W a) (Q:a.i.length≤4194304) (hs:a.s.length≤4194304):
  AK prog 200 [a.v] W (fun r u=>Below W.heap.size W u∧∃x y,r=(N5.mk a.k x y a.i a.s a.n a.p).v∧EL u W.heap.size u.heap.size x y a):=by
 have p:=Below.refl W.heap.size W
 have o:=F.i
 have m:=F.s
 refine Az (n:=16) func200 O<|Ad<|Cr (cs:=a.cells) O O O ?_
 rintro C w H c f -
 have p:=p.bs f
 have o:=o.bs f
 have m:=m.bs f
 have U:=BA c
 have T:=AA p
 refine Du EJ O ?_
 rintro t Y G z f J
 have p:=p.bs f
 have o:=o.bs f
 have m:=m.bs f
 have c:=c.bs f
 have Z:=AA p
 have yr:=BA z
 refine Ak<|Ao ?_
 refine Cw.any BB (fun w j _=> ?_)
 have c:=c.bs j
 refine Dg (fun u=>AP u C Gw a.cells) (fun S=> ?_) (c)
 have A:=z
 refine Cf (Am Br)<|Af 0 O (fun l g=>B8 underlying79 O (EA _)) O<|Af 1 O (fun l g=>Al (ED _) O g O) O<|Af 2 O (fun l g=>B8 underlying79 O (AT _)) O<|Af 3 O (fun l g=>Al (AN _) O g O) O<|Af 5 O (fun l g=>B8 underlying79 O (AT _)) O<|Af 6 O (fun l g=>Al (AN _) O g O) O<|Af 8 O (fun l g=>B8 underlying79 O (BC _)) O<|Af 9 O (fun l g=>Al (AO _) O g O) O<|Af 10 O (fun l g=>B8 underlying79 O (BC _)) O<|Af 11 O (fun l g=>Al (AO _) O g O) O<|B5 ?_
 refine AR.only ‹_› (i:=4) (by kernel_rfl) O ?_
 refine Ai O O (G7 a.x a.i w (o.bs j) Q) ?_
 rintro x l ⟨d,f⟩
 have zc:=j.size
 have j:=bt j f
 have c:=c.bs f
 have q:=fun b B=>AB d.own b B
 refine AR.back<|AR.only ‹_› (i:=7) (by kernel_rfl) O ?_
 refine Ai O O (G7 a.y a.s l (m.bs j) hs) ?_
 rintro y w2 ⟨h,f⟩
 have R:=j.size
 have d:=d.bs f
 have N:=f.size
 have j:=bt j f
 have c:=c.bs f
 have I:=j.size
 have s:=fun b B=>AB h.own b B
 refine AR.back<|Cf (Am Br)<|Af 12 O (fun l g=>C1 (cs:=[b8 a.k,x,y, .int .i64 a.n, .int .i64 a.p]) O (Sw a.k x y a.n a.p d.sl.one h.sl.one)) O<|B5<|AR.only ‹_› (i:=13) (by kernel_rfl) O ?_
 refine Bv (C7 (cs:=[b8 a.k,x,y, .int .i64 a.n, .int .i64 a.p]) (k:=5) (by kernel_rfl) O O O (by rw [all_cons,all_cons,all_cons,d.sl.one',h.sl.one'];rfl) (A.bs j) O) ?_
 rintro D ⟨E,v,V⟩
 have M:=(bt p j).grown v (AA (bt p j)) (by rintro _ ⟨⟩;omega)
 have X:=v.size
 have c:=c.by v (by rintro ⟨⟩;omega)
 have d:=QH d v fun e=>by have:=q t e;omega
 have h:=QH h v fun e=>by have:=s t e;omega
 have K:EL D W.heap.size D.heap.size x y a:=⟨Ii d (by omega),Ii h (by omega),fun b e=>by have:=q b e;omega,fun b e=>by have:=s b e;omega,fun b e L=>by have:=q b e;have:=s b L;omega⟩
 refine AR.back<|Cq ‹_› (by kernel_rfl) ?_
 refine Ar<|B9<|Dq<|Eh O O ‹_› underlying79 O O O ?_
 exact ⟨M,x,y,rfl,K⟩
end Go.Proofs.YtblbopcaflaldaaGreatDoor
