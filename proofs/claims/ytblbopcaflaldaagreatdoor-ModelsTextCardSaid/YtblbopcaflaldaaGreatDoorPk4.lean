/- Texts of this proof, one behind the other: TwinGraph, MdlSame, MdlPut, Str, Ret, MdlChunk, Rec, MdlReading, MdlGet, MdlGot, MdlTwin, RefJoined, RefOrd, RefNode, RefProducts, WinOf, Win2, WinPool, RefWin, Pl, RefMoves, RefGraph, RefShapes, RefMdl, RefChk, RefMput, RefGet4, RefMget, MdlKin, Txt, Txe, Shelf, TxtLib. -/
import Derived.Test.YtblbopcaflaldaaGreatDoorPk3
import Derived.Test.YtblbopcaflaldaaGreatDoorPk2
import Derived.Test.YtblbopcaflaldaaGreatDoorPk1
import Derived.Laws.IdiomStrings
import Derived.Laws.BytesArg
import Derived.OwnWalk
import Derived.Defers
import Derived.Recover
import Derived.WideLaws
import Derived.Laws.Entries
import Derived.Lib.OthersKept
import Derived.Lib.FrozenHead
import Derived.Lib.LaidTab
import Derived.Lib.ItoaLen
import Derived.Laws.Strings2
import Derived.Sort.Grow
import Derived.Deep.Draws
import Derived.Shelf.Strings.OnBuilder
import Derived.Shelf.Strings.BuilderK
import Derived.Shelf.LaysM
import Derived.Shelf.Strconv.Itoa3
import Derived.Shelf.Pu.ParseUintPublic10
import Derived.Shelf.Strings.Split
import Derived.Ground.MpProg
import Derived.Test.YtblbopcaflaldaaGreatDoorProg

namespace Go.Proofs.YtblbopcaflaldaaGreatDoor
open Go Go.Dd Go.RowKit Go.Proofs.Tryz
open List hiding all
set_option maxRecDepth 100000
theorem Md {w w' :World} {base A:Nat} {e T:TypeId} {sz n:Nat} {v:Value} {xs cs:List Value} (h:w.ownsRow base e sz v n xs) (k:AN w A T cs) (c:e≠T) (g:w.grownBy w' (some A)):w'.ownsRow base e sz v n xs:=
 CL h fun b a=>g.block b (AF h b a).2 fun i=>by
  cases i
  rcases h.2 with ⟨rfl,_⟩|⟨j,cap,f,rfl,_,d,_⟩
  ·cases a
  ·simp only [Value.ownBlock,Option.some.injEq] at a
   subst a
   unfold AN at k
   rw [k] at d
   have:=Option.some.inj d
   injection this with _ h2 _
   exact c h2.symm
def nl (a:N5):BitVec 8×List Int×List Int×Int×Int:=(a.k,a.i,a.s,a.n,a.p)
def AY (w:World):Nat→Nat→List N5→Prop
 |base,top,[]=>base≤top
 |base,top,c::cs=>∃lo hi,base≤lo∧lo≤hi∧DE w lo hi c.x c.y c∧AY w hi top cs
theorem AY.le:∀{w:World} {cs:List N5} {base a:Nat},AY w base a cs→base≤a
 |_,[],_,_,h=>h
 |_,_::_,_,_,⟨_,_,h1,h2,_,h3⟩=>by have:=h3.le;omega
theorem AY.bs {w w' :World} (g:Below w.heap.size w w'):∀{cs:List N5} {base a:Nat},AY w base a cs→AY w' base a cs
 |[],_,_,h=>h
 |_::_,_,_,⟨lo,hi,h1,h2,h3,h4⟩=>⟨lo,hi,h1,h2,h3.bs g,AY.bs g h4⟩
theorem AY.below {w w' :World} {B:Nat} (g:Below B w w'):∀{cs:List N5} {base a:Nat},AY w base a cs→a≤B→AY w' base a cs
 |[],_,_,h,_=>h
 |_::_,_,_,⟨lo,hi,h1,h2,h3,h4⟩,hB=>⟨lo,hi,h1,h2,h3.below g (Nat.le_trans h4.le hB),AY.below g h4 hB⟩
theorem DE.awayS {w w' :World} {f i a:Nat} {T:TypeId} {q x y:Value} {b m:Nat} {j:List Value} {c:N5} (h:DE w f i x y c) (d:AT w a T b q m j) (e:3≠T) (g:w.grownBy w' q.ownBlock):DE w' f i x y c:=
 ⟨Twn.awayS h.tx d e g,Twn.awayS h.ty d e g,h.bx,h.by',h.apart⟩
theorem AY.awayS {w w' :World} {a:Nat} {T:TypeId} {q:Value} {c m:Nat} {f:List Value} (d:AT w a T c q m f) (e:3≠T) (g:w.grownBy w' q.ownBlock):∀{cs:List N5} {base b:Nat},AY w base b cs→AY w' base b cs
 |[],_,_,h=>h
 |_::_,_,_,⟨lo,hi,q1,q2,q3,q4⟩=>⟨lo,hi,q1,q2,q3.awayS d e g,AY.awayS d e g q4⟩
theorem AY.snoc {w:World} {c:N5} {b d:Nat} (f:DE w b d c.x c.y c) (e:b≤d):∀{cs:List N5} {base a:Nat},AY w base a cs→a≤b→AY w base d (cs++[c])
 |[],_,_,h,ht=>⟨b,d,Nat.le_trans h ht,e,f,AX _⟩
 |_::_,_,_,⟨l1,h1,q1,q2,q3,q4⟩,ht=>⟨l1,h1,q1,q2,q3,AY.snoc f e q4 ht⟩
theorem AY.top {w:World} {b:Nat}:∀{cs:List N5} {base a:Nat},AY w base a cs→a≤b→AY w base b cs
 |[],_,_,h,ht=>Nat.le_trans h ht
 |_::_,_,_,⟨l1,h1,q1,q2,q3,q4⟩,ht=>⟨l1,h1,q1,q2,q3,AY.top q4 ht⟩
theorem DE.wide {w:World} {g i a d:Nat} {x y:Value} {c:N5} (h:DE w g i x y c) (f:a≤g) (j:i≤d):DE w a d x y c:=
 ⟨Ib h.tx f,Ib h.ty f,fun b e=>by have:=h.bx b e;omega,fun b e=>by have:=h.by' b e;omega,h.apart⟩
theorem AY.each:∀{w:World} {cs:List N5} {base b:Nat},AY w base b cs→∀c ∈ cs,DE w base b c.x c.y c
 |_,[],_,_,_=>fun c a=>by cases a
 |_,d::ds,_,_,⟨lo,hi,h1,h2,h3,h4⟩=>fun c a=>by
  have:=h4.le
  rcases List.mem_cons.1 a with rfl|a
  ·exact h3.wide h1 (by omega)
  ·exact (h4.each c a).wide (by omega) (AX _)
def MQ (n:Int):List N5→List Hd
 |[]=>[]
 |t::ts=>CP t.x t.i.length (t.i.map (Value.int .i64)) (n+1)::CP t.y t.s.length (t.s.map (Value.int .i64)) (n+2)::MQ (n+2) ts
theorem M1 (t:N5):∀(b:List N5) (n:Int),MQ n (b++[t])=MQ n b++[CP t.x t.i.length (t.i.map (Value.int .i64)) (n+2*b.length+1),CP t.y t.s.length (t.s.map (Value.int .i64)) (n+2*b.length+2)]
 |[],n=>by simp [MQ]
 |a::b,n=>by
  simp only [cons_append,MQ,M1 t b (n+2),length_cons]
  rw [show n+2+2*(b.length:Int)+1=n+2*((b.length+1:Nat):Int)+1 by omega,show n+2+2*(b.length:Int)+2=n+2*((b.length+1:Nat):Int)+2 by omega]
theorem AY.kin:∀{w:World} {cs:List N5} {base a:Nat} (_:AY w base a cs) {n:Int},0≤n→n+2*cs.length≤4000000→(∀c ∈ cs,c.i.length≤16777216∧c.s.length≤16777216)→FV w base a 3 1 (MQ n cs)
 |_,[],_,_,_,_,_,_,_=>Fk _ _ _ _ _
 |w,c::cs,base,a,⟨lo,hi,h1,h2,h3,h4⟩,n,n0,n1,hk=>by
  simp only [length_cons] at n1
  have f:=h4.kin (n:=n+2) (by omega) (by omega) fun d e=>hk d (by simp [e])
  have b:=hk c (by simp)
  have:=h4.le
  exact ((h3.kin (n:=n) n0 (by omega) b.1 b.2).app f (by omega) (AX _) (by omega)).wide h1 (AX _)
structure DL (w:World) (lo hi:Nat) (r:Value) (us:List N5):Prop where
 all:AY w lo hi us
 m:MO w lo FG 5 r us.length (FR N5.cells us) [b8 0#8, .slice none 0 0, .slice none 0 0, .int .i64 77, .int .i64 0]
 rb:∀b,r.ownBlock=some b→lo≤b∧b<hi
theorem DL.bs {w w' :World} {a b:Nat} {r:Value} {us:List N5} (h:DL w a b r us) (g:Below w.heap.size w w'):DL w' a b r us:=⟨h.all.bs g,h.m.bs g,h.rb⟩
theorem Kl (us:List N5):(FR N5.cells us).length=us.length*5:=by
 induction us with
 |nil=>rfl
 |cons a us ih=>rw [Km,length_append,ih,D4,length_cons];omega
theorem DL.own {w:World} {a b:Nat} {r:Value} {us:List N5} (h:DL w a b r us):w.ownsRow a FG 5 r us.length (FR N5.cells us):=h.m.own (Kl us)
theorem DL.gn {w:World} {b d:Nat} {r:Value} {us:List N5} (h:DL w b d r us):GN w r us:=⟨AG h.own,fun c a=>⟨(h.all.each c a).tx.sl,(h.all.each c a).ty.sl⟩⟩
theorem PC:Tryz.prog.built FG [(3, .int .i64 77)]=some [b8 0#8, .slice none 0 0, .slice none 0 0, .int .i64 77, .int .i64 0].toArray:=by
 have a:Tryz.prog.info? FG=some Tryz.t79:=by kernel_rfl
 have b:Tryz.prog.info? 3=some Tryz.t3:=by kernel_rfl
 have d:Tryz.prog.info? 77=some Tryz.t77:=by kernel_rfl
 have c:Tryz.prog.info? 70=some Tryz.t70:=by kernel_rfl
 simp [Program.built,a,underlying79,b,d,c,Instr.fill]
 rfl
theorem Rk (a b:List N5):FR N5.cells (a++b)=FR N5.cells a++FR N5.cells b:=by simp [FR]
theorem LL (v:Value) (ls:List N5) (W:World) (h:GN W v ls) (Z:∀t ∈ ls,t.i.length≤4194304∧t.s.length≤4194304) (hl:ls.length≤2097152):
  AJ prog 117 [v] W (fun r w' =>Below W.heap.size W w' ∧∃us,DL w' W.heap.size w'.heap.size r us∧us.map nl=ls.map nl):=by
 have sv:=h.sl
 refine Bd (n:=30) func117 O<|Ah<|Ab O<|Bg<|Ad O<|Aa (Au BA O ‹_›) O ?_
 refine B9 O (by omega)<|Bq (Xw.make (l:=0) (c:=ls.length+1) BA EA O O O (by omega) (by omega) (by omega)) O ?_
 rintro r0 w1 ⟨e, -,q, -⟩
 replace e:w1.ownsRow W.heap.size FG 5 r0 0 []:=e
 refine Ab O<|Bj<|Ab O<|Aj<|Ar ?_
 refine Bo (S:=(Nat×Value×List N5)) (fun z=>[(0,v),(3,z.2.1),(4, .int .i64 (z.1:Int))]) (fun z w' =>z.1≤ls.length∧Below W.heap.size W w' ∧w'.ownsRow W.heap.size FG 5 z.2.1 z.1 (FR N5.cells z.2.2)∧AY w' W.heap.size w'.heap.size z.2.2∧z.2.2.map nl=(ls.take z.1).map nl) (fun z=>ls.length - z.1) ((0,r0,[])) ⟨rfl,rfl,rfl,trivial⟩ ?_ ?_
 ·exact ⟨Nat.zero_le _,q,e,q.size,rfl⟩
 clear e q
 rintro ⟨i,r,us⟩ F ⟨hi,q,e,I,A⟩
 replace hi:i≤ls.length:=hi
 replace e:F.ownsRow W.heap.size FG 5 r i (FR N5.cells us):=e
 replace I:AY F W.heap.size F.heap.size us:=I
 replace A:us.map nl=(ls.take i).map nl:=A
 have D:=sv.bs q
 have z2:=q.size
 have lus:us.length=i:=by have:=cngA length A;rw [length_map,length_map,length_take] at this;omega
 refine Aq<|Ah<|Ad O<|Ad O<|Aa (Au BA O ‹_›) O ?_
 refine B1 O<|Aj<|Ao O ?_ ?_
 ·intro g
  have k:i<ls.length:=by have:=AC g;omega
  obtain ⟨a,T⟩:∃a,a=ls[i]:=⟨_,rfl⟩
  have s:a ∈ ls:=T ▸ getElem_mem k
  have B:=h.cells k
  rw [← T] at B
  refine B2<|Aq<|Ar<|Bh<|Ad O<|Ad O<|Ad O<|Aa (Cu BA O O D i O k) O<|Aa (C6 (cs:=a.cells) (CY _) (CW _) O D O (by decide) B) O<|An O O (MZ a F ((h.each a s).bs q) (Z a s).1 (Z a s).2) ?_
  rintro _ Y ⟨b,x,y,rfl,M⟩
  obtain ⟨c,H⟩:∃c:N5,c=⟨a.k,x,y,a.i,a.s,a.n,a.p⟩:=⟨_,rfl⟩
  rw [← H]
  have V:=bt q b
  have C:=AH e b
  have H3:=I.bs b
  have z3:=b.size
  have U:DE Y F.heap.size Y.heap.size c.x c.y c:=by rw [H];exact ⟨M.tx,M.ty,M.bx,M.by',M.apart⟩
  have X:c.cells.all (·.oneCell')=true:=by rw [H];exact (M.at a.k a.n a.p).ones
  clear b M
  refine Bq (Er (cs:=c.cells) BA EA O O (by decide) (by decide)) O ?_
  rintro p K ⟨u, -,b, -⟩
  have m:=bt V b
  have f:=AH C b
  have R:=H3.bs b
  have U:=U.bs b
  have z4:=b.size
  refine Bq (C5 (base:=W.heap.size) BA EA O (by decide) O O f (AG u) X (by omega) (by omega) m.size) O ?_
  rintro L w ⟨d,b,G, -⟩
  have o:=m.trans b
  have z5:=b.size
  have e1:FR N5.cells (us++[c])=FR N5.cells us++c.cells:=by rw [Rk];simp [FR]
  rw [← e1] at d
  have J:AT K W.heap.size FG 5 r i (FR N5.cells us):= .inl f
  have Q:AY w W.heap.size w.heap.size (us++[c]):=AY.top (AY.snoc (U.awayS J (by decide) G) z3 (R.awayS J (by decide) G) (AX _)) (by omega)
  have N:(us++[c]).map nl=(ls.take (i+1)).map nl:=by
   rw [map_append,A,take_succ_eq_append_getElem k,map_append,← T,H];rfl
  refine Ab O<|Be<|Bi<|Cd<|Ad O<|B9 O (by omega)<|Ab O<|Be ?_
  exact Av (Bw ((i+1,L,us++[c])) ⟨rfl,rfl,rfl,trivial⟩ (⟨k,o,d,Q,N⟩) (by simp only;omega))
 intro g
 have k:i=ls.length:=by have:=AB g;omega
 rw [k,take_length] at A
 refine Bn<|Al<|Al<|Bc<|Ci<|Ad O<|Aa (Cc (vs:=[(3, .int .i64 77)]) (cs:=[b8 0#8, .slice none 0 0, .slice none 0 0, .int .i64 77, .int .i64 0]) O PC) O<|Bq (Er (cs:=[b8 0#8, .slice none 0 0, .slice none 0 0, .int .i64 77, .int .i64 0]) BA EA O O (by decide) (by decide)) O ?_
 rintro p K ⟨u, -,b, -⟩
 have m:=bt q b
 have f:=AH e b
 have R:=I.bs b
 have z4:=b.size
 refine Bq (C5 (base:=W.heap.size) BA EA O (by decide) O O f (AG u) O (by omega) (by omega) m.size) O ?_
 rintro L w ⟨d,b,G, -⟩
 have o:=m.trans b
 have z5:=b.size
 have J:AT K W.heap.size FG 5 r i (FR N5.cells us):= .inl f
 have Q:AY w W.heap.size w.heap.size us:=AY.top (R.awayS J (by decide) G) (by omega)
 have E:=AG d
 rw [show i+1=us.length+1 by omega] at d
 have hS:=RT d
 have sv5:=sv.bs o
 have hR:DL w W.heap.size w.heap.size (cut L 5 0 us.length) us:=⟨Q,hS,AF (hS.own (Kl us))⟩
 rw [show us.length=ls.length by omega] at hR
 refine Ad O<|Aa (Au BA O ‹_›) O ?_
 refine Aa (Gl (j:=ls.length) BA O O E (by omega)) O<|Ab O<|Ay<|Ax O O ?_
 exact ⟨o,us,hR,A⟩
theorem R2 (x:Value) (c:x.cells=[x].toArray):Tryz.prog.built 24 [(0,x)]=some [x].toArray:=by
 have a:Tryz.prog.info? 24=some Tryz.t24:=by kernel_rfl
 have b:Tryz.prog.info? 22=some Tryz.t22:=by kernel_rfl
 simp [Program.built,a,underlying24,b,Instr.fill,c]
 rfl
theorem DL.by {w w' :World} {s o A:Nat} {r:Value} {us:List N5} {T:TypeId} {cs:List Value} (h:DL w s o r us) (g:w.grownBy w' (some A)) (b:AN w A T cs) (x:3≠T) (t:FG≠T):DL w' s o r us:=by
 have m:∀{e:TypeId} {sz n:Nat} {v:Value} {xs:List Value} {B:Nat},e≠T→w.ownsRow B e sz v n xs→w'.ownsRow B e sz v n xs:=fun i f=>Md f b i g
 have C:∀{cs:List N5} {base a:Nat},AY w base a cs→AY w' base a cs:=by
  intro cs
  induction cs with
  |nil=>exact fun h=>h
  |cons c cs ih=>
   rintro base a ⟨l,k,u,D,d,y⟩
   have p:∀{z:Value} {q:List Int} {B:Nat},tI w B z q→tI w' B z q:=fun ⟨j,cap,e,f⟩=>⟨j,cap,e,m x f⟩
   exact ⟨l,k,u,D,⟨p d.tx,p d.ty,d.bx,d.by',d.apart⟩,ih y⟩
 obtain ⟨j,cap,e,f⟩:=h.m
 exact ⟨C h.all,⟨j,cap,e,m t f⟩,h.rb⟩
theorem DL.wide {w:World} {i j a d:Nat} {r:Value} {us:List N5} (h:DL w i j r us) (f:a≤i) (g:j≤d):DL w a d r us:=by
 obtain ⟨b,cap,e,m⟩:=h.m
 have q:AY w a d us:=by
  cases hu:us with
  |nil=>have:=h.all;rw [hu] at this;exact Nat.le_trans f (Nat.le_trans this g)
  |cons c cs=>
   have:=h.all
   rw [hu] at this
   obtain ⟨l,k,o,s,p,n⟩:=this
   exact ⟨l,k,Nat.le_trans f o,s,p,AY.top n g⟩
 exact ⟨q,⟨b,cap,e,DN m f⟩,fun b e=>by have:=h.rb b e;omega⟩
theorem LM (v:Value) (ls:List N5) (W:World) (h:GN W v ls) (B:∀t ∈ ls,t.i.length≤4194304∧t.s.length≤4194304) (D:ls.length≤2097152):
  AJ prog 24 [.agg [v].toArray] W (fun r w' =>Below W.heap.size W w' ∧∃u us,r= .agg [u].toArray∧DL w' W.heap.size w'.heap.size u us∧us.map nl=ls.map nl):=by
 have d:=Below.refl W.heap.size W
 have A:[v].all (·.oneCell')=true:=by rw [all_cons,h.sl.one'];rfl
 refine Bd (n:=7) func24 O<|Ah<|C0 (cs:=[v]) O O O ?_
 rintro C w p c b -
 have d:=d.bs b
 have I:=BL c
 refine Dg Jh O ?_
 rintro y w x j b -
 have d:=d.bs b
 have c:=c.bs b
 refine Bg<|A0 underlying24 O (BY _)<|Aa (Ak (CS _) O ‹_› rfl) O ?_
 have s:=AA d
 refine An O O (LL v ls w (h.bs d) B D) ?_
 rintro u z ⟨b,us,l,E⟩
 have G:=b.size
 have a:=j.bs b
 have f:u.cells=[u].toArray:=(AG l.own).one
 have g:=d.trans (b.mono s)
 refine Aa (Cc (cs:=[u]) O (R2 u f)) O<|Br (Cz (cs:=[u]) (k:=1) (by kernel_rfl) O O O (by rw [all_cons,(AG l.own).one'];rfl) a O) ?_
 rintro F ⟨q,i,H⟩
 have o:=g.grown i (by omega) (by rintro _ e;have:=Option.some.inj e;omega)
 have m:=(l.by i a (by decide) (by decide)).wide (show W.heap.size≤_ from s) (show z.heap.size≤F.heap.size from i.size)
 refine Ay<|Ff O O ‹_› underlying24 O O O ?_
 exact ⟨o,u,us,rfl,m,E⟩
theorem Mn (r v:Value) (us ls:List N5) (T y:Nat) (W:World) (h:DL W T y r us) (G:GN W v ls) (e:us.map nl=ls.map nl):
  AJ prog 131 [r,v] W (fun r w' =>r= .bool true∧Below W.heap.size W w'):=by
 have sv:=G.sl
 have hle:=sv.le
 have U:=AG h.own
 have u:us.length=ls.length:=by have:=cngA length e;simpa using this
 obtain ⟨b,cap,rfl,ho⟩:=h.m
 have Z:us.length+1≤cap∧cap≤9223372036854775807:=by
  obtain ⟨_,ao,X,he,h1,h2,_⟩:=AG ho
  cases he;unfold maxLen at h2;exact ⟨h1,by omega⟩
 refine Bd (n:=47) func131 O<|Ah<|Ab O<|Bj<|Ad O<|Aa (Au BA O ‹_›) O ?_
 refine Ad O<|Aa (Au BA O ‹_›) O ?_
 refine Aa (Cn O O) O<|Ad O<|Cm 12 (v' := .bool false) O (cngA Value.bool ((by simp [u])))<|Af (dj:=12) O O<|Ad O<|Af (dj:=12) O O<|Aa (Ex.capS BA O) O<|Af (dj:=12) O O<|Ad O<|Af (dj:=12) O O<|Aa (Au BA O ‹_›) O ?_
 refine Af (dj:=12) O O<|Aa (Ej O O) O<|B4 O<|Aj<|Bv O false ((by simp;omega))<|B2<|Aq<|Ah<|Ab O<|Aj<|Ar ?_
 refine Bo (S:=Nat) (fun k=>[(0, .slice (some ⟨b,0,none⟩) us.length cap),(1,v),(5, .int .i64 (k:Int))]) (fun k w' =>k≤ls.length∧Below W.heap.size W w') (fun k=>ls.length - k) (0) ⟨rfl,rfl,rfl,trivial⟩ ?_ ?_
 ·exact ⟨by omega,Below.refl _ _⟩
 rintro k B ⟨hk,f⟩
 have x:=sv.bs f
 have A:=U.bs f
 refine Aq<|Ah<|Ad O<|Ad O<|Aa (Au BA O ‹_›) O ?_
 refine B1 O<|Aj<|Ao O ?_ ?_
 ·intro g
  have l:k<ls.length:=by have:=AC g;omega
  have o:k<us.length:=by omega
  obtain ⟨a,Q⟩:∃a,a=ls[k]:=⟨_,rfl⟩
  obtain ⟨c,K⟩:∃c,c=us[k]:=⟨_,rfl⟩
  have I:a ∈ ls:=Q ▸ getElem_mem l
  have F:c ∈ us:=K ▸ getElem_mem o
  have s:=G.cells l
  rw [← Q] at s
  have t:=h.gn.cells o
  rw [← K] at t
  have ev:nl c=nl a:=by
   have e1:(us.map nl)[k]? =(ls.map nl)[k]? :=by rw [e]
   rw [getElem?_map,getElem?_map,getElem?_eq_getElem o,getElem?_eq_getElem l,← Q,← K] at e1
   exact Option.some.inj e1
  have w:=(h.all.each c F).bs f
  obtain ⟨C,J,H,D,cs,cn,E⟩:=c
  obtain ⟨ak,M,N,ai,as',an,ap⟩:=a
  simp only [nl,Prod.mk.injEq] at ev
  obtain ⟨rfl,rfl,rfl,rfl,rfl⟩:=ev
  refine B2<|Aq<|Ar<|Aq<|Cw.tail 8 mixed (by kernel_rfl)<|Bt O<|Bt O<|Ai (fun B m=>Cu BA O O (Sl.bs A m) k O o) O<|Ai (fun B m=>C6 (cs:=(N5.mk C J H D cs cn E).cells) (CY _) (CW _) O (Sl.bs A m) O (by decide) t) O<|Bt O<|Bt O<|Ai (fun B m=>Cu BA O O (Sl.bs x m) k O l) O<|Ai (fun B m=>C6 (cs:=(N5.mk C M N D cs cn E).cells) (CY _) (CW _) O (Sl.bs x m) O (by decide) s) O ?_
  refine Qw.done (fun R m=> ?_)
  refine An O O (N3 ⟨C,M,N,D,cs,cn,E⟩ J H T y R (((G.each _ I).bs f).bs m) (show DE R T y J H ⟨C,M,N,D,cs,cn,E⟩ from ⟨w.tx.bs m,w.ty.bs m,w.bx,w.by',w.apart⟩)) ?_
  rintro _ w3 ⟨rfl,z⟩
  have z:=bt m z
  have L:=bt f z
  refine Aa (Co O) O<|Aj<|Bv O false ((by simp))<|Ca<|Bi<|Cd<|Ad O<|B9 O (by omega)<|Ab O<|Be ?_
  exact Av (Bw (k+1) ⟨rfl,rfl,rfl,trivial⟩ (⟨by omega,L⟩) (by omega))
 ·intro g
  have l:k=ls.length:=by have:=AB g;omega
  subst l
  have d:=AG (AH ho f)
  have lc:=Kl us
  obtain ⟨mk,p⟩:∃mk,mk=[b8 0#8,Value.slice none 0 0, .slice none 0 0, .int .i64 77, .int .i64 0]:=⟨_,rfl⟩
  have V:∀i,i<5→∃q,mk[i]? =some q∧(FR N5.cells us++mk)[us.length*5+i]? =some q:=fun i y=>by
   have hl:i<mk.length:=by rw [p];exact y
   exact ⟨mk[i],getElem?_eq_getElem hl,by rw [getElem?_append_right (by omega),lc,Nat.add_sub_cancel_left];exact getElem?_eq_getElem hl⟩
  rw [u] at d V
  rw [← p] at d
  refine Bn<|Al<|Al<|Bc<|Ci<|Ad O<|Ad O<|Aa (Au BA O ‹_›) O ?_
  refine B9 O (by omega)<|Aa (Gj (j:=ls.length+1) BA O O (by omega)) O<|Ad O<|Aa (Au BA O ‹_›) O ?_
  refine Aa (Cu BA O O d ls.length O (by omega)) O<|Aa (C6 (cs:=mk) (CY _) (CW _) O d (by rw [p];rfl) (by decide) V) O ?_
  rw [p]
  refine Cv (cs:=[b8 0#8, .slice none 0 0, .slice none 0 0, .int .i64 77, .int .i64 0]) EA O O O O (fun _=>rfl) (rfl) ?_
  rintro A_m R Y b_m z zhn
  refine Bg<|A0 underlying79 O (AV _)<|Aa (Ak (AI _) O ‹_› rfl) O ?_
  exact Aa (Cl rfl rfl) rfl<|Ab rfl<|Ay<|Ax rfl rfl<|⟨cngA Value.bool (by simp),bt f z⟩
theorem Mo (r v:Value) (us ls:List N5) (k l:Nat) (W:World) (h:DL W k l r us) (d:GN W v ls) (e:us.map nl=ls.map nl):
  AJ prog 30 [.agg [r].toArray, .agg [v].toArray] W (fun r w' =>r= .bool true∧Below W.heap.size W w'):=by
 have c:=Below.refl W.heap.size W
 refine Bd (n:=10) func30 O<|Ah<|C0 (cs:=[r]) O O O ?_
 rintro j w g b a -
 have c:=c.bs a
 have h:=h.bs a
 have d:=d.bs a
 refine C0 (cs:=[v]) O O O ?_
 rintro m w i f a -
 have c:=c.bs a
 have h:=h.bs a
 have d:=d.bs a
 have b:=b.bs a
 refine Ab O<|Bg<|A0 underlying24 O (BY _)<|Aa (Ak (CS _) O ‹_› rfl) O ?_
 refine A0 underlying24 O (BY _)<|Aa (Ak (CS _) O ‹_› rfl) O ?_
 refine An O O (Mn r v us ls _ _ _ h d e) ?_
 rintro _ w ⟨rfl,a⟩
 have c:=c.bs a
 have h:=h.bs a
 have d:=d.bs a
 have b:=b.bs a
 have f:=f.bs a
 exact Ab rfl<|Ay<|Ax rfl rfl<|⟨rfl,c⟩
def N5.low (lo:Nat) (t:N5):Prop:=(∀b,t.x.ownBlock=some b→b<lo)∧∀b,t.y.ownBlock=some b→b<lo
theorem NQ {w w' :World} {a:Nat} {v:Value} {ls:List N5} (h:GN w v ls) (d:∀b,v.ownBlock=some b→b<a) (c:∀t ∈ ls,t.low a) (g:Below a w w'):GN w' v ls:=
 ⟨IG h.sl d g,fun t m=>⟨IG (h.each t m).i (c t m).1 g,IG (h.each t m).s (c t m).2 g⟩⟩
theorem MK (w:World) (f A:Nat) (n:Int) (x C D s p:List Hd) (E T un B F v:Value) (ls:List N5) (h:Bm w f A n x C D s p E T un B F) (Q:GN w v ls) (G:∀b,v.ownBlock=some b→b<f) (j:∀t ∈ ls,t.low f) (hf:n+2*ls.length≤3999980):
  AJ prog 132 [.pointer (some ⟨A,0,none⟩),v] w (fun r w' =>r= .tuple #[]∧Below f w w' ∧∃I k,Bm w' f A (n+2*ls.length+1) x (C++MQ n ls) D s (p++[CP v ls.length (FR N5.cells ls) (n+2*ls.length+1)]) E I un B k):=by
 have sv:=Q.sl
 have Z:=h.many
 refine Bd (n:=20) func132 O<|Aq<|Ah<|Ab O<|Aj<|Ar ?_
 refine Bo (S:=(Nat×Value)) (fun z=>[(0, .pointer (some ⟨A,0,none⟩)),(1,v),(4, .int .i64 (z.1:Int))]) (fun z w' =>z.1≤ls.length∧Below f w w' ∧Bm w' f A (n+2*z.1) x (C++MQ n (ls.take z.1)) D s p E z.2 un B F) (fun z=>ls.length - z.1) ((0,T)) ⟨rfl,rfl,rfl,trivial⟩ ?_ ?_
 ·exact ⟨Nat.zero_le _,Below.refl _ _,by simpa [MQ] using h⟩
 rintro ⟨i,M⟩ R ⟨H,N,o⟩
 dsimp only at H o ⊢
 have l:=NQ Q G j N
 have m:=l.sl
 refine Aq<|Ah<|Ad O<|Ad O<|Aa (Au BA O ‹_›) O ?_
 refine B1 O<|Aj<|Ao O ?_ ?_
 ·intro g
  have c:i<ls.length:=by have:=AC g;omega
  obtain ⟨a,L⟩:∃a,a=ls[i]:=⟨_,rfl⟩
  have u:a ∈ ls:=L ▸ getElem_mem c
  have q:=l.cells c
  rw [← L] at q
  have y:=l.each a u
  refine B2<|Aq<|Ar<|Bh<|Ad O<|Ad O<|Ad O<|Aa (Cu BA O O m i O c) O<|Aa (C6 (cs:=a.cells) (CY _) (CW _) O m O (by decide) q) O<|An O O (Oe R f A (n+2*i) x _ D s p E M un B F (b8 a.k) a.x a.y (.int .i64 a.n) (.int .i64 a.p) a.i.length a.s.length _ _ o y.i y.s (j a u).2 (by omega)) ?_
  rintro _ U ⟨rfl,K,J,d⟩
  have V:C++MQ n (ls.take (i+1))=C++MQ n (ls.take i)++[CP a.x a.i.length (a.i.map (Value.int .i64)) (n+2*i+1),CP a.y a.s.length (a.s.map (Value.int .i64)) (n+2*i+2)]:=by
   rw [take_succ_eq_append_getElem c,M1,← L,length_take,Nat.min_eq_left (by omega),append_assoc]
  have W:n+2*(i:Int)+2=n+2*((i+1:Nat):Int):=by omega
  rw [← V,W] at d
  refine Be<|Bi<|Cd<|Ad O<|B9 O (by omega)<|Ab O<|Be ?_
  exact Av (Bw ((i+1,J)) ⟨rfl,rfl,rfl,trivial⟩ (⟨c,N.trans K,d⟩) (by simp only;omega))
 intro g
 have c:i=ls.length:=by have:=AB g;omega
 subst c
 rw [take_length] at o
 refine Bn<|Al<|Al<|Bc<|Cd<|Ad O<|Ad O<|An O O (MM R f A (n+2*ls.length) x _ D s p E M un B F v ls.length (FR N5.cells ls) o m (by omega)) ?_
 rintro _ U ⟨rfl,X,k,d⟩
 have Y:=o.low (fun b e=>(AF o.od b e).1) X
 exact Be<|Cs rfl<|⟨rfl,N.trans Y,M,k,d⟩
theorem ML (w:World) (e A:Nat) (n:Int) (l p a j g:List Hd) (q B un o x v:Value) (ls:List N5) (h:Bm w e A n l p a j g q B un o x) (s:GN w v ls) (m:∀b,v.ownBlock=some b→b<e) (f:∀t ∈ ls,t.low e) (E:n+2*ls.length≤3999980):
  AJ prog 31 [.pointer (some ⟨A,0,none⟩), .agg [v].toArray] w (fun r w' =>r= .tuple #[]∧Below e w w' ∧∃d c,Bm w' e A (n+2*ls.length+1) l (p++MQ n ls) a j (g++[CP v ls.length (FR N5.cells ls) (n+2*ls.length+1)]) q d un o c):=by
 have z:=h.size
 have u:=Below.refl w.heap.size w
 refine Bd (n:=8) func31 O<|Ah<|C0 (cs:=[v]) O O O ?_
 rintro C w y F a -
 have u:=u.bs a
 have h:=h.bs a
 have s:=s.bs a
 clear a
 refine Aj<|Bh<|Ad O<|A0 underlying24 O (BY _)<|Aa (Ak (CS _) O ‹_› rfl) O ?_
 have i:=u.mono (Nat.le_of_lt z)
 refine An O O (MK w e A n l p a j g q B un o x v ls h s m f E) ?_
 rintro _ G ⟨rfl,k,d,c,D⟩
 exact Be<|Cs rfl<|⟨rfl,i.trans k,d,c,D⟩
end Go.Proofs.YtblbopcaflaldaaGreatDoor

namespace Go.Proofs.YtblbopcaflaldaaGreatDoor
open Go Go.Dd Go.RowKit List Go.Proofs.Tryz
set_option maxRecDepth 100000
theorem Tz (a b:N5):decide (pn a=pn b)=(decide (a.k=b.k) && (decide (a.i=b.i) && (decide (a.s=b.s) && (decide (a.n=b.n) && decide (a.p=b.p))))):=by
 unfold pn
 simp only [Prod.mk.injEq,Bool.decide_and]
theorem Nm (a b:N5) (W:World) (d:N5.at W a) (c:N5.at W b):AJ prog 212 [a.v,b.v] W (fun r w' =>r= .bool (decide (pn a=pn b))∧Below W.heap.size W w'):=by
 have h:=Below.refl W.heap.size W
 rw [Tz]
 refine Bd (n:=38) func212 O<|Ah<|C0 (cs:=a.cells) O O O ?_
 rintro u w p f e -
 have h:=h.bs e
 have d:=d.bs e
 have c:=c.bs e
 refine C0 (cs:=b.cells) O O O ?_
 rintro t w q i e -
 have h:=h.bs e
 have d:=d.bs e
 have c:=c.bs e
 have f:=f.bs e
 refine Ab O<|Bg<|A0 underlying79 O (DA _)<|Aa (Ak (DG _) O ‹_› rfl) O ?_
 refine A0 underlying79 O (DA _)<|Aa (Ak (DG _) O ‹_› rfl) O ?_
 refine Aa (B0 O O) O<|Ad O ?_
 refine Bx 10 O ?_ ?_
 ·intro g
  have m:=d.i
  have l:=c.i
  refine Af (dj:=10) O O<|A0 underlying79 O (AU _)<|Af (dj:=10) O O<|Aa (Ak (AK _) O ‹_› rfl) O ?_
  refine Af (dj:=10) O O<|A0 underlying79 O (AU _)<|Af (dj:=10) O O<|Aa (Ak (AK _) O ‹_› rfl) O ?_
  refine Af (dj:=10) O O<|An O O (JJ a.x b.x a.i b.i w d.i c.i) ?_
  rintro _ s ⟨rfl,e⟩
  replace h:=bt h e
  have d:=d.bs e
  have c:=c.bs e
  have f:=f.bs e
  have i:=i.bs e
  clear e m l
  rw [g]
  refine Bu O<|Ad O ?_
  refine Bx 17 O ?_ ?_
  ·intro k
   refine Af (dj:=17) O O<|A0 underlying79 O (AU _)<|Af (dj:=17) O O<|Aa (Ak (AK _) O ‹_› rfl) O ?_
   refine Af (dj:=17) O O<|A0 underlying79 O (AU _)<|Af (dj:=17) O O<|Aa (Ak (AK _) O ‹_› rfl) O ?_
   refine Af (dj:=17) O O<|An O O (JJ a.y b.y a.s b.s s d.s c.s) ?_
   rintro _ v ⟨rfl,e⟩
   replace h:=bt h e
   have f:=f.bs e
   have i:=i.bs e
   rw [k]
   refine Bu O<|Ad O ?_
   refine Bx 24 O ?_ ?_
   ·intro o
    rw [o]
    refine Af (dj:=24) O O<|A0 underlying79 O (AV _)<|Af (dj:=24) O O<|Aa (Ak (AI _) O ‹_› rfl) O ?_
    refine Af (dj:=24) O O<|A0 underlying79 O (AV _)<|Af (dj:=24) O O<|Aa (Ak (AI _) O ‹_› rfl) O ?_
    refine Af (dj:=24) O O<|Aa (Cl O O) O<|Bu O<|Ad O ?_
    refine Bx 31 O ?_ ?_
    ·intro j
     rw [j]
     refine Af (dj:=31) O O<|A0 underlying79 O (AV _)<|Af (dj:=31) O O<|Aa (Ak (AI _) O ‹_› rfl) O ?_
     refine Af (dj:=31) O O<|A0 underlying79 O (AV _)<|Af (dj:=31) O O<|Aa (Ak (AI _) O ‹_› rfl) O ?_
     exact Af (dj:=31) rfl rfl<|Aa (Cl rfl rfl) rfl<|Bu rfl<|Ab rfl<|Ay<|Ax rfl rfl<|⟨rfl,h⟩
    intro j
    rw [j]
    exact Ae (dj:=31) rfl rfl rfl rfl<|Ae (dj:=31) rfl rfl rfl rfl<|Ae (dj:=31) rfl rfl rfl rfl<|Ae (dj:=31) rfl rfl rfl rfl<|Ae (dj:=31) rfl rfl rfl rfl<|B4 rfl<|Ab rfl<|Ay<|Ax rfl rfl<|⟨rfl,h⟩
   intro o
   rw [o]
   exact Ae (dj:=24) rfl rfl rfl rfl<|Ae (dj:=24) rfl rfl rfl rfl<|Ae (dj:=24) rfl rfl rfl rfl<|Ae (dj:=24) rfl rfl rfl rfl<|Ae (dj:=24) rfl rfl rfl rfl<|B4 rfl<|Ad rfl<|Ae (dj:=31) rfl rfl rfl rfl<|Ae (dj:=31) rfl rfl rfl rfl<|Ae (dj:=31) rfl rfl rfl rfl<|Ae (dj:=31) rfl rfl rfl rfl<|Ae (dj:=31) rfl rfl rfl rfl<|B4 rfl<|Ab rfl<|Ay<|Ax rfl rfl<|⟨rfl,h⟩
  intro k
  rw [k]
  exact Ae (dj:=17) rfl rfl rfl rfl<|Ae (dj:=17) rfl rfl rfl rfl<|Ae (dj:=17) rfl rfl rfl rfl<|Ae (dj:=17) rfl rfl rfl rfl<|Ae (dj:=17) rfl rfl rfl rfl<|B4 rfl<|Ad rfl<|Ae (dj:=24) rfl rfl rfl rfl<|Ae (dj:=24) rfl rfl rfl rfl<|Ae (dj:=24) rfl rfl rfl rfl<|Ae (dj:=24) rfl rfl rfl rfl<|Ae (dj:=24) rfl rfl rfl rfl<|B4 rfl<|Ad rfl<|Ae (dj:=31) rfl rfl rfl rfl<|Ae (dj:=31) rfl rfl rfl rfl<|Ae (dj:=31) rfl rfl rfl rfl<|Ae (dj:=31) rfl rfl rfl rfl<|Ae (dj:=31) rfl rfl rfl rfl<|B4 rfl<|Ab rfl<|Ay<|Ax rfl rfl<|⟨rfl,h⟩
 intro g
 rw [g]
 exact Ae (dj:=10) rfl rfl rfl rfl<|Ae (dj:=10) rfl rfl rfl rfl<|Ae (dj:=10) rfl rfl rfl rfl<|Ae (dj:=10) rfl rfl rfl rfl<|Ae (dj:=10) rfl rfl rfl rfl<|B4 rfl<|Ad rfl<|Ae (dj:=17) rfl rfl rfl rfl<|Ae (dj:=17) rfl rfl rfl rfl<|Ae (dj:=17) rfl rfl rfl rfl<|Ae (dj:=17) rfl rfl rfl rfl<|Ae (dj:=17) rfl rfl rfl rfl<|B4 rfl<|Ad rfl<|Ae (dj:=24) rfl rfl rfl rfl<|Ae (dj:=24) rfl rfl rfl rfl<|Ae (dj:=24) rfl rfl rfl rfl<|Ae (dj:=24) rfl rfl rfl rfl<|Ae (dj:=24) rfl rfl rfl rfl<|B4 rfl<|Ad rfl<|Ae (dj:=31) rfl rfl rfl rfl<|Ae (dj:=31) rfl rfl rfl rfl<|Ae (dj:=31) rfl rfl rfl rfl<|Ae (dj:=31) rfl rfl rfl rfl<|Ae (dj:=31) rfl rfl rfl rfl<|B4 rfl<|Ab rfl<|Ay<|Ax rfl rfl<|⟨rfl,h⟩
theorem LR (u v:Value) (xs f:List N5) (W:World) (p:GN W u xs) (w:GN W v f):AJ prog 130 [u,v] W (fun r w' =>r= .bool (decide (xs.map pn=f.map pn))∧Below W.heap.size W w'):=by
 have x:=p.1
 have C:=w.1
 have R:=p.1.le
 refine Bd (n:=27) func130 O<|Ah<|Ab O<|Bj<|Ad O<|Aa (Au BA O ‹_›) O ?_
 refine Ad O<|Aa (Au BA O ‹_›) O ?_
 refine Aa (Cn O O) O<|Aj<|Ao O ?_ ?_
 ·intro g
  have B:¬xs.length=f.length:=fun e=>by rw [e] at g;simp at g
  refine Ah<|Ab O<|Bz<|Ax O O ?_
  exact ⟨by rw [decide_eq_false fun e=>B (by have:=cngA length e;simpa using this)],Below.refl _ _⟩
 intro g
 have B:xs.length=f.length:=by simp at g;omega
 refine B2<|Aq<|Ah<|Ab O<|Aj<|Ar ?_
 refine Bo (S:=Nat) (fun i=>[(0,u),(1,v),(5, .int .i64 (i:Int))]) (fun i w' =>i≤xs.length∧(xs.take i).map pn=(f.take i).map pn∧Below W.heap.size W w') (fun i=>xs.length - i) (0) ⟨rfl,rfl,rfl,trivial⟩ ?_ ?_
 ·exact ⟨Nat.zero_le _,rfl,Below.refl _ _⟩
 rintro i d ⟨T,D,m⟩
 have x:=p.1.bs m
 have C:=w.1.bs m
 refine Aq<|Ah<|Ad O<|Ad O<|Aa (Au BA O ‹_›) O ?_
 refine B1 O<|Aj<|Ao O ?_ ?_
 ·intro h
  have c:i<xs.length:=by have:=AC h;omega
  have k:i<f.length:=by omega
  obtain ⟨a,t⟩:∃a,a=xs[i]:=⟨_,rfl⟩
  obtain ⟨b,s⟩:∃b,b=f[i]:=⟨_,rfl⟩
  have F:=p.cells c
  have G:=w.cells k
  rw [← t] at F
  rw [← s] at G
  have A:=(p.2 a (t ▸ getElem_mem c)).bs m
  have y:=(w.2 b (s ▸ getElem_mem k)).bs m
  have M:(xs.take (i+1)).map pn=(xs.take i).map pn++[pn a]:=by rw [take_succ_eq_append_getElem c,map_append,← t];rfl
  have J:(f.take (i+1)).map pn=(f.take i).map pn++[pn b]:=by rw [take_succ_eq_append_getElem k,map_append,← s];rfl
  refine B2<|Aq<|Ar<|Aq ?_
  refine Cw.any mixed (fun N o _=> ?_)
  refine Df (fun w' =>Below d.heap.size d w') (fun Q=> ?_) (o)
  refine Cr (B5 (Ce (B5 (B5 (Ce (B5 C9))))))<|Am 0 O (fun d j=>Cb O) O<|Am 1 O (fun d j=>Cb O) O<|Am 2 O (fun d j=>Cu BA O O (x.bs j) i O c) O<|Am 3 O (fun d j=>C6 (cs:=a.cells) (CY _) (CW _) O (x.bs j) O (by decide) F) O<|Am 4 O (fun d j=>Cb O) O<|Am 5 O (fun d j=>Cb O) O<|Am 6 O (fun d j=>Cu BA O O (C.bs j) i O k) O<|Am 7 O (fun d j=>C6 (cs:=b.cells) (CY _) (CW _) O (C.bs j) O (by decide) G) O<|Cf<|BV.only ‹_› (i:=8) (by kernel_rfl) O ?_
  refine An O O (Nm a b N (A.bs o) (y.bs o)) ?_
  rintro _ I ⟨rfl,L⟩
  have z:Below d.heap.size d I:=o.trans (L.mono o.size)
  have q:=m.trans (z.mono (AA m))
  refine BV.back<|Cr (B5 (Ce (B5 (B5 (Ce (B5 C9))))))<|Am 9 O (fun d j=>Co O) O<|Cf<|BV.done ‹_› (by kernel_rfl) ?_
  refine Av<|B8<|Ao O ?_ ?_
  ·intro l
   have l:¬pn a=pn b:=by simpa using l
   refine Ah<|Ab O<|Ay<|Ba<|Ap<|Ap<|Ba<|Ap<|Ax O O ?_
   refine ⟨?_,q⟩
   rw [decide_eq_false fun e=>l ?_]
   have E:(xs.map pn)[i]? =some (pn a):=by rw [getElem?_map,getElem?_eq_getElem c,← t];rfl
   have H:(f.map pn)[i]? =some (pn b):=by rw [getElem?_map,getElem?_eq_getElem k,← s];rfl
   rw [e,H] at E
   exact (Option.some.inj E).symm
  intro l
  have l:pn a=pn b:=by simpa using l
  refine Ca<|Bi<|Cd<|Ad O<|B9 O (by omega)<|Ab O<|Be ?_
  exact Av (Bw (i+1) ⟨rfl,rfl,rfl,trivial⟩ (⟨c,by rw [M,J,D,l],q⟩) (by omega))
 intro h
 have c:i=xs.length:=by have:=AB h;omega
 subst c
 have K:f.take xs.length=f:=by rw [B,take_length]
 rw [take_length,K] at D
 exact Bn<|Al<|Al<|Bc<|Ci<|Ab rfl<|Ay<|Ax rfl rfl<|⟨by rw [decide_eq_true D],m⟩
theorem Jc (u v:Value) (xs f:List N5) (W:World) (d:GN W u xs) (c:GN W v f):AJ prog 29 [.agg [u].toArray, .agg [v].toArray] W (fun r w' =>r= .bool (decide (xs.map pn=f.map pn))∧Below W.heap.size W w'):=by
 have e:=Below.refl W.heap.size W
 refine Bd (n:=10) func29 O<|Ah<|C0 (cs:=[u]) O O O ?_
 rintro k w g b a -
 have e:=e.bs a
 have d:=d.bs a
 have c:=c.bs a
 refine C0 (cs:=[v]) O O O ?_
 rintro i w h j a -
 have e:=e.bs a
 have d:=d.bs a
 have c:=c.bs a
 have b:=b.bs a
 refine Ab O<|Bg<|A0 underlying24 O (BY _)<|Aa (Ak (CS _) O ‹_› rfl) O ?_
 refine A0 underlying24 O (BY _)<|Aa (Ak (CS _) O ‹_› rfl) O ?_
 refine An O O (LR u v xs f w d c) ?_
 rintro _ l ⟨rfl,a⟩
 exact Ab rfl<|Ay<|Ax rfl rfl<|⟨rfl,bt e a⟩
end Go.Proofs.YtblbopcaflaldaaGreatDoor

namespace Go.Proofs.YtblbopcaflaldaaGreatDoor
open Go Go.Dd Go.RowKit List
set_option maxRecDepth 100000
end Go.Proofs.YtblbopcaflaldaaGreatDoor

namespace Go.Dd
open Go Go.RowKit List
def Tr (l:List (BitVec 8)):ByteArray:=⟨(l.map UInt8.ofBitVec).toArray⟩
section
variable {P : Program} {Q : BN} {n : Nat} {E : BZ} {w : World} {l0 rest : List Oper} {ty : TypeId} {pos : String} {af : Array Edge}
variable {x y z : Operand} {v u : Value} {t s e t2 : TypeId} {l : List (BitVec 8)} {a b : ByteArray}
theorem Ex.strOf (i:FO P t e 1) (h:P.underlying e=some (.int .u8)) (f:P.underlying t2=some .string) (r:ev E x=some v) (p:CA b8 w v l):Ex P n E (.convert t t2 x) ty w (.string (Tr l)):=fun a m _ _ _ _=>by
 obtain ⟨B,g,cap,rfl,D,C,q,o⟩:=p
 have c:(convert t t2 (.slice g l.length cap)).run P w= .ok (.string (Tr l)) w:=by
  cases g with
  |none=>
   have A:l=[]:=by
    have:=q rfl
    exact eq_nil_of_length_eq_zero (by omega)
   subst A
   exact run_convert_bytes_nil w t e i.u h _ _ t2 f
  |some ad=>
   have:=run_convert_bytes_back (P:=P) w t t2 e ad cap (l.map UInt8.ofBitVec) i.u h f (fun j k=>by
    have d:j<l.length:=by simpa using k
    have:=o ad rfl j (b8 l[j]) (by simp [d])
    rw [this]
    simp [b8])
   rwa [length_map] at this
 simp [execOp,m.ev r,c]
theorem Hz {c:BinOp}:eqGuard c t x y (.string a) u=pure ():=by cases c<;>rfl
theorem Ex.eqlS (f:ev E x=some (.string a)) (d:ev E y=some (.string b)):Ex P n E (.binOp .eql t x y s) ty w (.bool (decide (a=b))):=fun g c _ _ _ _=>by
 have h:(a.toList==b.toList)=decide (a=b):=by
  by_cases h:a=b
  ·subst h;simp
  ·simp [h,ByteArray.toList_eq]
   exact fun e=>h (ByteArray.ext e)
 simp only [execOp,c.ev f,c.ev d,Hz]
 simp [binOp_string_eql,h]
end
end Go.Dd

namespace Go.Dd
open Go Go.RowKit
open List hiding get
section
variable {P : Program} {Q : BN} {n : Nat} {E : BZ} {w : World} {ty t s e : TypeId} {x y : Operand} {a b : ByteArray} {u v z : Value}
theorem Dp {d:Func} {R:Value→World→Prop} {p q r:Nat} (i:d.results= #[.tmp p, .tmp q, .tmp r]) (f:get E p=some u) (g:get E q=some v) (j:get E r=some z) (h:R (.tuple #[u,v,z]) w):Pw n E (RM P d R .ret) w:=fun a c=>
 bodyPost_ret (v:= .tuple #[u,v,z]) (by rw [results_tmp3 i];simp [Array.getD_eq_getD_getElem?,c.has _ _ f,c.has _ _ g,c.has _ _ j]) c.dfr ⟨_,rfl,h⟩
theorem JN {j:Func} {p q r:Tmp} {c:TypeId} (h:j.results= #[.cell p c, .tmp q, .tmp r]) (tmps:Array Value) (w:World) (g:Nat) (i:TypeId) (cs:Array Value) (k:Nat×Nat) (d:TypeDesc)
  (m:tmps.getD p undef= .pointer (some ⟨g,0,none⟩)) (A:w.heap[g]? =some (.cells cs i k))
  (o:P.underlying c=some d) (l:(match d with| .struct _| .array _ _=>true|_=>false)=true) (B:(P.info? c).map (·.size)=some cs.size):
  (results j tmps).run P w= .ok (.tuple #[.agg cs,tmps.getD q undef,tmps.getD r undef]) w:=by
 have f:tmps[p]?.getD undef= .pointer (some ⟨g,0,none⟩):=by simpa using m
 simp [results,h,f,asAddr,run_loadVar_row w g i c cs k d A o l B]
theorem Dm {f:Func} {R:Value→World→Prop} {p q r b k:Nat} {T:TypeId} {cs:List Value} {d:TypeDesc} (m:f.results= #[.cell p e, .tmp q, .tmp r]) (i:get E p=some (.pointer (some ⟨b,0,none⟩))) (l:get E q=some u) (C:get E r=some v) (A:AN w b T cs)
  (o:P.underlying e=some d) (g:(match d with| .struct _| .array _ _=>true|_=>false)=true) (B:(P.info? e).map (·.size)=some k) (j:cs.length=k) (h:R (.tuple #[.agg cs.toArray,u,v]) w):Pw n E (RM P f R .ret) w:=fun a c=>by
 subst j
 have:=JN m a.tmps w b T cs.toArray (0,0) d (by simp [Array.getD_eq_getD_getElem?,c.has _ _ i]) A o g (by simpa using B)
 rw [show a.tmps.getD q undef=u by simp [Array.getD_eq_getD_getElem?,c.has _ _ l],show a.tmps.getD r undef=v by simp [Array.getD_eq_getD_getElem?,c.has _ _ C]] at this
 exact bodyPost_ret this c.dfr ⟨_,rfl,h⟩
end
end Go.Dd

namespace Go.Proofs.YtblbopcaflaldaaGreatDoor
open Go Go.Dd Go.RowKit List
set_option maxRecDepth 100000
def parts (v:Value) (K:Nat):List Value:=(List.range K).map fun i=>Ve v 1 (4*i) (4*i+4)
end Go.Proofs.YtblbopcaflaldaaGreatDoor

namespace Go.Dd
open Go Go.RowKit List
def dfr (f:FuncId) (caps:List Value):Deferred:={target:= .fn (.func f) caps.toArray,args:= #[]}
def Ul (P:Program) (fn:Func) (R:Value→World→Prop):BN:=bodyPostD P fn (fun e w' =>∃v,e= .returned v∧R v w')
section
variable {P : Program} {Q : BN} {n : Nat} {E : BZ} {w w2 : World} {D : List Deferred} {l0 rest : List Oper} {ty : TypeId} {pos : String} {af : Array Edge} {f : FuncId} {caps : List Value} {fn : Func} {R : Value → World → Prop} {pv : Value}
theorem G1 {f : FuncId} {c : Code} {args : List Value} (e : P.funcs[f]? = some fn) (a : (fn.name == "runtime.NumGoroutine") = false) (g : fn.body = some c)
  (l:fn.ntmps=n) (k:Nat.ble args.length n=true) (h:Cg none [] P (Ul P fn R) n c (params 0 args) w):AJ P f args w R:=by
 refine ⟨⟨fn,e,a,by simp [g]⟩,calls_of_wp_defers e g ((wpIn_wide (n:=9)).1 (h _ ⟨rfl, ?_,fun i v j=> ?_⟩))⟩
 ·have:args.length≤n:=Nat.le_of_ble_eq_true k
  simp [l];omega
 ·have d:=(EO args 0 i v j).2
  simp only [Nat.sub_zero] at d
  have b:i<args.length:=by
   rcases Nat.lt_or_ge i args.length with h|h
   ·exact h
   ·simp [getElem?_eq_none h] at d
  rw [Array.getElem?_append]
  simp only [size_toArray,b,if_true,getElem?_toArray]
  exact d
theorem Lg.defer {y:Operand} {c:Array TypeId} (d:ev E y=some (.func (.func f) #[] caps.toArray)) (k:Lg none (dfr f caps::D) P l0 Q n rest E w):
  Lg none D P l0 Q n (⟨none, .defer {callee:= .value y,args:= #[],argTypes:=c},ty,pos,af,none⟩::rest) E w:=fun a b=>wpListIn_plain rfl fun K g=>by
 refine ⟨fun _ _=>trivial, ?_⟩
 have e:(execOp a.eval ⟨none, .defer {callee:= .value y,args:= #[],argTypes:=c},ty,pos,af,none⟩).run P w= .ok (.defer (dfr f caps)) w:=by
  simp [execOp,resolve,b.ev d,Deferred.ofValue,dfr]
 rw [show (IE none).round=none from rfl,Oper.semAt_none,e]
 exact g _ _ (k _ ⟨by show dfr f caps::a.defers=_;rw [b.dfr],b.size,b.has⟩)
theorem Pg.retD (j:(invoke (.fn (.func f) caps.toArray) #[]).run P w= .ok (.enter f caps.toArray) w) (g:CallsD P f caps.toArray .returning w fun e d w' =>e= .returned (.tuple #[])∧d= .returning∧w' =w)
  (b:∀a,CK [dfr f caps] n E a→∃v,(results fn a.tmps).run P w= .ok v w∧R v w):Pg [dfr f caps] n E (Ul P fn R .ret) w:=fun a c=>by
 show Leaves P fn a.tmps _ a.defers .returning w
 rw [c.dfr]
 refine leaves_cons (by simp) j (g.mono ?_)
 rintro e d w' ⟨rfl,rfl,rfl⟩
 obtain ⟨v,i,h⟩:=b a c
 exact ⟨v,i,v,rfl,h⟩
theorem Pg.panD {g:World→Prop} (l:(invoke (.fn (.func f) caps.toArray) #[]).run P w= .ok (.enter f caps.toArray) w) (i:CallsD P f caps.toArray (.panicking [{v:=pv,recovered:=false}]) w fun e d w' =>e= .returned (.tuple #[])∧d= .panicking [{v:=pv,recovered:=true}]∧g w')
  (b:∀w2,g w2→∀a,CK [dfr f caps] n E a→∃v,(results fn a.tmps).run P w2= .ok v w2∧R v w2):Pg [dfr f caps] n E (Ul P fn R (.panic [{v:=pv,recovered:=false}])) w:=fun a c=>by
 show Leaves P fn a.tmps _ a.defers (.panicking _) w
 rw [c.dfr]
 refine leaves_cons (by simp) l (i.mono ?_)
 rintro e d w' ⟨rfl,rfl,h⟩
 obtain ⟨v,k,j⟩:=b w' h a c
 exact ⟨v,k,v,rfl,j⟩
theorem Pg.thenP {K:Act→World→Prop} {c:List PanicEntry} (h:Pg D n E (Q (.panic c)) w):Pg D n E (CI K Q (.panic c)) w:=h
theorem Pg.lowP {c:List PanicEntry} (h:Pg D n E (Q (.panic c)) w):Pw n E (IZ D Q (.panic c)) w:=fun a b=>h _ (b.g D)
theorem Lw.callVQ {d:Nat} {y:Operand} {i:Array TypeId} {K:World→Prop} (l:ev E y=some (.func (.func f) #[] caps.toArray)) (j:Nat.blt d n=true) (h:LF P f caps w pv R K)
  (o:∀w',K w' →Pw n E (Q (.panic [{v:=pv,recovered:=false}])) w') (k:∀v w',R v w' →Lw P l0 Q n rest ((d,v)::E) w'):Lw P l0 Q n (⟨some d, .call {callee:= .value y,args:= #[],argTypes:=i},ty,pos,af,none⟩::rest) E w:=
 fun a c=>wpList_plain rfl fun p g=>by
  unfold Oper.wp
  have m:(execOp a.eval ⟨some d, .call {callee:= .value y,args:= #[],argTypes:=i},ty,pos,af,none⟩).run P w= .ok (.enter f caps.toArray) w:=by
   simp [execOp,resolve,c.ev l,Deferred.ofValue,invoke,EH (P:=P) (w:=w) h.1]
  rw [m]
  refine h.2.mono fun e w' q=> ?_
  rcases q with ⟨v,rfl,b⟩|⟨rfl,b⟩
  ·exact g _ _ (k v w' b _ (c.put v j))
  ·exact o w' b a c
def Uk (P:Program) (fn:Func) (c₀:Frame) (cs:List Frame) (u:FrameMode) (R:Ending→FrameMode→World→Prop):BN:=fun e a w=>bodyPostS P fn c₀ cs R e a ({c₀ with mode:=u}::cs) w
theorem Gr {a:Frame} {cs:List Frame} {u:FrameMode} {R:Ending→FrameMode→World→Prop} (c:fn.results= #[]) (h:R (.returned (.tuple #[])) u w):Pw n E (Uk P fn a cs u R .normal) w:=fun _ b=>
 ⟨b.dfr,u,rfl, .tuple #[],by rw [results_none c],h⟩
theorem MH {f:FuncId} {args:List Value} {R:Ending→FrameMode→World→Prop} {l d:Nat} {c:Call} {rest:Code} {v:Value} {a:List PanicEntry} (m:P.funcs[f]? =some fn)
  (t:fn.body=some (.seq (.region l #[⟨some d, .call c,ty,pos, #[],none⟩] false) rest)) (u:∀(ρ:Operand→Value),(execOp ρ ⟨some d, .call c,ty,pos, #[],none⟩).run P w= .ok .recover w) (x:fn.ntmps=n) (p:Nat.ble args.length n=true) (k:Nat.blt d n=true)
  (h:∀e cs,Cw P (Uk P fn e cs (.panicking ({v,recovered:=true}::a)) R) n rest ((d,v)::params 0 args) w):CallsD P f args.toArray (.panicking ({v,recovered:=false}::a)) w R:=by
 refine callsD_of_wpS m t fun e cs s=>wpS_seq (wpS_region ?_)
 have b:BR n (params 0 args) {tmps:=args.toArray++Array.replicate (fn.ntmps - args.toArray.size) undef,defers:=[]}:=by
  refine ⟨rfl, ?_,fun i v o=> ?_⟩
  ·have:args.length≤n:=Nat.le_of_ble_eq_true p
   simp [x];omega
  ·have j:=(EO args 0 i v o).2
   simp only [Nat.sub_zero] at j
   have g:i<args.length:=by
    rcases Nat.lt_or_ge i args.length with h|h
    ·exact h
    ·simp [getElem?_eq_none h] at j
   rw [Array.getElem?_append]
   simp only [size_toArray,g,if_true,getElem?_toArray]
   exact j
 have r:=h e cs _ (b.put v k)
 have q:=wpS_of_wp (cs:={e with mode:= .panicking ({v,recovered:=true}::a)}::cs) (Q:=bodyPostS P fn e cs R) r
 simp only [size_toArray,length_cons,length_nil]
 show wpOpsS P _ _ [0] _ _ _
 simp only [wpOpsS,getElem?_toArray,getElem?_cons_zero,Region.wanted,u,recoverD,s]
 exact q
theorem MG {f:FuncId} {args:List Value} {R:Ending→FrameMode→World→Prop} {o d:Nat} {c:Call} {rest:Code} (p:P.funcs[f]? =some fn)
  (t:fn.body=some (.seq (.region o #[⟨some d, .call c,ty,pos, #[],none⟩] false) rest)) (u:∀(ρ:Operand→Value),(execOp ρ ⟨some d, .call c,ty,pos, #[],none⟩).run P w= .ok .recover w) (x:fn.ntmps=n) (r:Nat.ble args.length n=true) (m:Nat.blt d n=true)
  (h:∀a cs,Cw P (Uk P fn a cs .returning R) n rest ((d, .nilIface)::params 0 args) w):CallsD P f args.toArray .returning w R:=by
 refine callsD_of_wpS p t fun a cs k=>wpS_seq (wpS_region ?_)
 have b:BR n (params 0 args) {tmps:=args.toArray++Array.replicate (fn.ntmps - args.toArray.size) undef,defers:=[]}:=by
  refine ⟨rfl, ?_,fun i v q=> ?_⟩
  ·have:args.length≤n:=Nat.le_of_ble_eq_true r
   simp [x];omega
  ·have j:=(EO args 0 i v q).2
   simp only [Nat.sub_zero] at j
   have g:i<args.length:=by
    rcases Nat.lt_or_ge i args.length with h|h
    ·exact h
    ·simp [getElem?_eq_none h] at j
   rw [Array.getElem?_append]
   simp only [size_toArray,g,if_true,getElem?_toArray]
   exact j
 have e:({a with mode:= .returning}:Frame)=a:=by cases a;simp only at k;rw [k]
 have s:=h a cs _ (b.put .nilIface m)
 have l:=wpS_of_wp (cs:={a with mode:= .returning}::cs) (Q:=bodyPostS P fn a cs R) s
 rw [e] at l
 show wpOpsS P _ _ [0] _ _ _
 simp only [wpOpsS,getElem?_toArray,getElem?_cons_zero,Region.wanted,u,recoverD,k]
 exact l
theorem HN {p b:Nat} {T:TypeId} {v:Value} {d:TypeDesc} (h:fn.results= #[.cell p ty]) (j:AN w b T [v]) (i:P.underlying ty=some d) (c:(match d with| .struct _| .array _ _=>true|_=>false)=false) {a:Act} (e:a.tmps[p]? =some (.pointer (some ⟨b,0,none⟩))):
  (results fn a.tmps).run P w= .ok v w:=by
 have k:w.cell? ⟨b,0,none⟩=some v:=by simp [World.cell?,show w.heap[b]? =_ from j]
 have g:(isAgg ty).run P w= .ok false w:=by
  simp [isAgg,run_underlying i]
  revert c
  cases d<;>simp
 simp [results,h,e,asAddr,loadVar,g,go_sem,k]
theorem Ga {x:Operand} {t s:TypeId} (c:P.underlying t=some (.interface (P.methodsAt t))) (d:ev E x=some .nilIface):Ex P n E (.binOp .eql t x (.const .nilIface) s) ty w (.bool true):=fun a b _ _ _ _=>by
 simp only [execOp,b.ev d,show a.eval (.const .nilIface)= .nilIface from rfl,eqGuard_nil_constR]
 simp [run_eql_nil_nil w t c]
theorem Gb {x:Operand} {t s T:TypeId} {u:Value} (c:P.underlying t=some (.interface (P.methodsAt t))) (d:ev E x=some (.iface T u)):Ex P n E (.binOp .eql t x (.const .nilIface) s) ty w (.bool false):=fun a b _ _ _ _=>by
 simp only [execOp,b.ev d,show a.eval (.const .nilIface)= .nilIface from rfl,show ∀(p q:Operand),eqGuard .eql t p q (.iface T u) .nilIface=pure () from fun _ _=>rfl]
 simp [run_eql_held_nil w t T u c]
theorem Gw {x:Operand} {t T:TypeId} {u:Value} (c:∀w,(Instr.typeAssert (.iface T u) t T true).run P w= .ok (.tuple #[u, .bool true]) w) (d:ev E x=some (.iface T u)):Ex P n E (.typeAssert x t T true) ty w (.tuple #[u, .bool true]):=fun a b _ _ _ _=>by
 simp [execOp,b.ev d,c w]
end
end Go.Dd

namespace Go.Proofs.YtblbopcaflaldaaGreatDoor
open Go Go.Dd Go.RowKit List Go.Proofs.Tryz
set_option maxRecDepth 100000
theorem PA (A:Nat) (x:Value) (w:World) (a:AN w A 4 [x]):
  CallsD prog 154 [Value.pointer (some ⟨A,0,none⟩)].toArray (.panicking [{v:=SY,recovered:=false}]) w fun e d w' =>e= .returned (.tuple #[])∧d= .panicking [{v:=SY,recovered:=true}]∧(AN w' A 4 [.bool false]∧w.grownBy w' (some A)):=by
 refine MH (n:=10) func154 O (fun ρ=>rfl) O O O fun o cs=> ?_
 have l:=BU (Below.refl w.heap.size w) (some A)
 refine Ar<|Ah<|Aa (Gb (by kernel_rfl) O) O<|Aj<|Bv O false (rfl)<|Ah<|Aa (Gw (fun _=>by kernel_rfl) O) O<|Aa (Ex.extract (i:=1) O O) O<|Aa (Ex.extract (i:=0) O O) O<|Aj<|Bv O true (rfl)<|Ah<|Cv (cs:=[]) TV O O O O (fun _=>rfl) (rfl) ?_
 rintro j m b f c k
 have a:=a.bs c
 refine Aj<|Bh<|Br (C4 (u:= .bool false) (Uz _) O O O a Nat.zero_lt_one) ?_
 rintro p ⟨h,g, -⟩
 exact Be<|Bi<|Gr rfl<|⟨rfl,rfl,h,BB (BU c _) g⟩
theorem P9 (A:Nat) (w:World):
  CallsD prog 154 [Value.pointer (some ⟨A,0,none⟩)].toArray .returning w fun e a w' =>e= .returned (.tuple #[])∧a= .returning∧w' =w:=by
 refine MG (n:=10) func154 O (fun ρ=>rfl) O O O fun b cs=>Ar<|Ah<|Aa (Ga (by kernel_rfl) O) O<|Aj<|Bv O true (rfl)<|Bh<|Ab O<|Be<|Bi<|Gr O ?_
 exact ⟨rfl,rfl,rfl⟩
theorem OZ (F:FuncId) (caps:List Value) (W:World) (R K:Nat→World→Prop)
  (m:∀A w,A=W.heap.size→Below W.heap.size W w→AN w A 4 [.bool false]→LF prog F caps w SY (fun r w' =>r= .tuple #[]∧AN w' A 4 [.bool false]∧R A w') (fun w' =>AN w' A 4 [.bool false]∧K A w')):
  AJ prog 50 [.func (.func F) #[] caps.toArray] W (fun r w' =>∃A g,A=W.heap.size∧g.grownBy w' (some A)∧((r= .bool true∧R A g)∨(r= .bool false∧K A g))):=by
 refine G1 (n:=6) func50 (by kernel_rfl) O O O<|Gn<|Fv (by kernel_rfl)<|Dg Va O ?_
 rintro A w i d s -
 refine Be (Pg.low ?_)
 refine Fi (Gp ?_)
 refine Gn<|G2<|Lg.plain 1 (by kernel_rfl)<|Aa (F2 (vs:=[]) (us:=[.pointer (some ⟨A,0,none⟩)]) O O) O ?_
 refine Be (Pg.low ?_)
 refine Lg.out<|Lg.defer (f:=154) (caps:=[.pointer (some ⟨A,0,none⟩)]) O<|Lg.nil ?_
 refine Fi (Gp ?_)
 refine Gn<|Fv (by kernel_rfl)<|Ad O ?_
 have k:∀w,(invoke (.fn (.func 154) [Value.pointer (some ⟨A,0,none⟩)].toArray) #[]).run prog w= .ok (.enter 154 [Value.pointer (some ⟨A,0,none⟩)].toArray) w:=fun w=>by
  simp [invoke,EH (P:=prog) (w:=w) ⟨_,func154,by kernel_rfl,rfl⟩]
 refine Lw.callVQ (caps:=caps) O O (m A w i s d) (fun w' q=>Pg.lowP (Pg.thenP ?_)) ?_
 ·obtain ⟨c,l⟩:=q
  refine Pg.panD (k w') (PA A _ w' c) ?_
  rintro j ⟨h,b⟩ a e
  exact ⟨_,HN (v:= .bool false) rfl h underlying4 rfl (e.has 2 _ rfl),A,w',i,b, .inr ⟨rfl,l⟩⟩
 rintro _ o ⟨rfl,c,p⟩
 refine Be (Pg.low ?_)
 refine Fi (Gp ?_)
 refine Gn<|Fv (by kernel_rfl)<|Br (C4 (u:= .bool true) (Uz _) O O O c Nat.zero_lt_one) ?_
 rintro j ⟨h,b, -⟩
 refine Be (Pg.low ?_)
 refine Fi (Gp ?_)
 exact Cg.ret<|Pg.retD (k j) (P9 A j) fun a e=>⟨_,HN (v:= .bool true) rfl h underlying4 rfl (e.has 2 _ rfl),A,o,i,b, .inl ⟨rfl,p⟩⟩

theorem SL.bs {W w w' :World} {A:Nat} {v:Value} {l:Bs} (h:SL W w A v l) (g:Below w.heap.size w w'):SL W w' A v l:=⟨h.sl,bt h.bel g,h.lo,h.cell.bs g⟩
theorem SL.grow {W w w' :World} {A:Nat} {v:Value} {l:Bs} {r:Option Nat} (h:SL W w A v l) (g:w.grownBy w' r) (a:∀b,r=some b→W.heap.size≤b∧b≠A):SL W w' A v l:=
 ⟨h.sl,h.bel.grown g (AA h.bel) fun b e=>(a b e).1,h.lo,h.cell.by g fun e=>(a A e.symm).2 rfl⟩
structure Gt (W w x:World) (Rc A M T:Nat) (rest:Bs) (ls:List N5) (vn:Value) (ts:List T4) (vw:Value):Prop where
 chg:BJ (fun b=>b=A∨b=M) w x
 c:AN x Rc 97 [.pointer (some ⟨A,0,none⟩)]
 m:AN x M 27 [vn,vw]
 r:∃v',SL W x A v' rest
 o:x.ownsRow w.heap.size 79 5 vn ls.length (FR N5.cells ls)
 u:x.ownsRow w.heap.size 75 2 vw ts.length (cellsOf ts)
 lay:∃mid,GR x w.heap.size mid ls∧BO x mid T ts
 top:T≤x.heap.size
structure Vt (W w:World) (Rc A M:Nat):Prop where
 c:W.heap.size≤Rc∧Rc<w.heap.size
 a:W.heap.size≤A∧A<w.heap.size
 m:W.heap.size≤M∧M<w.heap.size
 ca:Rc≠A
 cm:Rc≠M
 am:A≠M
theorem Gt.bs {W w x y:World} {f A M T:Nat} {a:Bs} {ls:List N5} {c:Value} {d:List T4} {e:Value} (h:Gt W w x f A M T a ls c d e) (g:Below x.heap.size x y):Gt W w y f A M T a ls c d e:=by
 obtain ⟨v',r⟩:=h.r
 obtain ⟨b,i,l2⟩:=h.lay
 exact ⟨h.chg.below g,h.c.bs g,h.m.bs g,⟨v',r.bs g⟩,AH h.o g,AH h.u g,⟨b,i.bs g,l2.bs g⟩,Nat.le_trans h.top g.size⟩
theorem Gt.ob {W w x y:World} {f A M T B:Nat} {a:Bs} {ls:List N5} {j:Value} {m:List T4} {c:Value} {U:TypeId} {cs:List Value} (L:Vt W w f A M) (h:Gt W w x f A M T a ls j m c) (g:x.grownBy y (some B)) (t:w.heap.size≤B) (o:AN x B U cs)
  (k:3≠U) (n:21≠U) (q:j.ownBlock≠some B) (p:c.ownBlock≠some B):Gt W w y f A M T a ls j m c:=by
 obtain ⟨v',r⟩:=h.r
 obtain ⟨i,s,l2⟩:=h.lay
 have v:=L.a
 have u:=L.c
 have z:=L.m
 have l:∀b,some B=some b→∃cs,AN x b U cs:=fun b e=>by cases e;exact ⟨_,o⟩
 exact ⟨h.chg.grown g (fun b e=>by cases e;exact .inr t),h.c.by g (fun e=>by have:=Option.some.inj e;omega),h.m.by g (fun e=>by have:=Option.some.inj e;omega),⟨v',r.grow g fun b e=>by cases e;omega⟩,
  CL h.o fun b e=>g.block b (AF h.o b e).2 fun d=>q (by rw [e,d]),
  CL h.u fun b e=>g.block b (AF h.u b e).2 fun d=>p (by rw [e,d]),
  ⟨i,s.other g l k,l2.other g l k n⟩,Nat.le_trans h.top g.size⟩
def Kt (w x:World) (A M:Nat):Prop:=BJ (fun b=>b=A∨b=M) w x∧∃p q,AN x M 27 [p,q]
theorem Gt.k {W w x:World} {e A M T:Nat} {a:Bs} {ls:List N5} {b:Value} {c:List T4} {d:Value} (h:Gt W w x e A M T a ls b c d):Kt w x A M:=⟨h.chg,_,_,h.m⟩
theorem M9 (ls:List N5) (c:N5):FR N5.cells (ls++[c])=FR N5.cells ls++c.cells:=by simp [FR]
theorem FM {w w' :World} {a sz k:Nat} {E T:TypeId} {v:Value} {xs:List Value} {r:Option Nat} (h:w.ownsRow a E sz v k xs) (g:w.grownBy w' r) (f:∀b,r=some b→∃cs,AN w b T cs) (i:E≠T):w'.ownsRow a E sz v k xs:=
 CL h fun b e=>g.block b (AF h b e).2 fun j=>by
  obtain ⟨cs,c⟩:=f b j.symm
  obtain ⟨ds,d⟩:=AT.ty (.inl h) e
  exact i (FI d c)
theorem Gt.gn {W w x:World} {j A M T:Nat} {b:Bs} {ls:List N5} {c:Value} {d:List T4} {i:Value} (h:Gt W w x j A M T b ls c d i):GN x c ls:=by
 obtain ⟨g,f, -⟩:=h.lay
 exact ⟨AG h.o,fun a e=>(f.each a e).at⟩
theorem Rz (k:BitVec 8):Tryz.prog.built 79 [(0,b8 k)]=some [b8 k, .slice none 0 0, .slice none 0 0, .int .i64 0, .int .i64 0].toArray:=by
 have a:Tryz.prog.info? 79=some Tryz.t79:=by kernel_rfl
 have b:Tryz.prog.info? 3=some Tryz.t3:=by kernel_rfl
 have d:Tryz.prog.info? 77=some Tryz.t77:=by kernel_rfl
 have c:Tryz.prog.info? 70=some Tryz.t70:=by kernel_rfl
 simp [Program.built,a,underlying79,b,d,c,Instr.fill]
 rfl

theorem SE (u:Value) (n:Nat) (xs:List Value) (w:World) (a:Sl w 5 u n xs):AJ prog 58 [u] w (fun r w' =>r=clip u∧Below w.heap.size w w'):=by
 refine Bd (n:=9) func58 O<|Ah<|Ab O<|Bg<|Ad O<|Ad O<|Aa (Au BA O ‹_›) O ?_
 refine Ad O<|Aa (Au BA O ‹_›) O ?_
 exact Aa (Gm BA rfl rfl rfl a.shp) rfl<|Ab rfl<|Ay<|Ax rfl rfl<|⟨rfl,Below.refl _ _⟩
end Go.Proofs.YtblbopcaflaldaaGreatDoor

namespace Go.Proofs.YtblbopcaflaldaaGreatDoor
open Go Go.Dd Go.RowKit Go.ChangeShapes Go.WideShapes List
set_option maxRecDepth 100000
theorem Ue {w:World} {A:Nat} {T:TypeId} {cs:List Value} {a:Addr} {u:Value} (k:AN w A T cs) (h:w.cell? a=some u) (e:a.block=A):u ∈ cs:=by
 unfold World.cell? at h
 rw [e,k] at h
 simp only at h
 split at h
 ·cases h
 ·rw [getElem?_toArray] at h
  exact mem_of_getElem? h
theorem FU.by {w w' :World} {x t A:Nat} {r:Value} {us:List T4} {T:TypeId} {cs:List Value} (h:FU w x t r us) (g:w.grownBy w' (some A)) (b:AN w A T cs) (l:3≠T) (i:21≠T) (K:75≠T) (D:Value.int .i64 77 ∉ cs):FU w' x t r us:=by
 have j:∀{e:TypeId} {sz n:Nat} {v:Value} {xs:List Value} {B:Nat},e≠T→w.ownsRow B e sz v n xs→w'.ownsRow B e sz v n xs:=fun f q=>Md q b f g
 have s:∀d,(some A:Option Nat)=some d→∃cs,AN w d T cs:=fun d e=>by cases e;exact ⟨cs,b⟩
 obtain ⟨m,⟨d,cap,e,q⟩,u⟩:=h.m
 refine ⟨h.all.other g s l i,fun c o=> ?_,⟨m,⟨d,cap,e,j K q⟩, ?_⟩,h.rb⟩
 ·obtain ⟨E,⟨y,G,L,H⟩,⟨J,I,p,F⟩⟩:=h.tw c o
  exact ⟨E.other g s l i,⟨y,G,L,j l H⟩,⟨J,I,p,j i F⟩⟩
 ·refine u.keep fun k z e=>g.block k z fun p=>D ?_
  cases p
  obtain ⟨_,C,cap,rfl,_,_,_,o⟩:=u
  cases C with
  |none=>cases e
  |some a=>exact Ue b (o a rfl 0 _ rfl) (by rw [GP];exact Option.some.inj e)
theorem FU.wide {w:World} {i j a d:Nat} {r:Value} {us:List T4} (h:FU w i j r us) (f:a≤i) (g:j≤d):FU w a d r us:=by
 obtain ⟨m,⟨b,cap,e,o⟩,n⟩:=h.m
 have u:BO w a d us:=by
  cases hu:us with
  |nil=>have:=h.all;rw [hu] at this;exact Nat.le_trans f (Nat.le_trans this g)
  |cons c cs=>
   have:=h.all
   rw [hu] at this
   obtain ⟨l,k,q,v,s,p⟩:=this
   exact ⟨l,k,Nat.le_trans f q,v,s,Fl p g⟩
 exact ⟨u,fun c t=>(h.tw c t).wide f g,⟨m,⟨b,cap,e,DN o f⟩,n⟩,fun b e=>by have:=h.rb b e;omega⟩
end Go.Proofs.YtblbopcaflaldaaGreatDoor

namespace Go.Proofs.YtblbopcaflaldaaGreatDoor
open Go Go.Dd Go.RowKit List Go.Proofs.Tryz
set_option maxRecDepth 100000
def QY (l:List (List Int)) (al:Int):Bool:=decide (l.length<1)||decide (4<l.length)||l.any (fun s=> !Shapes.ok s)||decide (al<0)||decide (((l.headD []).length:Int)≤al)
def TM (l:List (List Int)) (al:Int):Option (List Int):=Kc al.toNat (l.headD []) l.tail
def US:Option (List Int)→Int
 |some s=>if Shapes.ok s then 0 else 10
 |none=>10
def N8 (l:List (List Int)) (al:Int):Int:=if QY l al then 1 else US (TM l al)
theorem OX (v:Value) (ps:List (Value×List Int)) (T:Int) (W:World) (h:LI W v ps):
  AJ prog 263 [v, .int .i64 T] W (fun r w' =>Below W.heap.size W w' ∧∃x s,r= .tuple #[x, .int .i64 (N8 (AP ps) T)]∧CA (Value.int .i64) w' x s∧(N8 (AP ps) T=0→TM (AP ps) T=some s)):=by
 have o:=Below.refl W.heap.size W
 have s_v:=h.sl
 have lv:ps.length≤9223372036854775807:=s_v.le
 obtain ⟨E,hE⟩:∃E,E=N8 (AP ps) T:=⟨_,rfl⟩
 rw [← hE]
 have li:(AP ps).length=ps.length:=length_map ..
 refine Bd (n:=100) func263 O<|Ah<|Ab O<|Ab O<|Bj<|Ad O<|Aa (Au AQ O ‹_›) O ?_
 refine B1 O<|Ad O ?_
 refine Bx 13 O ?_ ?_
 ·intro g
  have g:ps.length<1:=by have:=AC g;omega
  refine Ae (dj:=13) O O O O<|Ae (dj:=13) O O O O<|Ae (dj:=13) O O O O<|Bu O<|Aj<|B3 O<|Ah<|Ab O<|Ab O<|Bz<|Bp O O O ?_
  have M:E=1:=by
   rw [hE]
   unfold N8
   rw [if_pos (by unfold QY;rw [li,decide_eq_true g];rfl)]
  rw [M]
  exact ⟨o, .slice none 0 0,[],rfl,Ch _ _,fun h=>by cases h⟩
 intro g1
 have g1:¬ps.length<1:=by have:=AB g1;omega
 refine Af (dj:=13) O O<|Ad O<|Af (dj:=13) O O<|Aa (Au AQ O ‹_›) O ?_
 refine Af (dj:=13) O O<|Aa (Da O O) O<|B4 O<|Aj<|Ao O ?_ ?_
 ·intro g
  have g:4<ps.length:=by have:=AC g;omega
  refine Ah<|Ab O<|Ab O<|Bz<|Bp O O O ?_
  have M:E=1:=by
   rw [hE]
   unfold N8
   rw [if_pos (by unfold QY;rw [li,decide_eq_true g];simp)]
  rw [M]
  exact ⟨o, .slice none 0 0,[],rfl,Ch _ _,fun h=>by cases h⟩
 intro g2
 have g2:¬4<ps.length:=by have:=AB g2;omega
 refine B2<|Aq<|Ah<|Ab O<|Aj<|Ar ?_
 refine Bo (S:=Nat) (fun i=>[(0,v),(1, .int .i64 T),(6, .int .i64 (i:Int))]) (fun i w' =>i≤ps.length∧(∀p ∈ ps.take i,Shapes.ok p.2=true)∧Below W.heap.size W w') (fun i=>ps.length - i) (0) ⟨rfl,rfl,rfl,trivial⟩ ?_ ?_
 ·exact ⟨Nat.zero_le _,fun p Q=>by simp at Q,Below.refl _ _⟩
 rintro i A ⟨hi,L,o⟩
 have w:=s_v.bs o
 refine Aq<|Ah<|Ad O<|Ad O<|Aa (Au AQ O ‹_›) O ?_
 refine B1 O<|Aj<|Ao O ?_ ?_
 ·intro g
  have d:i<ps.length:=by have:=AC g;omega
  obtain ⟨p,Q⟩:∃p,p=ps[i]:=⟨_,rfl⟩
  have pm:p ∈ ps:=Q ▸ getElem_mem d
  have s_p:=(h.each p pm).bs o
  have ep:(ps.getD i default).1=p.1:=by rw [getD_eq_getElem?_getD,getElem?_eq_getElem d,← Q];rfl
  refine B2<|Aq<|Ar<|Ah<|Ad O<|Ad O<|Aa (Bf AQ O O w i O d) O<|Aa (Ex.as (Bl (AK _) O w d) ep) O<|An O O (DM p.1 p.2 A s_p) ?_
  rintro _ w2 ⟨rfl,hn⟩
  have hB2:=bt o hn
  refine Aa (Co O) O<|Aj<|Ao O ?_ ?_
  ·intro V
   have V:Shapes.ok p.2=false:=by simpa using V
   refine Ah<|Ab O<|Ab O<|Ay<|Ba<|Ap<|Ap<|Ba<|Ap<|Bp O O O ?_
   have M:E=1:=by
    rw [hE]
    unfold N8
    rw [if_pos (by unfold QY;rw [show (AP ps).any (fun s=> !Shapes.ok s)=true from List.any_eq_true.2 ⟨p.2,mem_map_of_mem pm,by rw [V];rfl⟩];simp)]
   rw [M]
   exact ⟨hB2, .slice none 0 0,[],rfl,Ch _ _,fun h=>by cases h⟩
  intro V
  have V:Shapes.ok p.2=true:=by simpa using V
  refine Ca<|Bi<|Cd<|Ad O<|B9 O (by omega)<|Ab O<|Be ?_
  have hok' :∀q ∈ ps.take (i+1),Shapes.ok q.2=true:=fun q c=>by
   rw [take_succ_eq_append_getElem d] at c
   rcases List.mem_append.1 c with c|c
   ·exact L q c
   ·rw [List.mem_singleton.1 c,← Q];exact V
  exact Av (Bw (i+1) ⟨rfl,rfl,rfl,trivial⟩ (⟨d,hok',hB2⟩) (by omega))
 intro g
 have d:i=ps.length:=by have:=AB g;omega
 rw [d,take_length] at L
 clear g hi d
 have l0:0<ps.length:=by omega
 obtain ⟨F,hp0⟩:∃p,p=ps[0]:=⟨_,rfl⟩
 have pm0:F ∈ ps:=hp0 ▸ getElem_mem l0
 have s_p0:=(h.each F pm0).bs o
 have ep0:(ps.getD 0 default).1=F.1:=by rw [getD_eq_getElem?_getD,getElem?_eq_getElem l0,← hp0];rfl
 have eh:(AP ps).headD []=F.2:=by
  rw [hp0]
  match ps,l0 with
  |a::l,_=>rfl
 have ok0:=L F pm0
 have len0:=((Shapes.ok_iff F.2).1 ok0).1
 refine Bn<|Al<|Al<|Bc<|Av<|B8<|Aq<|Ah<|Ad O<|B1 O<|Ad O ?_
 refine Bx 32 O ?_ ?_
 ·intro g
  have g:=AC g
  refine Ae (dj:=32) O O O O<|Ae (dj:=32) O O O O<|Ae (dj:=32) O O O O<|Ae (dj:=32) O O O O<|Ae (dj:=32) O O O O<|Ae (dj:=32) O O O O<|Bu O<|Aj<|B3 O<|Ah<|Ab O<|Ab O<|Bz<|Bp O O O ?_
  have M:E=1:=by
   rw [hE]
   unfold N8
   rw [if_pos (by unfold QY;rw [decide_eq_true g];simp)]
  rw [M]
  exact ⟨o, .slice none 0 0,[],rfl,Ch _ _,fun h=>by cases h⟩
 intro V
 have V:¬T<0:=AB V
 refine Af (dj:=32) O O<|Ad O<|Af (dj:=32) O O<|Ad O<|Af (dj:=32) O O<|Aa (Bf AQ O O w 0 O l0) O<|Af (dj:=32) O O<|Aa (Ex.as (Bl (AK _) O w l0) ep0) O<|Af (dj:=32) O O<|Aa (Au AD O ‹_›) O ?_
 refine Af (dj:=32) O O<|Aa (D9 O O) O<|B4 O<|Aj<|Ao O ?_ ?_
 ·intro g
  have g:=AC g
  refine Ah<|Ab O<|Ab O<|Bz<|Bp O O O ?_
  have M:E=1:=by
   rw [hE]
   unfold N8
   rw [if_pos (by unfold QY;rw [eh,decide_eq_true (show (F.2.length:Int)≤T by omega)];simp)]
  rw [M]
  exact ⟨o, .slice none 0 0,[],rfl,Ch _ _,fun h=>by cases h⟩
 intro g4
 have g4:T<(F.2.length:Int):=by have:=AB g4;omega
 obtain ⟨k,rfl⟩:∃k:Nat,T=(k:Int):=⟨T.toNat,by omega⟩
 have hk:k<F.2.length:=by omega
 have hA:QY (AP ps) (k:Int)=false:=by
  unfold QY
  rw [li,eh,decide_eq_false g1,decide_eq_false g2,decide_eq_false V,decide_eq_false (show ¬(F.2.length:Int)≤(k:Int) by omega)]
  rw [List.any_eq_false.2 fun s hs=>by
   obtain ⟨p,Q,rfl⟩:=List.mem_map.1 hs
   rw [L p Q];decide]
  rfl
 obtain ⟨R,hR⟩:∃R,R=TM (AP ps) (k:Int):=⟨_,rfl⟩
 have hR2:Kc k F.2 ((AP ps).drop 1)=R:=by
  rw [hR]
  unfold TM
  rw [eh,Int.toNat_natCast,drop_one]
 have Y:E=US R:=by
  rw [hE,hR]
  unfold N8
  rw [hA];rfl
 rw [← hR]
 clear hR hE hA eh
 refine Cp<|Ad O<|Aa (Bf AQ O O w 0 O l0) O<|Aa (Ex.as (Bl (AK _) O w l0) ep0) O<|Bq (Dl (base:=W.heap.size) AD DT O (by decide) O O (World.ownsRow_nil _ _ _ _) s_p0 (EI (fun _=>rfl) _) (by omega) (by omega) o.size) O ?_
 rintro x0 w2 ⟨f,hn, -⟩
 rw [nil_append,Nat.zero_add] at f
 have o:=o.trans hn
 refine Ab O<|Bj<|Ab O<|Aj<|Ar ?_
 refine Bo (S:=(Nat×Value×List Int)) (fun z=>[(0,v),(1, .int .i64 (k:Int)),(7,z.2.1),(8, .int .i64 (z.1:Int))]) (fun z w' =>1≤z.1∧z.1≤ps.length∧w'.ownsRow W.heap.size 3 1 z.2.1 z.2.2.length (z.2.2.map (Value.int .i64))∧z.2.2.length=F.2.length∧(0≤z.2.2.getD k default∧z.2.2.getD k default≤64*(z.1:Int))∧Kc k z.2.2 ((AP ps).drop z.1)=R∧Below W.heap.size W w') (fun z=>ps.length - z.1) ((1,x0,F.2)) ⟨rfl,rfl,rfl,rfl,trivial⟩ ?_ ?_
 ·have:=Vh ok0 hk
  exact ⟨AX _,l0,f,rfl,by simp only;omega,hR2,o⟩
 rintro ⟨i,x,s⟩ w3 ⟨h1,hi,f,ls,hs,K,o⟩
 replace h1:1≤i:=h1
 replace hi:i≤ps.length:=hi
 replace f:w3.ownsRow W.heap.size 3 1 x s.length (s.map (Value.int .i64)):=f
 replace ls:s.length=F.2.length:=ls
 replace hs:0≤s.getD k default∧s.getD k default≤64*(i:Int):=hs
 replace K:Kc k s ((AP ps).drop i)=R:=K
 have U:=s_v.bs o
 have G:=BD f
 refine Aq<|Ah<|Ad O<|Ad O<|Aa (Au AQ O ‹_›) O ?_
 refine B1 O<|Aj<|Ao O ?_ ?_
 ·intro g
  have d:i<ps.length:=by have:=AC g;omega
  obtain ⟨p,Q⟩:∃p,p=ps[i]:=⟨_,rfl⟩
  have pm:p ∈ ps:=Q ▸ getElem_mem d
  have s_p:=(h.each p pm).bs o
  have okp:=L p pm
  have ep:(ps.getD i default).1=p.1:=by rw [getD_eq_getElem?_getD,getElem?_eq_getElem d,← Q];rfl
  have ed:(AP ps).drop i=p.2::(AP ps).drop (i+1):=by
   rw [drop_eq_getElem_cons (by rw [li];exact d)]
   congr 1
   rw [Q];exact getElem_map ..
  rw [ed] at K
  have hno:N7 k s p.2=none→E=10:=fun hn=>by
   unfold Kc at K
   rw [hn] at K
   rw [Y,← K]
   rfl
  refine B2<|Aq<|Ar<|Aq<|Ah<|Ad O<|Ad O<|Aa (Bf AQ O O U i O d) O<|Aa (Ex.as (Bl (AK _) O U d) ep) O<|Aa (Au AD O ‹_›) O ?_
  refine Ad O<|Aa (Au AD O ‹_›) O ?_
  refine Aa (Cn O O) O<|Aj<|Ao O ?_ ?_
  ·intro B
   have B:¬p.2.length=s.length:=fun e=>by rw [e] at B;simp at B
   have N:=hno (by unfold N7;rw [if_neg fun h=>B h.1])
   refine Ah<|Ab O<|Ab O<|Bz<|Ba<|Ap<|Ap<|Ba<|Ap<|Bp O O O ?_
   rw [N]
   exact ⟨o, .slice none 0 0,[],rfl,Ch _ _,fun h=>by cases h⟩
  intro B
  have B:p.2.length=s.length:=by simp at B;omega
  refine B2<|Aq<|Ah<|Ab O<|Aj<|Ar ?_
  refine Bo (S:=Nat) (fun m=>[(0,v),(1, .int .i64 (k:Int)),(7,x),(8, .int .i64 (i:Int)),(9, .int .i64 (m:Int))]) (fun m w' =>m≤s.length∧(∀j,j<m→j≠k→s.getD j default=p.2.getD j default)∧w'.ownsRow W.heap.size 3 1 x s.length (s.map (Value.int .i64))∧Below w3.heap.size w3 w') (fun m=>s.length - m) (0) ⟨rfl,rfl,rfl,rfl,rfl,trivial⟩ ?_ ?_
  ·exact ⟨Nat.zero_le _,fun j hj=>by omega,f,Below.refl _ _⟩
  rintro m w4 ⟨hm,hall,f,y⟩
  have hBW:=bt o y
  have D:=U.bs y
  have s_p4:=s_p.bs y
  have G:=BD f
  refine Aq<|Ah<|Ad O<|Ad O<|Aa (Au AD O ‹_›) O ?_
  refine B1 O<|Aj<|Ao O ?_ ?_
  ·intro g6
   have H:m<s.length:=by have:=AC g6;omega
   have hmp:m<p.2.length:=by omega
   refine B2<|Aq<|Ar<|Aq<|C8 mixed (by kernel_rfl)<|Bt O<|Bt O<|Ai (fun A c=>Cn O O) O<|Bt O ?_
   refine Di 67 O ?_ ?_
   ·intro g7
    have g7:¬m=k:=fun e=>by rw [e] at g7;simp at g7
    refine Az (dj:=67) O O<|Bt O<|Az (dj:=67) O O<|Bt O<|Az (dj:=67) O O<|Ai (fun A c=>Bf AQ O O (D.bs c) i O d) O<|Az (dj:=67) O O<|Ai (fun A c=>Ex.as (Bl (AK _) O (D.bs c) d) ep) O<|Az (dj:=67) O O<|Bt O<|Az (dj:=67) O O<|Ai (fun A c=>Bf AD O O (Sl.bs ‹_› c) _ O (by omega)) O ?_
    refine Az (dj:=67) O O<|Ai (fun A c=>Bl (AI _) O (Sl.bs ‹_› c) (by omega)) O ?_
    refine Az (dj:=67) O O<|Bt O<|Az (dj:=67) O O<|Bt O<|Az (dj:=67) O O<|Ai (fun A c=>Bf AD O O (Sl.bs ‹_› c) _ O (by omega)) O ?_
    refine Az (dj:=67) O O<|Ai (fun A c=>Bl (AI _) O (Sl.bs ‹_› c) (by omega)) O ?_
    refine Az (dj:=67) O O<|Ai (fun A c=>Cn O O) O<|Ai (fun A c=>Cy O O) O ?_
    refine C1 (fun w5 c=> ?_)
    refine Av<|B8 ?_
    have I:=bt y c
    have t:=AH f c
    refine Ao O ?_ ?_
    ·intro Z
     have Z:¬s.getD m default=p.2.getD m default:=fun e=>by rw [e] at Z;simp at Z
     have N:=hno (by unfold N7;rw [if_neg fun h=>Z (h.2.2 m H g7)])
     refine Ah<|Ab O<|Ab O<|Ay<|Ba<|Ap<|Ap<|Ba<|Ap<|Ba<|Ap<|Ap<|Ba<|Ap<|Bp O O O ?_
     rw [N]
     exact ⟨bt o I, .slice none 0 0,[],rfl,Ch _ _,fun h=>by cases h⟩
    intro Z
    have Z:s.getD m default=p.2.getD m default:=by simp at Z;simpa using Z.symm
    refine Ca<|Bi<|Cd<|Ad O<|B9 O (by omega)<|Ab O<|Be ?_
    have C:∀j,j<m+1→j≠k→s.getD j default=p.2.getD j default:=fun j hj X=>
     (Nat.lt_succ_iff_lt_or_eq.1 hj).elim (fun h=>hall j h X) (fun h=>by rw [h];exact Z)
    exact Av (Bw (m+1) ⟨rfl,rfl,rfl,rfl,rfl,trivial⟩ (⟨H,C,t,I⟩) (by omega))
   intro g7
   have g7:m=k:=by simp at g7;omega
   refine As (dj:=67) O O O O<|As (dj:=67) O O O O<|As (dj:=67) O O O O<|As (dj:=67) O O O O<|As (dj:=67) O O O O<|As (dj:=67) O O O O<|As (dj:=67) O O O O<|As (dj:=67) O O O O<|As (dj:=67) O O O O<|As (dj:=67) O O O O<|As (dj:=67) O O O O<|As (dj:=67) O O O O<|Ai (fun A c=>Cx O O) O ?_
   refine C1 (fun w5 c=> ?_)
   refine Av<|B8<|D5 O<|Ca<|Bi<|Cd<|Ad O<|B9 O (by omega)<|Ab O<|Be ?_
   have I:=bt y c
   have t:=AH f c
   have C:∀j,j<m+1→j≠k→s.getD j default=p.2.getD j default:=fun j hj X=>
    (Nat.lt_succ_iff_lt_or_eq.1 hj).elim (fun h=>hall j h X) (fun h=>absurd (h.trans g7) X)
   exact Av (Bw (m+1) ⟨rfl,rfl,rfl,rfl,rfl,trivial⟩ (⟨H,C,t,I⟩) (by omega))
  intro g6
  have H:m=s.length:=by have:=AB g6;omega
  rw [H] at hall
  clear g6 hm H
  have J:k<s.length:=by omega
  have hkp:k<p.2.length:=by omega
  have M:N7 k s p.2=some (s.set k (s.getD k default+p.2.getD k default)):=by unfold N7;rw [if_pos ⟨B,J,hall⟩]
  have hJ2:Kc k (s.set k (s.getD k default+p.2.getD k default)) ((AP ps).drop (i+1))=R:=by
   unfold Kc at K
   rw [M] at K
   exact K
  have dk:=Vh okp hkp
  refine Bn<|Al<|Al<|Bc<|Av<|B8<|Cw.tail 15 mixed (by kernel_rfl)<|Bt O<|Bt O<|Bt O<|Bt O<|Ai (fun A c=>Bf AD O O (G.bs c) k O J) O<|Ai (fun A c=>Bl (AI _) O (G.bs c) J) O<|Bt O<|Bt O<|Ai (fun A c=>Bf AQ O O (D.bs c) i O d) O<|Ai (fun A c=>Ex.as (Bl (AK _) O (D.bs c) d) ep) O<|Bt O<|Ai (fun A c=>Bf AD O O (s_p4.bs c) k O hkp) O<|Ai (fun A c=>Bl (AI _) O (s_p4.bs c) hkp) O<|Ai (fun A c=>Dx O O (by omega)) O<|Ai (fun A c=>Bf AD O O (G.bs c) k O J) O ?_
  refine Qw.done (fun w5 c=> ?_)
  have I:=bt y c
  have t:=AH f c
  refine Br (E1 (u:= .int .i64 (s.getD k default+p.2.getD k default)) (AV _) O O O t (by rw [length_map];exact J)) ?_
  rintro w6 ⟨o_x6,hg,hz⟩
  rw [← map_set] at o_x6
  have hBW5:=bt o I
  have hB6:=hBW5.grown hg hBW5.size (fun b e=>(AF t b e).1)
  refine Be<|Bi<|Cd<|Ad O<|B9 O (by omega)<|Ab O<|Be ?_
  exact Av (Bw ((i+1,x,s.set k (s.getD k default+p.2.getD k default))) ⟨rfl,rfl,rfl,rfl,trivial⟩ (⟨by simp only;omega,d,by simp only [length_set];exact o_x6,by simp only [length_set];exact ls,by simp only;rw [show (s.set k (s.getD k default+p.2.getD k default)).getD k default=s.getD k default+p.2.getD k default by simp [J]];omega,hJ2,hB6⟩) (by simp only;omega))
 intro g
 have d:i=ps.length:=by have:=AB g;omega
 rw [d,drop_of_length_le (by rw [li];exact AX _)] at K
 have hRs:R=some s:=by rw [← K];rfl
 rw [hRs] at Y ⊢
 refine Bn<|Al<|Al<|Bc<|Av<|B8<|Aq<|Ah<|Ad O<|An O O (DM x s w3 G) ?_
 rintro _ w4 ⟨rfl,hn⟩
 have y:=bt o hn
 refine Aa (Co O) O<|Aj<|Ao O ?_ ?_
 ·intro B
  have B:Shapes.ok s=false:=by simpa using B
  have N:E=10:=by rw [Y];show (if Shapes.ok s=true then (0:Int) else 10)=10;rw [B];rfl
  refine Ah<|Ab O<|Ab O<|Bz<|Bp O O O ?_
  rw [N]
  exact ⟨y, .slice none 0 0,[],rfl,Ch _ _,fun h=>by cases h⟩
 intro B
 have B:Shapes.ok s=true:=by simpa using B
 have e0:E=0:=by rw [Y];show (if Shapes.ok s=true then (0:Int) else 10)=0;rw [B];rfl
 refine Cp<|Ad O<|Ab O<|Ab O<|Ay<|Bp O O O ?_
 rw [e0]
 exact ⟨y,x,s,rfl,G.bs hn,fun _=>rfl⟩

def cn (i:Int):List Int→Nat
 |[]=>0
 |x::l=>(if x=i then 1 else 0)+cn i l
def fl (m:Int):List Int→Nat
 |[]=>0
 |x::l=>(if 0≤x∧x<m then 1 else 0)+fl m l
theorem IX (i:Int):∀a b:List Int,cn i (a++b)=cn i a+cn i b
 |[],b=>by simp [cn]
 |x::a,b=>by simp only [cons_append,cn];rw [IX i a b];omega
theorem Oc {i:Int}:∀{l:List Int},i ∈ l→1≤cn i l
 |x::l,h=>by
  simp only [cn]
  rcases List.mem_cons.1 h with rfl|h
  ·rw [if_pos rfl];omega
  ·have:=Oc h;omega
theorem SX (i:Int):∀l:List Int,cn i l≤l.length
 |[]=>AX _
 |x::l=>by
  have:=SX i l
  simp only [cn,length_cons]
  split<;>omega
theorem Jy (m:Nat):∀l:List Int,fl ((m+1:Nat):Int) l=fl (m:Int) l+cn (m:Int) l
 |[]=>rfl
 |x::l=>by
  simp only [fl,cn]
  rw [Jy m l]
  split<;>split<;>split<;>omega
theorem OD:∀l:List Int,fl 0 l=0
 |[]=>rfl
 |x::l=>by
  simp only [fl]
  rw [OD l,if_neg (by omega)]
theorem Rl (m:Int):∀l:List Int,fl m l≤l.length
 |[]=>AX _
 |x::l=>by
  have:=Rl m l
  simp only [fl,length_cons]
  split<;>omega
theorem Rm {m:Int}:∀{l:List Int},fl m l=l.length→∀x ∈ l,0≤x∧x<m
 |[],_,x,a=>by simp at a
 |y::l,h,x,a=>by
  have:=Rl m l
  simp only [fl,length_cons] at h
  by_cases g:0≤y∧y<m
  ·rw [if_pos g] at h
   rcases List.mem_cons.1 a with rfl|a
   ·exact g
   ·exact Rm (by omega) x a
  ·rw [if_neg g] at h;omega
theorem Ru {l:List Int} (h:∀i:Nat,i<l.length→cn (i:Int) l=1):G6 l=true:=by
 have e:∀m:Nat,m≤l.length→fl (m:Int) l=m:=fun m=>by
  induction m with
  |zero=>intro _;exact OD l
  |succ m ih=>intro d;rw [Jy,ih (by omega),h m (by omega)]
 have a:=Rm (e l.length (AX _))
 refine IL.2 fun j b=> ?_
 have d:l.getD j default ∈ l:=by simp [b]
 have c:=a _ d
 unfold QG
 rw [decide_eq_true c.1,decide_eq_true c.2]
 cases hc:(l.take j).contains (l.getD j default) with
 |false=>rfl
 |true=>
  have f:l.getD j default ∈ l.take j:=by simpa using hc
  have o:=Oc f
  have k:cn (l.getD j default) (l.drop j)=1+cn (l.getD j default) (l.drop (j+1)):=by
   rw [drop_eq_getElem_cons b]
   simp [cn,b]
  have n:cn (l.getD j default) l=cn (l.getD j default) (l.take j)+cn (l.getD j default) (l.drop j):=by rw [← IX,take_append_drop]
  have g:=h (l.getD j default).toNat (by omega)
  rw [Int.toNat_of_nonneg c.1] at g
  omega
theorem KP (i:Nat):∀n,Ra (fun x=>if x=i then 1 else 0) n=if i<n then 1 else 0
 |0=>rfl
 |n+1=>by
  simp only [Ra]
  rw [KP i n]
  split<;>split<;>split<;>omega
theorem OG (i:Nat):∀{l:List Int},(∀x ∈ l,0≤x)→(cn (i:Int) l:Int)=Ix (fun x=>if x=i then 1 else 0) (QF l)
 |[],_=>rfl
 |x::l,h=>by
  have c:=h x (by simp)
  have a:=OG i (l:=l) fun y b=>h y (by simp [b])
  simp only [QF] at a ⊢
  simp only [map_cons,Ix,cn]
  rw [← a]
  by_cases g:x=(i:Int)
  ·rw [if_pos g,if_pos (by omega)];omega
  ·rw [if_neg g,if_neg (by omega)];omega
theorem QE {l:List Int} (h:G6 l=true) (b:l.length≤4) {i:Nat} (d:i<l.length):cn (i:Int) l=1:=by
 have c:∀x ∈ l,0≤x:=fun x f=>by
  obtain ⟨j,a,e⟩:=getElem_of_mem f
  have:=(IK h a).1
  rwa [show l.getD j default=x by simp [a,e]] at this
 have e:=OG i c
 rw [Pe (Me h b),JV,KP,if_pos d] at e
 omega
theorem Q4 (u:Value) (l:List Int) (n:Nat) (w:World) (e:CA (Value.int .i64) w u l) (y:n≤4):
  AJ prog 258 [u, .int .i64 (n:Int)] w (fun r w' =>r= .bool (decide (l.length=n) && G6 l)∧Below w.heap.size w w'):=by
 have A:=e.le
 refine Bd (n:=32) func258 O<|Ah<|Ab O<|Bj<|Ad O<|Aa (Au AD O ‹_›) O ?_
 refine Ad O<|Aa (Cn O O) O<|Aj<|Ao O ?_ ?_
 ·intro g
  have g:¬l.length=n:=by have:=g;simp at this;omega
  refine Ah<|Ab O<|Bz<|Ax O O ?_
  exact ⟨by rw [decide_eq_false g];rfl,Below.refl _ _⟩
 intro g
 have g:l.length=n:=by have:=g;simp at this;omega
 subst g
 rw [decide_eq_true rfl,Bool.true_and]
 refine B2<|Aq<|Ah<|Ab O<|Aj<|Ar ?_
 refine Bo (S:=Nat) (fun i=>[(0,u),(1, .int .i64 (l.length:Int)),(5, .int .i64 (i:Int))]) (fun i w' =>i≤l.length∧(∀j:Nat,j<i→cn (j:Int) l=1)∧Below w.heap.size w w') (fun i=>l.length - i) (0) ⟨rfl,rfl,rfl,trivial⟩ ?_ ?_
 ·exact ⟨Nat.zero_le _,fun j t=>absurd t (by omega),Below.refl _ _⟩
 rintro i B ⟨D,o,f⟩
 have q:=e.bs f
 refine Aq<|Ah<|Ad O<|Ad O<|B1 O<|Aj<|Ao O ?_ ?_
 ·intro g
  have d:i<l.length:=by have:=AC g;omega
  refine B2<|Aq<|Ar<|Ah<|Ab O<|Bj<|Ab O<|Aj<|Ar ?_
  refine Bo (S:=Nat) (fun k=>[(0,u),(1, .int .i64 (l.length:Int)),(5, .int .i64 (i:Int)),(6, .int .i64 ((cn (i:Int) (l.take k):Nat):Int)),(7, .int .i64 (k:Int))]) (fun k w' =>k≤l.length∧Below w.heap.size w w') (fun k=>l.length - k) (0) ⟨rfl,rfl,rfl,rfl,rfl,trivial⟩ ?_ ?_
  ·exact ⟨Nat.zero_le _,f⟩
  rintro k E ⟨C,c⟩
  have p:=e.bs c
  have v:=SX (i:Int) (l.take k)
  rw [length_take] at v
  refine Aq<|Ah<|Ad O<|Ad O<|B1 O<|Aj<|Ao O ?_ ?_
  ·intro h
   have b:k<l.length:=by have:=AC h;omega
   have z:l.take (k+1)=l.take k++[l.getD k default]:=by rw [take_succ_eq_append_getElem b];simp [b]
   have s:cn (i:Int) (l.take (k+1))=cn (i:Int) (l.take k)+if l.getD k default=(i:Int) then 1 else 0:=by rw [z,IX];simp [cn]
   refine B2<|Aq<|Ar<|Ah<|Ad O<|Ad O<|Aa (Bf AD O O ‹_› _ O (by omega)) O ?_
   refine Aa (Bl (AI _) O ‹_› (by omega)) O ?_
   refine Ad O<|Aa (Cl O O) O<|Aj<|Ao O ?_ ?_
   ·intro a
    have a:=AC a
    rw [if_pos a] at s
    refine Bh<|Ad O<|B9 O (by omega)<|Ab O<|Be<|Bi<|Cd<|Ad O<|B9 O (by omega)<|Ab O<|Be ?_
    exact Av (Bw (k+1) ⟨rfl,rfl,rfl,cngA (fun x=>some (Value.int .i64 x)) (show ((cn (i:Int) (l.take k):Nat):Int)+1=((cn (i:Int) (l.take (k+1)):Nat):Int) by omega),rfl,trivial⟩ (⟨b,c⟩) (by omega))
   intro a
   have a:=AB a
   rw [if_neg a] at s
   refine Ca<|Bi<|Cd<|Ad O<|B9 O (by omega)<|Ab O<|Be ?_
   exact Av (Bw (k+1) ⟨rfl,rfl,rfl,cngA (fun x=>some (Value.int .i64 x)) (show ((cn (i:Int) (l.take k):Nat):Int)=((cn (i:Int) (l.take (k+1)):Nat):Int) by omega),rfl,trivial⟩ (⟨b,c⟩) (by omega))
  intro h
  have b:k=l.length:=by have:=AB h;omega
  rw [b,take_length]
  refine Bn<|Al<|Al<|Bc<|Ci<|Ad O<|Aa (Cn O O) O<|Aj<|Ao O ?_ ?_
  ·intro a
   have a:¬cn (i:Int) l=1:=by have:=a;simp at this;omega
   refine Ah<|Ab O<|Ay<|Ba<|Ap<|Ap<|Ba<|Ap<|Ax O O ?_
   refine ⟨cngA Value.bool ?_,c⟩
   cases ho:G6 l with
   |false=>rfl
   |true=>exact absurd (QE ho y d) a
  intro a
  have a:cn (i:Int) l=1:=by have:=a;simp at this;omega
  have m:∀j:Nat,j<i+1→cn (j:Int) l=1:=fun j t=>by
   rcases Nat.lt_or_ge j i with h|h
   ·exact o j h
   ·obtain rfl:j=i:=by omega
    exact a
  refine Ca<|Bi<|Cd<|Ad O<|B9 O (by omega)<|Ab O<|Be ?_
  exact Av (Bw (i+1) ⟨rfl,rfl,rfl,trivial⟩ (⟨d,m,c⟩) (by omega))
 intro g
 have d:i=l.length:=by have:=AB g;omega
 subst d
 exact Bn<|Al<|Al<|Bc<|Ci<|Ab rfl<|Ay<|Ax rfl rfl<|⟨cngA Value.bool (Ru o).symm,f⟩

def RW (k:BitVec 8):Int×Int×Bool:=match CT k with
 |some (a::b::_)=>(a,b,true)
 |_=>(0,0,false)
theorem Sa (k:BitVec 8) (w:World):AJ prog 256 [b8 k] w (fun r w' =>r= .tuple #[.int .i64 (RW k).1, .int .i64 (RW k).2.1, .bool (RW k).2.2]∧Below w.heap.size w w'):=by
 refine Bd (n:=23) func256 O<|Ah<|Ab O<|Ab O<|Ab O<|Bj<|Ad O<|Aj<|Ar<|Aq<|Ah<|Aa (B0 O (show _=some (b8 (1#8)) from rfl)) O<|Ab O<|Aj<|Ao O ?_ ?_
 ·intro g
  have g:k=1#8:=AC g
  refine B2<|Bv O true ((decide_eq_true g))<|Ah<|Ab O<|Ab O<|Ab O<|Ay<|Ba<|Ap<|Dp O O O O ?_
  rw [g]
  exact ⟨by kernel_rfl,Below.refl _ _⟩
 intro l
 have l:¬k=1#8:=AB l
 refine Bh<|Aa (B0 O (show _=some (b8 (2#8)) from rfl)) O<|Ab O<|Aj<|Ao O ?_ ?_
 ·intro g
  have g:k=2#8:=AC g
  refine Ah<|Ab O<|Ab O<|Ab O<|Ay<|Ba<|Ap<|Dp O O O O ?_
  rw [g]
  exact ⟨by kernel_rfl,Below.refl _ _⟩
 intro j
 have j:¬k=2#8:=AB j
 refine Aq<|Ah<|Aa (B0 O (show _=some (b8 (3#8)) from rfl)) O<|Ab O<|Aj<|Ao O ?_ ?_
 ·intro g
  have g:k=3#8:=AC g
  refine B2<|Bv O true ((decide_eq_true g))<|Ah<|Ab O<|Ab O<|Ab O<|Ay<|Ba<|Ap<|Dp O O O O ?_
  rw [g]
  exact ⟨by kernel_rfl,Below.refl _ _⟩
 intro s
 have s:¬k=3#8:=AB s
 refine Ah<|Aa (B0 O (show _=some (b8 (4#8)) from rfl)) O<|Ab O<|Aj<|Ao O ?_ ?_
 ·intro g
  have g:k=4#8:=AC g
  refine B2<|Bv O true ((decide_eq_true g))<|Ah<|Ab O<|Ab O<|Ab O<|Ay<|Ba<|Ap<|Dp O O O O ?_
  rw [g]
  exact ⟨by kernel_rfl,Below.refl _ _⟩
 intro f
 have f:¬k=4#8:=AB f
 refine Ah<|Aa (B0 O (show _=some (b8 (7#8)) from rfl)) O<|Ab O<|Aj<|Ao O ?_ ?_
 ·intro g
  have g:k=7#8:=AC g
  refine B2<|Bv O true ((decide_eq_true g))<|Ah<|Ab O<|Ab O<|Ab O<|Ay<|Ba<|Ap<|Dp O O O O ?_
  rw [g]
  exact ⟨by kernel_rfl,Below.refl _ _⟩
 intro p
 have p:¬k=7#8:=AB p
 refine Bh<|Aa (B0 O (show _=some (b8 (8#8)) from rfl)) O<|Ab O<|Aj<|Ao O ?_ ?_
 ·intro g
  have g:k=8#8:=AC g
  refine Ah<|Ab O<|Ab O<|Ab O<|Ay<|Ba<|Ap<|Dp O O O O ?_
  rw [g]
  exact ⟨by kernel_rfl,Below.refl _ _⟩
 intro q
 have q:¬k=8#8:=AB q
 refine Aq<|Ah<|Aa (B0 O (show _=some (b8 (5#8)) from rfl)) O<|Ab O<|Aj<|Ao O ?_ ?_
 ·intro g
  have g:k=5#8:=AC g
  refine B2<|Bv O true ((decide_eq_true g))<|Ah<|Ab O<|Ab O<|Ab O<|Ay<|Ba<|Ap<|Dp O O O O ?_
  rw [g]
  exact ⟨by kernel_rfl,Below.refl _ _⟩
 intro m
 have m:¬k=5#8:=AB m
 refine Ah<|Aa (B0 O (show _=some (b8 (6#8)) from rfl)) O<|Ab O<|Aj<|Ao O ?_ ?_
 ·intro g
  have g:k=6#8:=AC g
  refine B2<|Bv O true ((decide_eq_true g))<|Ah<|Ab O<|Ab O<|Ab O<|Ay<|Ba<|Ap<|Dp O O O O ?_
  rw [g]
  exact ⟨by kernel_rfl,Below.refl _ _⟩
 intro i
 have i:¬k=6#8:=AB i
 refine Ah<|Aa (B0 O (show _=some (b8 (9#8)) from rfl)) O<|Ab O<|Aj<|Ao O ?_ ?_
 ·intro g
  have g:k=9#8:=AC g
  refine B2<|Bv O true ((decide_eq_true g))<|Ah<|Ab O<|Ab O<|Ab O<|Ay<|Ba<|Ap<|Dp O O O O ?_
  rw [g]
  exact ⟨by kernel_rfl,Below.refl _ _⟩
 intro o
 have o:¬k=9#8:=AB o
 refine Ah<|Aa (B0 O (show _=some (b8 (10#8)) from rfl)) O<|Ab O<|Aj<|Ao O ?_ ?_
 ·intro g
  have g:k=10#8:=AC g
  refine B2<|Bv O true ((decide_eq_true g))<|Ah<|Ab O<|Ab O<|Ab O<|Ay<|Ba<|Ap<|Dp O O O O ?_
  rw [g]
  exact ⟨by kernel_rfl,Below.refl _ _⟩
 intro d
 have d:¬k=10#8:=AB d
 refine Ah<|Aa (B0 O (show _=some (b8 (11#8)) from rfl)) O<|Ab O<|Aj<|Ao O ?_ ?_
 ·intro g
  have g:k=11#8:=AC g
  refine B2<|Bv O true ((decide_eq_true g))<|Ah<|Ab O<|Ab O<|Ab O<|Ay<|Ba<|Ap<|Dp O O O O ?_
  rw [g]
  exact ⟨by kernel_rfl,Below.refl _ _⟩
 intro a
 have a:¬k=11#8:=AB a
 refine Bh<|Aa (B0 O (show _=some (b8 (13#8)) from rfl)) O<|Ab O<|Aj<|Ao O ?_ ?_
 ·intro g
  have g:k=13#8:=AC g
  refine Ah<|Ab O<|Ab O<|Ab O<|Ay<|Ba<|Ap<|Dp O O O O ?_
  rw [g]
  exact ⟨by kernel_rfl,Below.refl _ _⟩
 intro b
 have b:¬k=13#8:=AB b
 refine Ah<|Aa (B0 O (show _=some (b8 (12#8)) from rfl)) O<|Ab O<|Aj<|Ao O ?_ ?_
 ·intro g
  have g:k=12#8:=AC g
  refine Ah<|Ab O<|Ab O<|Ab O<|Ay<|Ba<|Ap<|Dp O O O O ?_
  rw [g]
  exact ⟨by kernel_rfl,Below.refl _ _⟩
 intro c
 have c:¬k=12#8:=AB c
 refine Ca<|Bi<|Ci<|Ab O<|Ab O<|Ab O<|Ay<|Dp O O O O ?_
 have e:CT k=none:=by
  cases h:CT k with
  |none=>rfl
  |some r=>
   have:=Ls k (by rw [h];rfl)
   rcases this with h|h|h|h|h|h|h|h|h|h|h|h|h<;>contradiction
 rw [show RW k=(0,0,false) by unfold RW;rw [e]]
 exact ⟨rfl,Below.refl _ _⟩
theorem ED (n a b:Int) (w:World):AJ prog 257 [.int .i64 n, .int .i64 a, .int .i64 b] w (fun r w' =>r= .bool (decide (a≤n) && decide (n≤b))∧Below w.heap.size w w'):=by
 refine Bd (n:=15) func257 O<|Ah<|Ab O<|Bg<|Ad O<|Ad O<|Aa (D9 O O) O<|Ad O ?_
 refine Bx 10 O ?_ ?_
 ·intro g
  refine Af (dj:=10) O O<|Ad O<|Af (dj:=10) O O<|Ad O<|Af (dj:=10) O O<|Aa (Ej O O) O<|Bu O<|Ab O<|Ay<|Ax O O ?_
  rw [g]
  exact ⟨rfl,Below.refl _ _⟩
 intro g
 refine Ae (dj:=10) O O O O<|Ae (dj:=10) O O O O<|Ae (dj:=10) O O O O<|B4 O<|Ab O<|Ay<|Ax O O ?_
 rw [g]
 exact ⟨rfl,Below.refl _ _⟩
def U1 (f:Int) (s:List Int):Bool:=if f=0 then decide (s.length=0) else if f=1 then Shapes.ok s else HX s
theorem Hw {k:BitVec 8} {i s:List Int} {n p a b c d e f:Int} (o:CT k=some [a,b,c,d,e,f]) (r:a≤(i.length:Int)) (q:(i.length:Int)≤b):
  CQ k i s n p=(decide (c≤n∧n≤d∧0≤p∧p≤e) && U1 f s):=by
 unfold CQ
 rw [o]
 show G7 a b c d e f i s n p=_
 rw [Bool.eq_iff_iff,HE,Bool.and_eq_true,decide_eq_true_iff]
 unfold U1
 constructor
 ·rintro ⟨⟨-, -,h,l,j,g⟩,m⟩;exact ⟨⟨h,l,j,g⟩,m⟩
 ·rintro ⟨⟨h,l,j,g⟩,m⟩;exact ⟨⟨r,q,h,l,j,g⟩,m⟩
theorem QX {k:BitVec 8} {i s:List Int} {n p a b c d e f:Int} (g:CT k=some [a,b,c,d,e,f]) (h:¬(a≤(i.length:Int)∧(i.length:Int)≤b)):CQ k i s n p=false:=by
 cases hf:CQ k i s n p with
 |false=>rfl
 |true=>
  have:=(AR hf g).1
  exact absurd ⟨this.1,this.2.1⟩ h
theorem SV {l:List Int}:∀m:Nat,(∀i:Nat,i<m→1≤cn (i:Int) l)→m≤fl (m:Int) l
 |0,_=>Nat.zero_le _
 |m+1,h=>by
  have:=SV m fun i a=>h i (by omega)
  have:=h m (by omega)
  rw [Jy];omega
theorem SU {l:List Int} {j:Nat} (a:2≤cn (j:Int) l):∀m:Nat,j<m→(∀i:Nat,i<m→1≤cn (i:Int) l)→m+1≤fl (m:Int) l
 |0,h,_=>by omega
 |m+1,h,hh=>by
  rw [Jy]
  by_cases e:j=m
  ·have:=SV m fun i b=>hh i (by omega)
   rw [← e] at this ⊢;omega
  ·have:=SU a m (by omega) fun i b=>hh i (by omega)
   have:=hh m (by omega)
   omega
theorem OF {i:Int}:∀{l:List Int},i ∉ l→cn i l=0
 |[],_=>rfl
 |x::l,h=>by
  simp only [cn]
  rw [OF fun a=>h (mem_cons_of_mem _ a),if_neg fun e=>h (by rw [e];simp)]
theorem I1 (s:List Int):HX s=(decide (s.length≤4) && G6 s):=by
 unfold HX
 by_cases h4:s.length≤4
 ·rw [decide_eq_true h4,Bool.and_true,Bool.true_and,Bool.eq_iff_iff]
  constructor
  ·intro c
   have d:∀i:Nat,i<s.length→1≤cn (i:Int) s:=fun i a=>Oc (by simpa using I5.1 c i a)
   refine Ru fun i a=> ?_
   have h:=d i a
   by_cases e:2≤cn (i:Int) s
   ·have:=SU e s.length a d
    have:=Rl (s.length:Int) s
    omega
   ·omega
  ·intro f
   refine I5.2 fun j g=> ?_
   have:=QE f h4 g
   cases c:s.contains (j:Int) with
   |true=>rfl
   |false=>
    exfalso
    have b:(j:Int) ∉ s:=by simpa using c
    have k:cn (j:Int) s=0:=OF b
    omega
 ·rw [decide_eq_false h4];simp
theorem S4:∀k:BitVec 8,((decide (k=1#8)||decide (k=2#8)||decide (k=10#8)||decide (k=11#8))||(match CT k with
  |some [_,_,c,d,e,f]=>decide (f=0) && (decide (k=8#8)||decide (e=0)) && (decide (k=6#8)||decide (k=8#8)||decide (k=9#8)||decide (k=12#8)||decide (k=13#8)||(decide (c=0) && decide (d=0)))
  |_=>true))=true:=by decide+kernel
theorem Pq {k:BitVec 8} {i s:List Int} {n p:Int} (h:CT k=none):CQ k i s n p=false:=by unfold CQ;rw [h]
theorem PT (k:BitVec 8):(CT k=none∧RW k=(0,0,false))∨∃a b c d e f,CT k=some [a,b,c,d,e,f]∧RW k=(a,b,true):=by
 cases h:CT k with
 |none=>exact .inl ⟨rfl,by unfold RW;rw [h]⟩
 |some r=>
  have:=(Jw h).2.2
  obtain ⟨a,b,c,d,e,f,rfl⟩:=Nl this
  exact .inr ⟨a,b,c,d,e,f,rfl,by unfold RW;rw [h]⟩
theorem Sm (x:N5) (W:World) (T:N5.at W x):AJ prog 232 [x.v] W (fun r w' =>r= .bool (CQ x.k x.i x.s x.n x.p)∧Below W.heap.size W w'):=by
 have m:=Below.refl W.heap.size W
 have l:=T.i
 have k:=T.s
 refine Bd (n:=112) func232 O<|Ah<|C0 (cs:=x.cells) O O O ?_
 rintro V w U o j -
 have m:=m.bs j
 have l:=l.bs j
 have k:=k.bs j
 refine Ab O<|Bg<|A0 underlying79 O (DA _)<|Aa (Ak (DG _) O ‹_› rfl) O ?_
 refine An O O (Sa x.k _) ?_
 rintro _ w ⟨rfl,j⟩
 have m:=m.bs j
 have l:=l.bs j
 have k:=k.bs j
 have o:=o.bs j
 rcases PT x.k with ⟨u,p⟩|⟨a,b,c,d,e,f,u,p⟩
 ·rw [p]
  exact Ad rfl<|Aa (Ex.extract (i:=0) rfl rfl) rfl<|Aa (Ex.extract (i:=1) rfl rfl) rfl<|Aa (Ex.extract (i:=2) rfl rfl) rfl<|Ab rfl<|Ab rfl<|Ab rfl<|Bj<|Ad rfl<|Aa (Co rfl) rfl<|Ad rfl<|Cm 15 (v' := .bool true) rfl (cngA Value.bool (rfl))<|Ae (dj:=15) rfl rfl rfl rfl<|Ae (dj:=15) rfl rfl rfl rfl<|Ae (dj:=15) rfl rfl rfl rfl<|Ae (dj:=15) rfl rfl rfl rfl<|Ae (dj:=15) rfl rfl rfl rfl<|Ae (dj:=15) rfl rfl rfl rfl<|Ae (dj:=15) rfl rfl rfl rfl<|Bu rfl<|Aj<|B3 rfl<|Ah<|Ab rfl<|Bz<|Ax rfl rfl<|⟨by rw [Pq u],m⟩
 rw [p]
 refine Ad O<|Aa (Ex.extract (i:=0) O O) O<|Aa (Ex.extract (i:=1) O O) O<|Aa (Ex.extract (i:=2) O O) O<|Ab O<|Ab O<|Ab O<|Bj<|Ad O<|Aa (Co O) O<|Ad O<|Cm 15 (v' := .bool false) O (cngA Value.bool (rfl))<|Af (dj:=15) O O<|A0 underlying79 O (AU _)<|Af (dj:=15) O O<|Aa (Ak (AK _) O ‹_› rfl) O ?_
 refine Af (dj:=15) O O<|Aa (Au AD O ‹_›) O ?_
 refine Af (dj:=15) O O<|Ad O<|Af (dj:=15) O O<|Ad O<|Af (dj:=15) O O<|An O O (ED (x.i.length:Int) a b w) ?_
 rintro _ w ⟨rfl,j⟩
 have m:=m.bs j
 have l:=l.bs j
 have k:=k.bs j
 have o:=o.bs j
 refine Af (dj:=15) O O<|Aa (Co O) O<|B4 O<|Aj<|Ao O ?_ ?_
 ·intro q
  refine Ah<|Ab O<|Bz<|Ax O O ?_
  have q:¬(a≤(x.i.length:Int)∧(x.i.length:Int)≤b):=by simp at q;omega
  exact ⟨by rw [QX u q],m⟩
 intro q
 have q:a≤(x.i.length:Int)∧(x.i.length:Int)≤b:=by simp at q;omega
 obtain ⟨B,z⟩:=q
 clear p
 refine B2<|Aq<|Ah<|A0 underlying79 O (DA _)<|Aa (Ak (DG _) O ‹_› rfl) O ?_
 refine Aj<|Ar<|Aq<|Ah<|Aa (B0 O (show _=some (b8 (1#8)) from rfl)) O<|Ab O<|Aj<|Ao O ?_ ?_
 ·intro q
  have g:x.k=1#8:=AC q
  refine B2<|Bv O true (q)<|Ah<|A0 underlying79 O (AU _)<|Aa (Ak (AK _) O ‹_› rfl) O ?_
  have v:CQ x.k x.i x.s x.n x.p=(Shapes.ok x.s && decide (x.n=0) && decide (x.p=0)):=by
   have p:=u
   rw [g,TK] at p
   cases p
   rw [Hw u B z,Bool.eq_iff_iff]
   show ((decide _ && Shapes.ok x.s)=true)↔_
   simp only [Bool.and_eq_true,decide_eq_true_eq]
   constructor
   ·rintro ⟨s,t⟩;exact ⟨⟨t,by omega⟩,by omega⟩
   ·rintro ⟨⟨s,t⟩,C⟩;exact ⟨by omega,s⟩
  rw [v]
  refine An O O (DM x.y x.s _ k) ?_
  rintro _ w ⟨rfl,j⟩
  have m:=m.bs j
  have l:=l.bs j
  have k:=k.bs j
  have o:=o.bs j
  refine Ad O ?_
  refine Bx 33 O ?_ ?_
  ·intro s
   refine Af (dj:=33) O O<|A0 underlying79 O (AV _)<|Af (dj:=33) O O<|Aa (Ak (AI _) O ‹_› rfl) O ?_
   refine Af (dj:=33) O O<|Aa (Cl O O) O<|Bu O<|Ad O ?_
   refine Bx 38 O ?_ ?_
   ·intro t
    refine Af (dj:=38) O O<|A0 underlying79 O (AV _)<|Af (dj:=38) O O<|Aa (Ak (AI _) O ‹_› rfl) O ?_
    refine Af (dj:=38) O O<|Aa (Cl O O) O<|Bu O<|Ab O<|Ay<|Ba<|Ap<|Ax O O ?_
    rw [s,t]
    exact ⟨rfl,m⟩
   intro t
   refine Ae (dj:=38) O O O O<|Ae (dj:=38) O O O O<|Ae (dj:=38) O O O O<|B4 O<|Ab O<|Ay<|Ba<|Ap<|Ax O O ?_
   rw [s,t]
   exact ⟨rfl,m⟩
  intro s
  refine Ae (dj:=33) O O O O<|Ae (dj:=33) O O O O<|Ae (dj:=33) O O O O<|B4 O<|Ad O<|Ae (dj:=38) O O O O<|Ae (dj:=38) O O O O<|Ae (dj:=38) O O O O<|B4 O<|Ab O<|Ay<|Ba<|Ap<|Ax O O ?_
  rw [s]
  exact ⟨rfl,m⟩
 intro s
 refine Ah<|Aa (B0 O (show _=some (b8 (2#8)) from rfl)) O<|Ab O<|Aj<|Ao O ?_ ?_
 ·intro q
  have g:x.k=2#8:=AC q
  refine B2<|Bv O true (q)<|Ah<|A0 underlying79 O (AU _)<|Aa (Ak (AK _) O ‹_› rfl) O ?_
  have v:CQ x.k x.i x.s x.n x.p=(Shapes.ok x.s && decide (x.n=0) && decide (x.p=0)):=by
   have p:=u
   rw [g,TJ] at p
   cases p
   rw [Hw u B z,Bool.eq_iff_iff]
   show ((decide _ && Shapes.ok x.s)=true)↔_
   simp only [Bool.and_eq_true,decide_eq_true_eq]
   constructor
   ·rintro ⟨s,t⟩;exact ⟨⟨t,by omega⟩,by omega⟩
   ·rintro ⟨⟨s,t⟩,C⟩;exact ⟨by omega,s⟩
  rw [v]
  refine An O O (DM x.y x.s _ k) ?_
  rintro _ w ⟨rfl,j⟩
  have m:=m.bs j
  have l:=l.bs j
  have k:=k.bs j
  have o:=o.bs j
  refine Ad O ?_
  refine Bx 33 O ?_ ?_
  ·intro s
   refine Af (dj:=33) O O<|A0 underlying79 O (AV _)<|Af (dj:=33) O O<|Aa (Ak (AI _) O ‹_› rfl) O ?_
   refine Af (dj:=33) O O<|Aa (Cl O O) O<|Bu O<|Ad O ?_
   refine Bx 38 O ?_ ?_
   ·intro t
    refine Af (dj:=38) O O<|A0 underlying79 O (AV _)<|Af (dj:=38) O O<|Aa (Ak (AI _) O ‹_› rfl) O ?_
    refine Af (dj:=38) O O<|Aa (Cl O O) O<|Bu O<|Ab O<|Ay<|Ba<|Ap<|Ax O O ?_
    rw [s,t]
    exact ⟨rfl,m⟩
   intro t
   refine Ae (dj:=38) O O O O<|Ae (dj:=38) O O O O<|Ae (dj:=38) O O O O<|B4 O<|Ab O<|Ay<|Ba<|Ap<|Ax O O ?_
   rw [s,t]
   exact ⟨rfl,m⟩
  intro s
  refine Ae (dj:=33) O O O O<|Ae (dj:=33) O O O O<|Ae (dj:=33) O O O O<|B4 O<|Ad O<|Ae (dj:=38) O O O O<|Ae (dj:=38) O O O O<|Ae (dj:=38) O O O O<|B4 O<|Ab O<|Ay<|Ba<|Ap<|Ax O O ?_
  rw [s]
  exact ⟨rfl,m⟩
 intro t
 refine Bh<|Aa (B0 O (show _=some (b8 (10#8)) from rfl)) O<|Ab O<|Aj<|Ao O ?_ ?_
 ·intro q
  have g:x.k=10#8:=AC q
  have v:CQ x.k x.i x.s x.n x.p=(Shapes.ok x.s && decide (x.n=0) && decide (x.p=0)):=by
   have p:=u
   rw [g,Mr] at p
   cases p
   rw [Hw u B z,Bool.eq_iff_iff]
   show ((decide _ && Shapes.ok x.s)=true)↔_
   simp only [Bool.and_eq_true,decide_eq_true_eq]
   constructor
   ·rintro ⟨s,t⟩;exact ⟨⟨t,by omega⟩,by omega⟩
   ·rintro ⟨⟨s,t⟩,C⟩;exact ⟨by omega,s⟩
  rw [v]
  refine Ah<|A0 underlying79 O (AU _)<|Aa (Ak (AK _) O ‹_› rfl) O ?_
  refine An O O (DM x.y x.s _ k) ?_
  rintro _ w ⟨rfl,j⟩
  have m:=m.bs j
  have l:=l.bs j
  have k:=k.bs j
  have o:=o.bs j
  refine Ad O ?_
  refine Bx 33 O ?_ ?_
  ·intro s
   refine Af (dj:=33) O O<|A0 underlying79 O (AV _)<|Af (dj:=33) O O<|Aa (Ak (AI _) O ‹_› rfl) O ?_
   refine Af (dj:=33) O O<|Aa (Cl O O) O<|Bu O<|Ad O ?_
   refine Bx 38 O ?_ ?_
   ·intro t
    refine Af (dj:=38) O O<|A0 underlying79 O (AV _)<|Af (dj:=38) O O<|Aa (Ak (AI _) O ‹_› rfl) O ?_
    refine Af (dj:=38) O O<|Aa (Cl O O) O<|Bu O<|Ab O<|Ay<|Ba<|Ap<|Ax O O ?_
    rw [s,t]
    exact ⟨rfl,m⟩
   intro t
   refine Ae (dj:=38) O O O O<|Ae (dj:=38) O O O O<|Ae (dj:=38) O O O O<|B4 O<|Ab O<|Ay<|Ba<|Ap<|Ax O O ?_
   rw [s,t]
   exact ⟨rfl,m⟩
  intro s
  refine Ae (dj:=33) O O O O<|Ae (dj:=33) O O O O<|Ae (dj:=33) O O O O<|B4 O<|Ad O<|Ae (dj:=38) O O O O<|Ae (dj:=38) O O O O<|Ae (dj:=38) O O O O<|B4 O<|Ab O<|Ay<|Ba<|Ap<|Ax O O ?_
  rw [s]
  exact ⟨rfl,m⟩
 intro E
 refine Ah<|Aa (B0 O (show _=some (b8 (11#8)) from rfl)) O<|Ab O<|Aj<|Ao O ?_ ?_
 ·intro q
  have g:x.k=11#8:=AC q
  have v:CQ x.k x.i x.s x.n x.p=(decide (x.s.length≤4) && G6 x.s && decide (x.n=0) && decide (x.p=0)):=by
   have p:=u
   rw [g,Mq] at p
   cases p
   rw [Hw u B z,Bool.eq_iff_iff]
   show ((decide _ && HX x.s)=true)↔_
   rw [I1]
   simp only [Bool.and_eq_true,decide_eq_true_eq]
   constructor
   ·rintro ⟨s,t,C⟩;exact ⟨⟨⟨t,C⟩,by omega⟩,by omega⟩
   ·rintro ⟨⟨⟨s,t⟩,C⟩,H⟩;exact ⟨by omega,s,t⟩
  rw [v]
  refine Ah<|A0 underlying79 O (AU _)<|Aa (Ak (AK _) O ‹_› rfl) O ?_
  refine Aa (Au AD O ‹_›) O ?_
  refine Aa (Ej O O) O<|Ad O ?_
  refine Bx 49 O ?_ ?_
  ·intro H
   have G:x.s.length≤4:=by have:=AC H;omega
   refine Af (dj:=49) O O<|A0 underlying79 O (AU _)<|Af (dj:=49) O O<|Aa (Ak (AK _) O ‹_› rfl) O ?_
   refine Af (dj:=49) O O<|A0 underlying79 O (AU _)<|Af (dj:=49) O O<|Aa (Ak (AK _) O ‹_› rfl) O ?_
   refine Af (dj:=49) O O<|Aa (Au AD O ‹_›) O ?_
   refine Af (dj:=49) O O<|An O O (Q4 x.y x.s x.s.length _ k G) ?_
   rintro _ w ⟨rfl,j⟩
   have m:=m.bs j
   have l:=l.bs j
   have k:=k.bs j
   have o:=o.bs j
   rw [decide_eq_true (show x.s.length=x.s.length from rfl),Bool.true_and,decide_eq_true G]
   refine Bu O<|Ad O ?_
   refine Bx 57 O ?_ ?_
   ·intro F
    refine Af (dj:=57) O O<|A0 underlying79 O (AV _)<|Af (dj:=57) O O<|Aa (Ak (AI _) O ‹_› rfl) O ?_
    refine Af (dj:=57) O O<|Aa (Cl O O) O<|Bu O<|Ad O ?_
    refine Bx 62 O ?_ ?_
    ·intro A
     refine Af (dj:=62) O O<|A0 underlying79 O (AV _)<|Af (dj:=62) O O<|Aa (Ak (AI _) O ‹_› rfl) O ?_
     refine Af (dj:=62) O O<|Aa (Cl O O) O<|Bu O<|Ab O<|Ay<|Ba<|Ap<|Ax O O ?_
     rw [F,A]
     exact ⟨rfl,m⟩
    intro A
    refine Ae (dj:=62) O O O O<|Ae (dj:=62) O O O O<|Ae (dj:=62) O O O O<|B4 O<|Ab O<|Ay<|Ba<|Ap<|Ax O O ?_
    rw [F,A]
    exact ⟨rfl,m⟩
   intro F
   refine Ae (dj:=57) O O O O<|Ae (dj:=57) O O O O<|Ae (dj:=57) O O O O<|B4 O<|Ad O<|Ae (dj:=62) O O O O<|Ae (dj:=62) O O O O<|Ae (dj:=62) O O O O<|B4 O<|Ab O<|Ay<|Ba<|Ap<|Ax O O ?_
   rw [F]
   exact ⟨rfl,m⟩
  intro H
  have G:¬x.s.length≤4:=by have:=AB H;omega
  refine Ae (dj:=49) O O O O<|Ae (dj:=49) O O O O<|Ae (dj:=49) O O O O<|Ae (dj:=49) O O O O<|Ae (dj:=49) O O O O<|Ae (dj:=49) O O O O<|B4 O<|Ad O<|Ae (dj:=57) O O O O<|Ae (dj:=57) O O O O<|Ae (dj:=57) O O O O<|B4 O<|Ad O<|Ae (dj:=62) O O O O<|Ae (dj:=62) O O O O<|Ae (dj:=62) O O O O<|B4 O<|Ab O<|Ay<|Ba<|Ap<|Ax O O ?_
  rw [decide_eq_false G]
  exact ⟨rfl,m⟩
 intro D
 have N:=S4 x.k
 rw [s,t,E,D,u] at N
 simp only [Bool.or_false,Bool.false_or,Bool.and_eq_true,Bool.or_eq_true,decide_eq_true_eq] at N
 obtain ⟨⟨R,Y⟩,X⟩:=N
 have K:CQ x.k x.i x.s x.n x.p=(decide (c≤x.n∧x.n≤d∧0≤x.p∧x.p≤e) && decide (x.s.length=0)):=by
  rw [Hw u B z,R];rfl
 clear s t E D R
 refine Ca<|Bi<|Av<|B8<|Aq<|Ah<|A0 underlying79 O (AU _)<|Aa (Ak (AK _) O ‹_› rfl) O ?_
 refine Aa (Au AD O ‹_›) O ?_
 refine Aa (Da O O) O<|Ad O ?_
 refine Bx 71 O ?_ ?_
 ·intro q
  have q:¬x.s.length=0:=by have:=AC q;omega
  exact Ae (dj:=71) rfl rfl rfl rfl<|Ae (dj:=71) rfl rfl rfl rfl<|Ae (dj:=71) rfl rfl rfl rfl<|Ae (dj:=71) rfl rfl rfl rfl<|De (dj:=75) rfl rfl rfl<|De (dj:=75) rfl rfl rfl<|De (dj:=75) rfl rfl rfl<|Ae (dj:=71) rfl rfl rfl rfl<|Bu rfl<|Aj<|B3 rfl<|Ah<|Ab rfl<|Bz<|Ax rfl rfl<|⟨by rw [K,decide_eq_false q,Bool.and_false],m⟩
 intro q
 have l0:x.s.length=0:=by have:=AB q;omega
 refine Af (dj:=71) O O<|A0 underlying79 O (DA _)<|Af (dj:=71) O O<|Aa (Ak (DG _) O ‹_› rfl) O ?_
 refine Af (dj:=71) O O<|Aa (F1 O (show _=some (b8 (8#8)) from rfl)) O<|Af (dj:=71) O O<|Ad O ?_
 refine Bx 75 O ?_ ?_
 ·intro Q
  have I:¬x.k=8#8:=by simpa using Q
  have e0:e=0:=Y.resolve_left I
  refine Af (dj:=75) O O<|A0 underlying79 O (AV _)<|Af (dj:=75) O O<|Aa (Ak (AI _) O ‹_› rfl) O ?_
  refine Af (dj:=75) O O<|Aa (Cn O O) O<|Af (dj:=71) O O<|Bu O<|B4 O<|Aj<|Ao O ?_ ?_
  ·intro q
   have p0:¬x.p=0:=by simpa using q
   exact Ah<|Ab rfl<|Bz<|Ax rfl rfl<|⟨by rw [K,decide_eq_false (show ¬(c≤x.n∧x.n≤d∧0≤x.p∧x.p≤e) by omega),Bool.false_and],m⟩
  intro q
  have p0:x.p=0:=by simpa using q
  refine B2<|Aq<|Ah<|A0 underlying79 O (DA _)<|Aa (Ak (DG _) O ‹_› rfl) O ?_
  refine Aj<|Ar<|Ah<|Aa (B0 O (show _=some (b8 (6#8)) from rfl)) O<|Ab O<|Aj<|Ao O ?_ ?_
  ·intro q
   have g:x.k=6#8:=AC q
   have p:=u
   rw [g,TG] at p
   cases p
   refine Ah<|A0 underlying79 O (AV _)<|Aa (Ak (AI _) O ‹_› rfl) O ?_
   refine An O O (ED x.n 0 31 _) ?_
   rintro _ w ⟨rfl,j⟩
   have m:=m.bs j
   have l:=l.bs j
   have k:=k.bs j
   have o:=o.bs j
   refine Ab O<|Ay<|Ba<|Ap<|Ax O O ?_
   refine ⟨cngA Value.bool ?_,m⟩
   rw [K,Bool.eq_iff_iff]
   simp only [Bool.and_eq_true,decide_eq_true_eq]
   omega
  intro A
  refine Ah<|Aa (B0 O (show _=some (b8 (8#8)) from rfl)) O<|Ab O<|Aj<|Bv O false ((decide_eq_false I))<|Ah<|Aa (B0 O (show _=some (b8 (9#8)) from rfl)) O<|Ab O<|Aj<|Ao O ?_ ?_
  ·intro q
   have g:x.k=9#8:=AC q
   have p:=u
   rw [g,TE] at p
   cases p
   refine Ah<|A0 underlying79 O (AV _)<|Aa (Ak (AI _) O ‹_› rfl) O ?_
   refine An O O (ED x.n 1 64 _) ?_
   rintro _ w ⟨rfl,j⟩
   have m:=m.bs j
   have l:=l.bs j
   have k:=k.bs j
   have o:=o.bs j
   refine Ab O<|Ay<|Ba<|Ap<|Ax O O ?_
   refine ⟨cngA Value.bool ?_,m⟩
   rw [K,Bool.eq_iff_iff]
   simp only [Bool.and_eq_true,decide_eq_true_eq]
   omega
  intro y
  refine Aq<|Ah<|Aa (B0 O (show _=some (b8 (12#8)) from rfl)) O<|Ab O<|Aj<|Ao O ?_ ?_
  ·intro S
   have g:x.k=12#8:=AC S
   have p:=u
   rw [g,O9] at p
   cases p
   refine B2<|Bv O true (S)<|Ah<|A0 underlying79 O (AV _)<|Aa (Ak (AI _) O ‹_› rfl) O ?_
   refine An O O (ED x.n 0 3 _) ?_
   rintro _ w ⟨rfl,j⟩
   have m:=m.bs j
   have l:=l.bs j
   have k:=k.bs j
   have o:=o.bs j
   refine Ab O<|Ay<|Ba<|Ap<|Ax O O ?_
   refine ⟨cngA Value.bool ?_,m⟩
   rw [K,Bool.eq_iff_iff]
   simp only [Bool.and_eq_true,decide_eq_true_eq]
   omega
  intro M
  refine Bh<|Aa (B0 O (show _=some (b8 (13#8)) from rfl)) O<|Ab O<|Aj<|Ao O ?_ ?_
  ·intro q
   have g:x.k=13#8:=AC q
   have p:=u
   rw [g,Mp] at p
   cases p
   refine Ah<|A0 underlying79 O (AV _)<|Aa (Ak (AI _) O ‹_› rfl) O ?_
   refine An O O (ED x.n 0 3 _) ?_
   rintro _ w ⟨rfl,j⟩
   have m:=m.bs j
   have l:=l.bs j
   have k:=k.bs j
   have o:=o.bs j
   refine Ab O<|Ay<|Ba<|Ap<|Ax O O ?_
   refine ⟨cngA Value.bool ?_,m⟩
   rw [K,Bool.eq_iff_iff]
   simp only [Bool.and_eq_true,decide_eq_true_eq]
   omega
  intro L
  have Z:c=0∧d=0:=by
   rcases X with ((((h|h)|h)|h)|h)|h
   ·exact absurd (decide_eq_true h) (by rw [A];decide)
   ·exact absurd h I
   ·exact absurd (decide_eq_true h) (by rw [y];decide)
   ·exact absurd (decide_eq_true h) (by rw [M];decide)
   ·exact absurd (decide_eq_true h) (by rw [L];decide)
   ·exact h
  refine Ca<|Bi<|Ci<|A0 underlying79 O (AV _)<|Aa (Ak (AI _) O ‹_› rfl) O ?_
  refine Aa (Cl O O) O<|Ab O<|Ay<|Ax O O ?_
  refine ⟨cngA Value.bool ?_,m⟩
  rw [K,Bool.eq_iff_iff]
  simp only [Bool.and_eq_true,decide_eq_true_eq]
  omega
 intro Q
 have g:x.k=8#8:=by simpa using Q
 have p:=u
 rw [g,S5] at p
 cases p
 refine Ae (dj:=75) O O O O<|Ae (dj:=75) O O O O<|Ae (dj:=75) O O O O<|Af (dj:=71) O O<|B4 O<|B4 O<|Aj<|D5 O<|B2<|Aq<|Ah<|A0 underlying79 O (DA _)<|Aa (Ak (DG _) O ‹_› rfl) O ?_
 refine Aj<|Ar<|Ah<|Aa (B0 O (show _=some (b8 (6#8)) from rfl)) O<|Ab O<|Aj<|Bv O false ((by rw [g];rfl))<|Ah<|Aa (B0 O (show _=some (b8 (8#8)) from rfl)) O<|Ab O<|Aj<|Bv O true ((by rw [g];rfl))<|Ah<|A0 underlying79 O (AV _)<|Aa (Ak (AI _) O ‹_› rfl) O ?_
 refine An O O (ED x.n 1 8 _) ?_
 rintro _ w ⟨rfl,j⟩
 have m:=m.bs j
 have l:=l.bs j
 have k:=k.bs j
 have o:=o.bs j
 refine Ad O ?_
 refine Bx 93 O ?_ ?_
 ·intro y
  refine Af (dj:=93) O O<|A0 underlying79 O (AV _)<|Af (dj:=93) O O<|Aa (Ak (AI _) O ‹_› rfl) O ?_
  refine Af (dj:=93) O O<|An O O (ED x.p 0 8 _) ?_
  rintro _ w ⟨rfl,j⟩
  have m:=m.bs j
  have l:=l.bs j
  have k:=k.bs j
  have o:=o.bs j
  refine Bu O<|Ab O<|Ay<|Ba<|Ap<|Ax O O ?_
  have J:1≤x.n∧x.n≤8:=by simpa using y
  refine ⟨cngA Value.bool ?_,m⟩
  rw [K,Bool.eq_iff_iff]
  simp only [Bool.and_eq_true,decide_eq_true_eq]
  omega
 intro y
 have J:¬(1≤x.n∧x.n≤8):=by simp at y;omega
 exact Ae (dj:=93) rfl rfl rfl rfl<|Ae (dj:=93) rfl rfl rfl rfl<|Ae (dj:=93) rfl rfl rfl rfl<|B4 rfl<|Ab rfl<|Ay<|Ba<|Ap<|Ax rfl rfl<|⟨by rw [K,decide_eq_false (show ¬(1≤x.n∧x.n≤8∧0≤x.p∧x.p≤8) by omega),Bool.false_and],m⟩

theorem OV (u v:Value) (a b:List Int) (W:World) (j:CA (Value.int .i64) W u a) (i:CA (Value.int .i64) W v b):
  AJ prog 259 [u,v] W (fun r w' =>Below W.heap.size W w' ∧UN W w' r a b):=by
 have f:=Below.refl W.heap.size W
 refine Bd (n:=38) func259 O<|Ah<|Ab O<|Ab O<|Bj<|Ad O<|An O O (DM u a _ j) ?_
 rintro _ w ⟨rfl,k⟩
 have f:=f.bs k
 have j:=j.bs k
 have i:=i.bs k
 refine Aa (Co O) O<|Ad O ?_
 refine Bx 9 O ?_ ?_
 ·intro g
  have e:=Ju (a:=a) (b:=b) (.inl (by simpa using g))
  refine Ae (dj:=9) O O O O<|Ae (dj:=9) O O O O<|Ae (dj:=9) O O O O<|Bu O<|Aj<|B3 O<|Ah<|Ab O<|Ab O<|Bz<|Bp O O O ?_
  exact ⟨f,_,by rw [e],fun _=>rfl,fun h=>by rw [e] at h;cases h⟩
 intro g
 have l:Shapes.ok a=true:=by simpa using g
 refine Af (dj:=9) O O<|Ad O<|Af (dj:=9) O O<|An O O (DM v b _ i) ?_
 rintro _ w ⟨rfl,k⟩
 have f:=f.bs k
 have j:=j.bs k
 have i:=i.bs k
 refine Af (dj:=9) O O<|Aa (Co O) O<|B4 O<|Aj<|Ao O ?_ ?_
 ·intro g
  have e:=Ju (a:=a) (b:=b) (.inr (by simpa using g))
  refine Ah<|Ab O<|Ab O<|Bz<|Bp O O O ?_
  exact ⟨f,_,by rw [e],fun _=>rfl,fun h=>by rw [e] at h;cases h⟩
 intro g
 have m:Shapes.ok b=true:=by simpa using g
 refine B2<|Aq<|Aq<|C8 mixed (by kernel_rfl)<|Bt O<|Ai (fun d c=>Au AD O (Sl.bs ‹_› c)) O ?_
 refine Ai (fun d c=>Cn O O) O<|Bt O ?_
 refine Di 17 O ?_ ?_
 ·intro g
  have e:FH a b=10:=GE l m fun h=>by simp [h.1] at g
  refine As (dj:=17) O O O O<|As (dj:=17) O O O O<|As (dj:=17) O O O O<|Ai (fun d c=>Cy O O) O<|Bt O<|As (dj:=22) O O O O<|As (dj:=22) O O O O<|As (dj:=22) O O O O<|As (dj:=22) O O O O<|As (dj:=22) O O O O<|As (dj:=22) O O O O<|As (dj:=22) O O O O<|Ai (fun d c=>Cy O O) O ?_
  refine C1 (fun o c=> ?_)
  refine Av<|B8<|B3 O<|Ah<|Ab O<|Ab O<|Bz<|Bp O O O ?_
  exact ⟨bt f c,_,by rw [e],fun _=>rfl,fun h=>by rw [e] at h;cases h⟩
 intro g
 have q:a.length=2:=by simp at g;omega
 refine Az (dj:=17) O O<|Bt O<|Az (dj:=17) O O<|Ai (fun d c=>Au AD O (Sl.bs ‹_› c)) O ?_
 refine Az (dj:=17) O O<|Ai (fun d c=>Cn O O) O<|Ai (fun d c=>Cx O O) O<|Bt O ?_
 refine Di 22 O ?_ ?_
 ·intro g
  have e:FH a b=10:=GE l m fun h=>by simp [h.2.1] at g
  refine As (dj:=22) O O O O<|As (dj:=22) O O O O<|As (dj:=22) O O O O<|As (dj:=22) O O O O<|As (dj:=22) O O O O<|As (dj:=22) O O O O<|As (dj:=22) O O O O<|Ai (fun d c=>Cy O O) O ?_
  refine C1 (fun o c=> ?_)
  refine Av<|B8<|B3 O<|Ah<|Ab O<|Ab O<|Bz<|Bp O O O ?_
  exact ⟨bt f c,_,by rw [e],fun _=>rfl,fun h=>by rw [e] at h;cases h⟩
 intro g
 have lb:b.length=2:=by simp at g;omega
 refine Az (dj:=22) O O<|Bt O<|Az (dj:=22) O O<|Ai (fun d c=>Bf AD O O (Sl.bs ‹_› c) 1 O (by omega)) O ?_
 refine Az (dj:=22) O O<|Ai (fun d c=>Bl (AI _) O (Sl.bs ‹_› c) (by omega)) O ?_
 refine Az (dj:=22) O O<|Bt O<|Az (dj:=22) O O<|Ai (fun d c=>Bf AD O O (Sl.bs ‹_› c) 0 O (by omega)) O ?_
 refine Az (dj:=22) O O<|Ai (fun d c=>Bl (AI _) O (Sl.bs ‹_› c) (by omega)) O ?_
 refine Az (dj:=22) O O<|Ai (fun d c=>Cn O O) O<|Ai (fun d c=>Cx O O) O ?_
 refine C1 (fun o c=> ?_)
 refine Av<|B8<|Ao O ?_ ?_
 ·intro g
  have e:FH a b=10:=GE l m fun h=>by simp at g;exact g (by simpa using h.2.2)
  refine Ah<|Ab O<|Ab O<|Bz<|Bp O O O ?_
  exact ⟨bt f c,_,by rw [e],fun _=>rfl,fun h=>by rw [e] at h;cases h⟩
 intro g
 have e:FH a b=0:=LX l m ⟨q,lb,by simpa using g⟩
 have f:=f.bs c
 have j:=j.bs c
 have i:=i.bs c
 clear c
 refine B2<|Aq<|Cw.tail 6 mixed (by kernel_rfl)<|Bt O<|Ai (fun d c=>Bf AD O O (Sl.bs ‹_› c) 0 O (by omega)) O ?_
 refine Ai (fun d c=>Bl (AI _) O (Sl.bs ‹_› c) (by omega)) O ?_
 refine Bt O<|Ai (fun d c=>Bf AD O O (Sl.bs ‹_› c) 1 O (by omega)) O ?_
 refine Ai (fun d c=>Bl (AI _) O (Sl.bs ‹_› c) (by omega)) O ?_
 refine Qw.done (fun t c=> ?_)
 have f:=f.bs c
 have j:=j.bs c
 have i:=i.bs c
 refine Bq (C2 (vs:=[a.getD 0 default,b.getD 1 default].map (Value.int .i64)) AD DT O O O O O) O ?_
 rintro x s ⟨p, -,k, -⟩
 have z:=f.size
 have f:=f.bs k
 have j:=j.bs k
 have i:=i.bs k
 exact Ab rfl<|Ab rfl<|Ay<|Bp rfl rfl rfl<|⟨f,x,by rw [e],fun h=>absurd e h,fun _=>DN p z⟩
end Go.Proofs.YtblbopcaflaldaaGreatDoor

namespace Go.Proofs.YtblbopcaflaldaaGreatDoor
open Go Go.Dd Go.RowKit List
set_option maxRecDepth 100000
theorem UA {s:List Int} (h:s.length=3):s=[s.getD 0 default,s.getD 1 default,s.getD 2 default]:=by
 match s,h with
 |[a,b,c],_=>rfl
theorem SP {s:List Int} (h:s.length=3):Shapes.prod s=s.getD 0 default*(s.getD 1 default*s.getD 2 default):=by
 rw [UA h];simp [Shapes.prod]
end Go.Proofs.YtblbopcaflaldaaGreatDoor

namespace Go.Dd
open Go Go.RowKit List
end Go.Dd

namespace Go.Proofs.YtblbopcaflaldaaGreatDoor
open Go Go.Dd Go.RowKit List
set_option maxRecDepth 100000
structure Um (t:T4) (wide:Int):Prop where
 lt:t.s.length=3
 w:1≤wide∧wide≤64
 w1:wide≤t.s.getD 1 default
 w2:wide≤t.s.getD 2 default
 gt:Shapes.good t.s
 tl:(t.l.length:Int)=t.s.getD 0 default*(t.s.getD 1 default*t.s.getD 2 default)
 ok:Shapes.ok (HR t.s wide)=true
 s1:Hf (t.s.getD 1 default) wide wide=t.s.getD 1 default / wide
 s2:Hf (t.s.getD 2 default) wide wide=t.s.getD 2 default / wide
theorem H7 {r w:Int} (d:1≤w) (c:w≤r):Hf r w w=r / w∧1≤r / w∧r / w≤r∧r / w*w≤r:=by
 have e:(r - w) / w=r / w - 1:=by
  have:=Int.add_mul_ediv_right (r - w) 1 (show w≠0 by omega)
  rw [Int.one_mul,Int.sub_add_cancel] at this
  omega
 have a:Hf r w w=r / w:=by unfold Hf;rw [if_neg (by omega),e];omega
 have b:=Int.ediv_nonneg (show 0≤r - w by omega) (show 0≤w by omega)
 exact ⟨a,by omega,Int.ediv_le_self _ (by omega),Int.ediv_mul_le _ (by omega)⟩
theorem Sr {t:T4} {a:Int} (p:Uy t.s t.l=true) (e:CC t.s a=0):Um t a:=by
 obtain ⟨j,v⟩:=Tk p
 have T:=(Shapes.ok_iff t.s).1 j
 have c:GF t.s a=false:=by cases h:GF t.s a<;>simp [CC,h] at e ⊢
 have i:Hr t.s a=true:=by cases h:Hr t.s a<;>simp [CC,c,h] at e ⊢
 simp only [Hr,Bool.and_eq_true,decide_eq_true_eq] at i
 obtain ⟨⟨lt,g⟩,m⟩:=i
 simp only [GF,Bool.or_eq_false_iff,decide_eq_false_iff_not] at c
 obtain ⟨⟨-,C⟩,D⟩:=c
 have z:=CF T.2.1 (k:=0) (by omega)
 have B:=CF T.2.1 (k:=1) (by omega)
 have x:=CF T.2.1 (k:=2) (by omega)
 obtain ⟨d,A,s, -⟩:=H7 (r:=t.s.getD 1 default) (w:=a) (by omega) g
 obtain ⟨b,u,o, -⟩:=H7 (r:=t.s.getD 2 default) (w:=a) (by omega) m
 have n:=SP lt
 have l:(HR t.s a).length=3:=rfl
 have ps:Shapes.prod (HR t.s a)=t.s.getD 0 default*(t.s.getD 1 default / a*(t.s.getD 2 default / a)):=by
  rw [SP l]
  show t.s.getD 0 default*(Hf (t.s.getD 1 default) a a*Hf (t.s.getD 2 default) a a)=_
  rw [d,b]
 have q:t.s.getD 1 default / a*(t.s.getD 2 default / a)≤t.s.getD 1 default*t.s.getD 2 default:=Int.mul_le_mul s o (by omega) (by omega)
 have E:t.s.getD 0 default*(t.s.getD 1 default / a*(t.s.getD 2 default / a))≤t.s.getD 0 default*(t.s.getD 1 default*t.s.getD 2 default):=Int.mul_le_mul_of_nonneg_left q (by omega)
 refine ⟨lt,by omega,g,m,T.2.1, ?_,(Shapes.ok_iff _).2 ⟨by rw [l];omega, ?_,by rw [ps];omega⟩,d,b⟩
 ·have:=Shapes.size_ok j
  rw [← n];have:=Shapes.size_le t.s;omega
 ·intro y f
  simp only [HR,mem_cons,not_mem_nil,or_false] at f
  rw [d,b] at f
  rcases f with rfl|rfl|rfl<;>omega
end Go.Proofs.YtblbopcaflaldaaGreatDoor

namespace Go.Proofs.YtblbopcaflaldaaGreatDoor
open Go Go.Dd Go.RowKit List Go.Proofs.Tryz
set_option maxRecDepth 100000
theorem Ty {t:List Int} {a:Int} (h:¬t.length=3):Hr t a=false:=by simp only [Hr,decide_eq_false h,Bool.false_and]
theorem Tx {t:List Int} {a:Int} (h:¬a≤t.getD 1 default):Hr t a=false:=by simp only [Hr,decide_eq_false h,Bool.false_and,Bool.and_false]
theorem Tw {t:List Int} {a:Int} (h:¬a≤t.getD 2 default):Hr t a=false:=by simp only [Hr,decide_eq_false h,Bool.and_false]
theorem Nn (t:List Int) (a:Int) (u:Value) (W:World) (c:CA (Value.int .i64) W u t):
  AJ prog 261 [u, .int .i64 a] W (fun r w' =>Below W.heap.size W w' ∧RK W w' r (CC t a) (HR t a)):=by
 have d:=Below.refl W.heap.size W
 refine Bd (n:=48) func261 O<|Ah<|Ab O<|Ab O<|Bj<|Ad O<|An O O (DM u t _ c) ?_
 rintro _ w ⟨rfl,i⟩
 have d:=d.bs i
 have c:=c.bs i
 refine Aa (Co O) O<|Ad O ?_
 refine Bx 9 O ?_ ?_
 ·intro q
  refine Ae (dj:=9) O O O O<|Ae (dj:=9) O O O O<|Bu O<|Ad O<|Ae (dj:=13) O O O O<|Ae (dj:=13) O O O O<|Bu O<|Aj<|B3 O<|Ah<|Ab O<|Ab O<|Bz<|Bp O O O ?_
  rw [show CC t a=1 by simp [CC,show GF t a=true by simp_all [GF]]]
  exact ⟨d,BF (by decide)⟩
 intro q
 refine Af (dj:=9) O O<|Ad O<|Af (dj:=9) O O<|B1 O<|B4 O<|Ad O ?_
 refine Bx 13 O ?_ ?_
 ·intro m
  refine Ae (dj:=13) O O O O<|Ae (dj:=13) O O O O<|Bu O<|Aj<|B3 O<|Ah<|Ab O<|Ab O<|Bz<|Bp O O O ?_
  rw [show CC t a=1 by simp [CC,show GF t a=true by simp_all [GF]]]
  exact ⟨d,BF (by decide)⟩
 intro m
 refine Af (dj:=13) O O<|Ad O<|Af (dj:=13) O O<|Aa (Da O O) O<|B4 O<|Aj<|Ao O ?_ ?_
 ·intro s
  refine Ah<|Ab O<|Ab O<|Bz<|Bp O O O ?_
  rw [show CC t a=1 by simp [CC,show GF t a=true by simp_all [GF]]]
  exact ⟨d,BF (by decide)⟩
 intro s
 have l:GF t a=false:=by simp_all [GF]
 have C:Shapes.ok t=true:=by simpa using q
 have e:1≤a:=by simpa using m
 have H:a≤64:=by simpa using s
 have o:=(Shapes.ok_iff t).1 C
 clear q m s
 refine B2<|Aq<|Ah<|Ad O<|Aa (Au AD O ‹_›) O ?_
 refine Aa (Cn O O) O<|Ad O ?_
 refine Bx 20 O ?_ ?_
 ·intro j
  have lt:¬t.length=3:=by have:=j;simp at this;omega
  refine Ae (dj:=20) O O O O<|Ae (dj:=20) O O O O<|Ae (dj:=20) O O O O<|Ae (dj:=20) O O O O<|Ae (dj:=20) O O O O<|Bu O<|Ad O<|Ae (dj:=27) O O O O<|Ae (dj:=27) O O O O<|Ae (dj:=27) O O O O<|Ae (dj:=27) O O O O<|Ae (dj:=27) O O O O<|Bu O<|Aj<|B3 O<|Ah<|Ab O<|Ab O<|Bz<|Bp O O O ?_
  rw [show CC t a=10 by rw [CC,l,Ty lt];rfl]
  exact ⟨d,BF (by decide)⟩
 intro j
 have lt:t.length=3:=by have:=j;simp at this;omega
 have F:=CF o.2.1 (k:=0) (by omega)
 have G:=CF o.2.1 (k:=1) (by omega)
 have D:=CF o.2.1 (k:=2) (by omega)
 clear j
 refine Af (dj:=20) O O<|Ad O<|Af (dj:=20) O O<|Aa (Bf AD O O ‹_› 1 O (by omega)) O ?_
 refine Af (dj:=20) O O<|Aa (Bl (AI _) O ‹_› (by omega)) O ?_
 refine Af (dj:=20) O O<|Ad O<|Af (dj:=20) O O<|B1 O<|B4 O<|Ad O ?_
 refine Bx 27 O ?_ ?_
 ·intro g
  have g:¬a≤t.getD 1 default:=by have:=AC g;omega
  refine Ae (dj:=27) O O O O<|Ae (dj:=27) O O O O<|Ae (dj:=27) O O O O<|Ae (dj:=27) O O O O<|Ae (dj:=27) O O O O<|Bu O<|Aj<|B3 O<|Ah<|Ab O<|Ab O<|Bz<|Bp O O O ?_
  rw [show CC t a=10 by rw [CC,l,Tx g];rfl]
  exact ⟨d,BF (by decide)⟩
 intro g
 have g:a≤t.getD 1 default:=by have:=AB g;omega
 refine Af (dj:=27) O O<|Ad O<|Af (dj:=27) O O<|Aa (Bf AD O O ‹_› 2 O (by omega)) O ?_
 refine Af (dj:=27) O O<|Aa (Bl (AI _) O ‹_› (by omega)) O ?_
 refine Af (dj:=27) O O<|Ad O<|Af (dj:=27) O O<|B1 O<|B4 O<|Aj<|Ao O ?_ ?_
 ·intro f
  have f:¬a≤t.getD 2 default:=by have:=AC f;omega
  refine Ah<|Ab O<|Ab O<|Bz<|Bp O O O ?_
  rw [show CC t a=10 by rw [CC,l,Tw f];rfl]
  exact ⟨d,BF (by decide)⟩
 intro f
 have f:a≤t.getD 2 default:=by have:=AB f;omega
 have y:Hr t a=true:=by rw [Hr,decide_eq_true lt,decide_eq_true g,decide_eq_true f];rfl
 obtain ⟨A, -⟩:=H7 e g
 obtain ⟨B, -⟩:=H7 e f
 have v:HR t a=[t.getD 0 default,t.getD 1 default / a,t.getD 2 default / a]:=by unfold HR;rw [A,B]
 refine B2<|Aq<|Cw.tail 13 mixed (by kernel_rfl)<|Bt O<|Ai (fun e b=>Bf AD O O (Sl.bs ‹_› b) 0 O (by omega)) O ?_
 refine Ai (fun e b=>Bl (AI _) O (Sl.bs ‹_› b) (by omega)) O ?_
 refine Bt O<|Ai (fun e b=>Bf AD O O (Sl.bs ‹_› b) 1 O (by omega)) O ?_
 refine Ai (fun e b=>Bl (AI _) O (Sl.bs ‹_› b) (by omega)) O ?_
 refine Bt O<|Ai (fun e b=>Ez O O (by omega) (by omega)) O<|Bt O<|Ai (fun e b=>Bf AD O O (Sl.bs ‹_› b) 2 O (by omega)) O ?_
 refine Ai (fun e b=>Bl (AI _) O (Sl.bs ‹_› b) (by omega)) O ?_
 refine Bt O<|Ai (fun e b=>Ez O O (by omega) (by omega)) O ?_
 refine Qw.done (fun E b=> ?_)
 have d:=d.bs b
 have c:=c.bs b
 have z:=AA d
 refine Bq (C2 (vs:=(HR t a).map (Value.int .i64)) AD DT O (by rw [v];rfl) O O O) O ?_
 rintro x w ⟨p, -,i, -⟩
 have p:=DN p z
 have d:=d.bs i
 have c:=c.bs i
 refine Ab O<|Ab O<|Ay<|Bp O O O ?_
 rw [show CC t a=0 by simp [CC,l,y]]
 exact ⟨d,x,_,rfl,p,fun h=>absurd rfl h,fun _=>rfl⟩
theorem PG {t s:List Int} {a b:Int} (h:t.getD 1 default+2*b<s.getD 2 default∨t.getD 2 default+2*b<s.getD 3 default):Shapes.ok (Hi t s a b)=false:=by
 cases hk:Shapes.ok (Hi t s a b) with
 |false=>rfl
 |true=>
  have g:=((Shapes.ok_iff _).1 hk).2.1
  have e:(Hi t s a b).length=3:=rfl
  have d:1≤Hf (t.getD 1 default+2*b) (s.getD 2 default) a:=(CF g (k:=1) (by omega)).1
  have c:1≤Hf (t.getD 2 default+2*b) (s.getD 3 default) a:=(CF g (k:=2) (by omega)).1
  unfold Hf at d c
  rcases h with h|h
  ·rw [if_pos h] at d;omega
  ·rw [if_pos h] at c;omega
theorem OR (t s:List Int) (a c:Int) (u v:Value) (W:World) (f:CA (Value.int .i64) W u t) (e:CA (Value.int .i64) W v s):
  AJ prog 260 [u,v, .int .i64 a, .int .i64 c] W (fun r w' =>Below W.heap.size W w' ∧RK W w' r (CB t s a c) (Hi t s a c)):=by
 have i:=Below.refl W.heap.size W
 refine Bd (n:=110) func260 O<|Ah<|Ab O<|Ab O<|Bj<|Ad O<|An O O (DM u t _ f) ?_
 rintro _ w ⟨rfl,j⟩
 have i:=i.bs j
 have f:=f.bs j
 have e:=e.bs j
 refine Aa (Co O) O<|Ad O ?_
 refine Bx 14 O ?_ ?_
 ·intro A
  refine Ae (dj:=14) O O O O<|Ae (dj:=14) O O O O<|Ae (dj:=14) O O O O<|Bu O<|Ad O<|Ae (dj:=19) O O O O<|Ae (dj:=19) O O O O<|Bu O<|Ad O<|Ae (dj:=23) O O O O<|Ae (dj:=23) O O O O<|Bu O<|Ad O<|Ae (dj:=27) O O O O<|Ae (dj:=27) O O O O<|Bu O<|Ad O<|Ae (dj:=31) O O O O<|Ae (dj:=31) O O O O<|Bu O<|Aj<|B3 O<|Ah<|Ab O<|Ab O<|Bz<|Bp O O O ?_
  rw [show CB t s a c=1 by simp [CB,show EG t s a c=true by simp_all [EG]]]
  exact ⟨i,BF (by decide)⟩
 intro A
 refine Af (dj:=14) O O<|Ad O<|Af (dj:=14) O O<|An O O (DM v s _ e) ?_
 rintro _ w ⟨rfl,j⟩
 have i:=i.bs j
 have f:=f.bs j
 have e:=e.bs j
 refine Af (dj:=14) O O<|Aa (Co O) O<|B4 O<|Ad O ?_
 refine Bx 19 O ?_ ?_
 ·intro y
  refine Ae (dj:=19) O O O O<|Ae (dj:=19) O O O O<|Bu O<|Ad O<|Ae (dj:=23) O O O O<|Ae (dj:=23) O O O O<|Bu O<|Ad O<|Ae (dj:=27) O O O O<|Ae (dj:=27) O O O O<|Bu O<|Ad O<|Ae (dj:=31) O O O O<|Ae (dj:=31) O O O O<|Bu O<|Aj<|B3 O<|Ah<|Ab O<|Ab O<|Bz<|Bp O O O ?_
  rw [show CB t s a c=1 by simp [CB,show EG t s a c=true by simp_all [EG]]]
  exact ⟨i,BF (by decide)⟩
 intro y
 refine Af (dj:=19) O O<|Ad O<|Af (dj:=19) O O<|B1 O<|B4 O<|Ad O ?_
 refine Bx 23 O ?_ ?_
 ·intro D
  refine Ae (dj:=23) O O O O<|Ae (dj:=23) O O O O<|Bu O<|Ad O<|Ae (dj:=27) O O O O<|Ae (dj:=27) O O O O<|Bu O<|Ad O<|Ae (dj:=31) O O O O<|Ae (dj:=31) O O O O<|Bu O<|Aj<|B3 O<|Ah<|Ab O<|Ab O<|Bz<|Bp O O O ?_
  rw [show CB t s a c=1 by simp [CB,show EG t s a c=true by simp_all [EG]]]
  exact ⟨i,BF (by decide)⟩
 intro D
 refine Af (dj:=23) O O<|Ad O<|Af (dj:=23) O O<|Aa (Da O O) O<|B4 O<|Ad O ?_
 refine Bx 27 O ?_ ?_
 ·intro z
  refine Ae (dj:=27) O O O O<|Ae (dj:=27) O O O O<|Bu O<|Ad O<|Ae (dj:=31) O O O O<|Ae (dj:=31) O O O O<|Bu O<|Aj<|B3 O<|Ah<|Ab O<|Ab O<|Bz<|Bp O O O ?_
  rw [show CB t s a c=1 by simp [CB,show EG t s a c=true by simp_all [EG]]]
  exact ⟨i,BF (by decide)⟩
 intro z
 refine Af (dj:=27) O O<|Ad O<|Af (dj:=27) O O<|B1 O<|B4 O<|Ad O ?_
 refine Bx 31 O ?_ ?_
 ·intro B
  refine Ae (dj:=31) O O O O<|Ae (dj:=31) O O O O<|Bu O<|Aj<|B3 O<|Ah<|Ab O<|Ab O<|Bz<|Bp O O O ?_
  rw [show CB t s a c=1 by simp [CB,show EG t s a c=true by simp_all [EG]]]
  exact ⟨i,BF (by decide)⟩
 intro B
 have N:Shapes.ok t=true:=by simpa using A
 have J:Shapes.ok s=true:=by simpa using y
 have K:1≤a:=by simpa using D
 have G:a≤8:=by simpa using z
 have S:0≤c:=by simpa using B
 refine Af (dj:=31) O O<|Ad O<|Af (dj:=31) O O<|Aa (Da O O) O<|B4 O<|Aj<|Ao O ?_ ?_
 ·intro q
  refine Ah<|Ab O<|Ab O<|Bz<|Bp O O O ?_
  rw [show CB t s a c=1 by simp [CB,show EG t s a c=true by simp_all [EG]]]
  exact ⟨i,BF (by decide)⟩
 intro q
 have Q:c≤8:=by simpa using q
 have p:EG t s a c=false:=by simp_all [EG]
 clear A y D z B q
 have F:=(Shapes.ok_iff t).1 N
 have C:=(Shapes.ok_iff s).1 J
 refine B2<|Aq<|Aq<|C8 mixed (by kernel_rfl)<|Bt O<|Ai (fun d b=>Au AD O (Sl.bs ‹_› b)) O ?_
 refine Ai (fun d b=>Cn O O) O<|Bt O ?_
 refine Di 38 O ?_ ?_
 ·intro g
  refine As (dj:=38) O O O O<|As (dj:=38) O O O O<|As (dj:=38) O O O O<|Ai (fun d b=>Cy O O) O<|Bt O<|As (dj:=43) O O O O<|As (dj:=43) O O O O<|As (dj:=43) O O O O<|As (dj:=43) O O O O<|As (dj:=43) O O O O<|As (dj:=43) O O O O<|As (dj:=43) O O O O<|Ai (fun d b=>Cy O O) O<|Bt O<|As (dj:=52) O O O O<|As (dj:=52) O O O O<|As (dj:=52) O O O O<|As (dj:=52) O O O O<|As (dj:=52) O O O O<|As (dj:=52) O O O O<|As (dj:=52) O O O O<|As (dj:=52) O O O O<|As (dj:=52) O O O O<|As (dj:=52) O O O O<|Ai (fun d b=>Cy O O) O<|Bt O<|As (dj:=64) O O O O<|As (dj:=64) O O O O<|As (dj:=64) O O O O<|As (dj:=64) O O O O<|As (dj:=64) O O O O<|As (dj:=64) O O O O<|As (dj:=64) O O O O<|As (dj:=64) O O O O<|As (dj:=64) O O O O<|As (dj:=64) O O O O<|Ai (fun d b=>Cy O O) O ?_
  refine C1 (fun d b=> ?_)
  refine Av<|B8<|B3 O<|Ah<|Ab O<|Ab O<|Bz<|Bp O O O ?_
  rw [show CB t s a c=10 by rw [CB,p,PJ (fun h=>by simp [h] at g)];rfl]
  exact ⟨bt i b,BF (by decide)⟩
 intro H
 have lt:t.length=3:=by have:=H;simp at this;omega
 refine Az (dj:=38) O O<|Bt O<|Az (dj:=38) O O<|Ai (fun d b=>Au AD O (Sl.bs ‹_› b)) O ?_
 refine Az (dj:=38) O O<|Ai (fun d b=>Cn O O) O<|Ai (fun d b=>Cx O O) O<|Bt O ?_
 refine Di 43 O ?_ ?_
 ·intro g
  refine As (dj:=43) O O O O<|As (dj:=43) O O O O<|As (dj:=43) O O O O<|As (dj:=43) O O O O<|As (dj:=43) O O O O<|As (dj:=43) O O O O<|As (dj:=43) O O O O<|Ai (fun d b=>Cy O O) O<|Bt O<|As (dj:=52) O O O O<|As (dj:=52) O O O O<|As (dj:=52) O O O O<|As (dj:=52) O O O O<|As (dj:=52) O O O O<|As (dj:=52) O O O O<|As (dj:=52) O O O O<|As (dj:=52) O O O O<|As (dj:=52) O O O O<|As (dj:=52) O O O O<|Ai (fun d b=>Cy O O) O<|Bt O<|As (dj:=64) O O O O<|As (dj:=64) O O O O<|As (dj:=64) O O O O<|As (dj:=64) O O O O<|As (dj:=64) O O O O<|As (dj:=64) O O O O<|As (dj:=64) O O O O<|As (dj:=64) O O O O<|As (dj:=64) O O O O<|As (dj:=64) O O O O<|Ai (fun d b=>Cy O O) O ?_
  refine C1 (fun d b=> ?_)
  refine Av<|B8<|B3 O<|Ah<|Ab O<|Ab O<|Bz<|Bp O O O ?_
  rw [show CB t s a c=10 by rw [CB,p,PI (fun h=>by simp [h] at g)];rfl]
  exact ⟨bt i b,BF (by decide)⟩
 intro I
 have ls:s.length=4:=by have:=I;simp at this;omega
 have Z:=CF F.2.1 (k:=1) (by omega)
 have R:=CF F.2.1 (k:=2) (by omega)
 have V:=CF C.2.1 (k:=0) (by omega)
 have T:=CF C.2.1 (k:=2) (by omega)
 have s3:=CF C.2.1 (k:=3) (by omega)
 refine Az (dj:=43) O O<|Bt O<|Az (dj:=43) O O<|Ai (fun d b=>Bf AD O O (Sl.bs ‹_› b) 0 O (by omega)) O ?_
 refine Az (dj:=43) O O<|Ai (fun d b=>Bl (AI _) O (Sl.bs ‹_› b) (by omega)) O ?_
 refine Az (dj:=43) O O<|Bt O<|Az (dj:=43) O O<|Ai (fun d b=>Bf AD O O (Sl.bs ‹_› b) 1 O (by omega)) O ?_
 refine Az (dj:=43) O O<|Ai (fun d b=>Bl (AI _) O (Sl.bs ‹_› b) (by omega)) O ?_
 refine Az (dj:=43) O O<|Ai (fun d b=>Cn O O) O<|Ai (fun d b=>Cx O O) O<|Bt O ?_
 refine Di 52 O ?_ ?_
 ·intro g
  refine As (dj:=52) O O O O<|As (dj:=52) O O O O<|As (dj:=52) O O O O<|As (dj:=52) O O O O<|As (dj:=52) O O O O<|As (dj:=52) O O O O<|As (dj:=52) O O O O<|As (dj:=52) O O O O<|As (dj:=52) O O O O<|As (dj:=52) O O O O<|Ai (fun d b=>Cy O O) O<|Bt O<|As (dj:=64) O O O O<|As (dj:=64) O O O O<|As (dj:=64) O O O O<|As (dj:=64) O O O O<|As (dj:=64) O O O O<|As (dj:=64) O O O O<|As (dj:=64) O O O O<|As (dj:=64) O O O O<|As (dj:=64) O O O O<|As (dj:=64) O O O O<|Ai (fun d b=>Cy O O) O ?_
  refine C1 (fun d b=> ?_)
  refine Av<|B8<|B3 O<|Ah<|Ab O<|Ab O<|Bz<|Bp O O O ?_
  rw [show CB t s a c=10 by rw [CB,p,PH (fun h=>by rw [decide_eq_true h] at g;cases g)];rfl]
  exact ⟨bt i b,BF (by decide)⟩
 intro E
 have X:J3 t s=true:=by
  have:t.getD 0 default=s.getD 1 default:=by simpa only [Bool.not_eq_false',decide_eq_true_eq] using E
  rw [J3,decide_eq_true lt,decide_eq_true ls,decide_eq_true this];rfl
 refine Az (dj:=52) O O<|Bt O<|Az (dj:=52) O O<|Ai (fun d b=>Bf AD O O (Sl.bs ‹_› b) 1 O (by omega)) O ?_
 refine Az (dj:=52) O O<|Ai (fun d b=>Bl (AI _) O (Sl.bs ‹_› b) (by omega)) O ?_
 refine Az (dj:=52) O O<|Bt O<|Az (dj:=52) O O<|Ai (fun d b=>D8 O O (by omega)) O<|Az (dj:=52) O O<|Ai (fun d b=>Dx O O (by omega)) O<|Az (dj:=52) O O<|Bt O<|Az (dj:=52) O O<|Ai (fun d b=>Bf AD O O (Sl.bs ‹_› b) 2 O (by omega)) O ?_
 refine Az (dj:=52) O O<|Ai (fun d b=>Bl (AI _) O (Sl.bs ‹_› b) (by omega)) O ?_
 refine Az (dj:=52) O O<|Ai (fun d b=>Ep O O) O<|Ai (fun d b=>Cx O O) O<|Bt O ?_
 refine Di 64 O ?_ ?_
 ·intro g
  have g:=AC g
  refine As (dj:=64) O O O O<|As (dj:=64) O O O O<|As (dj:=64) O O O O<|As (dj:=64) O O O O<|As (dj:=64) O O O O<|As (dj:=64) O O O O<|As (dj:=64) O O O O<|As (dj:=64) O O O O<|As (dj:=64) O O O O<|As (dj:=64) O O O O<|Ai (fun d b=>Cy O O) O ?_
  refine C1 (fun d b=> ?_)
  refine Av<|B8<|B3 O<|Ah<|Ab O<|Ab O<|Bz<|Bp O O O ?_
  rw [show CB t s a c=10 by rw [CB,p,PG (.inl g),Bool.and_false];rfl]
  exact ⟨bt i b,BF (by decide)⟩
 intro m
 have m:=AB m
 refine Az (dj:=64) O O<|Bt O<|Az (dj:=64) O O<|Ai (fun d b=>Bf AD O O (Sl.bs ‹_› b) 2 O (by omega)) O ?_
 refine Az (dj:=64) O O<|Ai (fun d b=>Bl (AI _) O (Sl.bs ‹_› b) (by omega)) O ?_
 refine Az (dj:=64) O O<|Bt O<|Az (dj:=64) O O<|Ai (fun d b=>D8 O O (by omega)) O<|Az (dj:=64) O O<|Ai (fun d b=>Dx O O (by omega)) O<|Az (dj:=64) O O<|Bt O<|Az (dj:=64) O O<|Ai (fun d b=>Bf AD O O (Sl.bs ‹_› b) 3 O (by omega)) O ?_
 refine Az (dj:=64) O O<|Ai (fun d b=>Bl (AI _) O (Sl.bs ‹_› b) (by omega)) O ?_
 refine Az (dj:=64) O O<|Ai (fun d b=>Ep O O) O<|Ai (fun d b=>Cx O O) O ?_
 refine C1 (fun d b=> ?_)
 refine Av<|B8<|Ao O ?_ ?_
 ·intro g
  have g:=AC g
  refine Ah<|Ab O<|Ab O<|Bz<|Bp O O O ?_
  rw [show CB t s a c=10 by rw [CB,p,PG (.inr g),Bool.and_false];rfl]
  exact ⟨bt i b,BF (by decide)⟩
 intro l
 have l:=AB l
 have i:=i.bs b
 have f:=f.bs b
 have e:=e.bs b
 clear b H I E
 have U:=Int.ediv_le_self a (show 0≤t.getD 1 default+2*c - s.getD 2 default by omega)
 have q2:=Int.ediv_nonneg (show 0≤t.getD 1 default+2*c - s.getD 2 default by omega) (show 0≤a by omega)
 have Y:=Int.ediv_le_self a (show 0≤t.getD 2 default+2*c - s.getD 3 default by omega)
 have q4:=Int.ediv_nonneg (show 0≤t.getD 2 default+2*c - s.getD 3 default by omega) (show 0≤a by omega)
 have L:Hi t s a c=[s.getD 0 default,(t.getD 1 default+2*c - s.getD 2 default) / a+1,(t.getD 2 default+2*c - s.getD 3 default) / a+1]:=by
  unfold Hi Hf;rw [if_neg m,if_neg l]
 refine B2<|Aq<|Cw.tail 29 mixed (by kernel_rfl)<|Bt O<|Ai (fun d b=>Bf AD O O (Sl.bs ‹_› b) 0 O (by omega)) O ?_
 refine Ai (fun d b=>Bl (AI _) O (Sl.bs ‹_› b) (by omega)) O ?_
 refine Bt O<|Ai (fun d b=>Bf AD O O (Sl.bs ‹_› b) 1 O (by omega)) O ?_
 refine Ai (fun d b=>Bl (AI _) O (Sl.bs ‹_› b) (by omega)) O ?_
 refine Bt O<|Ai (fun d b=>D8 O O (by omega)) O<|Ai (fun d b=>Dx O O (by omega)) O<|Bt O<|Ai (fun d b=>Bf AD O O (Sl.bs ‹_› b) 2 O (by omega)) O ?_
 refine Ai (fun d b=>Bl (AI _) O (Sl.bs ‹_› b) (by omega)) O ?_
 refine Ai (fun d b=>Ec O O (by omega)) O<|Bt O<|Ai (fun d b=>Ez O O (by omega) (by omega)) O<|Ai (fun d b=>Dx O O (by omega)) O<|Bt O<|Ai (fun d b=>Bf AD O O (Sl.bs ‹_› b) 2 O (by omega)) O ?_
 refine Ai (fun d b=>Bl (AI _) O (Sl.bs ‹_› b) (by omega)) O ?_
 refine Bt O<|Ai (fun d b=>D8 O O (by omega)) O<|Ai (fun d b=>Dx O O (by omega)) O<|Bt O<|Ai (fun d b=>Bf AD O O (Sl.bs ‹_› b) 3 O (by omega)) O ?_
 refine Ai (fun d b=>Bl (AI _) O (Sl.bs ‹_› b) (by omega)) O ?_
 refine Ai (fun d b=>Ec O O (by omega)) O<|Bt O<|Ai (fun d b=>Ez O O (by omega) (by omega)) O<|Ai (fun d b=>Dx O O (by omega)) O ?_
 refine Qw.done (fun w2 b=> ?_)
 have i:=i.bs b
 have f:=f.bs b
 have e:=e.bs b
 have M:=AA i
 refine Bq (C2 (vs:=(Hi t s a c).map (Value.int .i64)) AD DT O (by rw [L];rfl) O O O) O ?_
 rintro x w ⟨o, -,j, -⟩
 have o:=DN o M
 have i:=i.bs j
 have f:=f.bs j
 have e:=e.bs j
 refine Ab O<|Bj<|Ad O<|An O O (DM x (Hi t s a c) _ (BD o)) ?_
 rintro _ w ⟨rfl,j⟩
 have i:=i.bs j
 have f:=f.bs j
 have e:=e.bs j
 have o:=o.bs j
 refine Aa (Co O) O<|Aj<|Ao O ?_ ?_
 ·intro g
  refine Ah<|Ab O<|Ab O<|Bz<|Bp O O O ?_
  rw [show CB t s a c=10 by simp_all [CB]]
  exact ⟨i,BF (by decide)⟩
 intro g
 refine Cp<|Ad O<|Ab O<|Ab O<|Ay<|Bp O O O ?_
 rw [show CB t s a c=0 by simp_all [CB]]
 exact ⟨i,x,_,rfl,o,fun h=>absurd rfl h,fun _=>rfl⟩
def RP (A:Nat) (x:Value) (B:Nat) (w1:World) (F:Nat→BitVec 32) (n:Nat) (w' :World):Prop:=
 ∃lv,AN w' A 75 [x,lv]∧w'.ownsRow B 21 1 lv n (((List.range n).map F).map i32)∧Below B w1 w'
theorem RP.bel {A B n:Nat} {x:Value} {a w' :World} {F:Nat→BitVec 32} (h:RP A x B a F n w'):Below B a w' :=by obtain ⟨_,_,_,h⟩:=h;exact h
end Go.Proofs.YtblbopcaflaldaaGreatDoor

namespace Go.Dd
open Go Go.RowKit
open List hiding prod
namespace Shapes
end Shapes
open Shapes
def pl (s:List Int) (l:List (BitVec 32)) (p:List Int):BitVec 32:=l.getD (idx s p).toNat default
def mk (s:List Int) (f:List Int→BitVec 32):List (BitVec 32):=(List.range (prod s).toNat).map fun i:Nat=>f (LZ s (i:Int))
def wo (s:List Int) (k:Nat):List Int:=s.take k++s.drop (k+1)
def UT (k:Nat) (j:Int) (q:List Int):List Int:=q.take k++j::q.drop k
theorem OO {s:List Int} {k:Nat} (h:k<s.length):(wo s k).length=s.length - 1:=by
 unfold wo;rw [length_append,length_take,length_drop];omega
theorem MW {s:List Int} {k:Nat} (h:s.length≠1):EW s k=wo s k:=by unfold EW;rw [if_neg h];rfl
def K3 (l:List (BitVec 32)):BitVec 32:=sm l.length fun i=>l.getD i default
end Go.Dd

namespace Go.Proofs.YtblbopcaflaldaaGreatDoor
open Go Go.Dd Go.RowKit List Go.Proofs.Tryz
set_option maxRecDepth 100000
theorem OT (u v:Value) (s o:List Int) (W:World) (t:CA (Value.int .i64) W u s) (l:CA (Value.int .i64) W v o) (E:∀j,j<o.length→0≤o.getD j default∧o.getD j default<(s.length:Int)) (K:o.length≤4):
  AJ prog 262 [u,v] W (fun r w' =>Below W.heap.size W w' ∧w'.ownsRow W.heap.size 3 1 r o.length ((turn s o).map (Value.int .i64))):=by
 refine Bd (n:=24) func262 O<|Ah<|Ab O<|Bg<|Ab O<|Bj<|Ab O<|Aj<|Ar ?_
 refine Bo (S:=(Nat×Value)) (fun z=>[(0,u),(1,v),(5,z.2),(6, .int .i64 (z.1:Int))]) (fun z w' =>z.1≤o.length∧Below W.heap.size W w' ∧w'.ownsRow W.heap.size 3 1 z.2 z.1 (((turn s o).take z.1).map (Value.int .i64))) (fun z=>o.length - z.1) ((0, .slice none 0 0)) ⟨rfl,rfl,rfl,rfl,trivial⟩ ?_ ?_
 ·exact ⟨Nat.zero_le _,Below.refl _ _,World.ownsRow_nil _ _ _ _⟩
 rintro ⟨i,x⟩ I ⟨G,b,c⟩
 dsimp only at G c ⊢
 have d:=t.bs b
 have h:=l.bs b
 have A:=b.size
 refine Aq<|Ah<|Ad O<|Ad O<|Aa (Au AD O ‹_›) O ?_
 refine B1 O<|Aj<|Ao O ?_ ?_
 ·intro g
  have a:i<o.length:=by have:=AC g;omega
  have F:=E i a
  obtain ⟨k,w⟩:∃k:Nat,o.getD i default=(k:Int):=⟨_,(Int.toNat_of_nonneg F.1).symm⟩
  have m:k<s.length:=by omega
  have lt:=FY s o
  have H:(turn s o).take (i+1)=(turn s o).take i++[s.getD k default]:=by
   have e:(turn s o).getD i default=s.getD k default:=by rw [RV a,w,Int.toNat_natCast]
   have f:i<(turn s o).length:=by omega
   rw [take_succ_eq_append_getElem f,← e];simp [f]
  refine B2<|Aq<|Ar<|Bh<|Ad O<|Ad O<|Ad O<|Ad O<|Aa (Bf AD O O ‹_› _ O (by omega)) O ?_
  refine Aa ((Bl (AI _) O h a).as (cngA (Value.int .i64) w)) O<|Aa (Bf AD O O d k O m) O<|Aa (Bl (AI _) O ‹_› (by omega)) O ?_
  refine Bq (C2 (vs:=[s.getD k default].map (Value.int .i64)) AD DT O O O O O) O ?_
  rintro q L ⟨D, -,C, -⟩
  have c:=AH c C
  have b:=bt b C
  have A:=b.size
  refine Bq (Dl (base:=W.heap.size) AD DT O (by decide) O O c (AG D) (EI (fun _=>rfl) _) (by omega) (by omega) A) O ?_
  rintro y J ⟨B,p, -⟩
  have b:=b.trans p
  rw [← map_append,← H] at B
  refine Ab O<|Be<|Bi<|Cd<|Ad O<|B9 O (by omega)<|Ab O<|Be ?_
  exact Av (Bw ((i+1,y)) ⟨rfl,rfl,rfl,rfl,trivial⟩ (⟨a,b,B⟩) (by simp only;omega))
 intro g
 have a:i=o.length:=by have:=AB g;omega
 rw [a,take_of_length_le (by rw [FY];exact AX _)] at c
 exact Bn<|Al<|Al<|Bc<|Ci<|Ad rfl<|Ab rfl<|Ay<|Ax rfl rfl<|⟨b,c⟩
theorem RO {s:List Int} {k i:Nat} (h:i<s.length):wo (s.take (i+1)) k=if i=k then wo (s.take i) k else wo (s.take i) k++[s.getD i default]:=by
 have e:s.take (i+1)=s.take i++[s.getD i default]:=by rw [take_succ_eq_append_getElem h];simp [h]
 have l:(s.take i).length=i:=by rw [length_take];omega
 unfold wo
 rw [e,take_append,drop_append,l]
 by_cases g:i=k
 ·subst g
  rw [if_pos rfl,Nat.sub_self,take_zero,append_nil,drop_of_length_le (by rw [l];omega)]
  rw [drop_of_length_le (by simp)]
  simp
 ·rw [if_neg g]
  rcases Nat.lt_or_ge i k with b|b
  ·have a:(s.take i).drop (k+1)=[]:=drop_of_length_le (by omega)
   have d:[s.getD i default].drop (k+1 - i)=[]:=drop_of_length_le (by simp;omega)
   have c:[s.getD i default].take (k - i)=[s.getD i default]:=take_of_length_le (by simp;omega)
   rw [a,d,c];simp
  ·rw [show k - i=0 by omega,show k+1 - i=0 by omega,take_zero,drop_zero,append_nil,append_assoc]
def RQ (s:List Int) (k:Nat):List Int:=if (wo s k).length=0 then [1] else wo s k
theorem Ti {s:List Int} {k:Nat} (a:k<s.length):RQ s k=EW s k:=by
 have b:=OO a
 unfold RQ
 by_cases g:s.length=1
 ·rw [if_pos (by omega)];unfold EW;rw [if_pos g]
 ·rw [if_neg (by omega),MW g]
theorem LS (u:Value) (s:List Int) (k:Nat) (W:World) (m:CA (Value.int .i64) W u s) (D:s.length≤4):
  AJ prog 264 [u, .int .i64 (k:Int)] W (fun r w' =>Below W.heap.size W w' ∧w'.ownsRow W.heap.size 3 1 r (RQ s k).length ((RQ s k).map (Value.int .i64))):=by
 refine Bd (n:=28) func264 O<|Ah<|Ab O<|Bg<|Ab O<|Bj<|Ab O<|Aj<|Ar ?_
 refine Bo (S:=(Nat×Value)) (fun z=>[(0,u),(1, .int .i64 (k:Int)),(5,z.2),(6, .int .i64 (z.1:Int))]) (fun z w' =>z.1≤s.length∧Below W.heap.size W w' ∧w'.ownsRow W.heap.size 3 1 z.2 (wo (s.take z.1) k).length ((wo (s.take z.1) k).map (Value.int .i64))) (fun z=>s.length - z.1) ((0, .slice none 0 0)) ⟨rfl,rfl,rfl,rfl,trivial⟩ ?_ ?_
 ·exact ⟨Nat.zero_le _,Below.refl _ _,by show W.ownsRow _ _ _ _ (wo (s.take 0) k).length ((wo (s.take 0) k).map _);rw [show wo (s.take 0) k=[] by simp [wo]];exact World.ownsRow_nil _ _ _ _⟩
 rintro ⟨i,x⟩ v ⟨B,c,d⟩
 dsimp only at B d ⊢
 have p:=m.bs c
 have l:=c.size
 have E:(wo (s.take i) k).length≤i:=by
  unfold wo
  rw [length_append,length_take,length_drop,length_take];omega
 refine Aq<|Ah<|Ad O<|Ad O<|Aa (Au AD O ‹_›) O ?_
 refine B1 O<|Aj<|Ao O ?_ ?_
 ·intro g
  have b:i<s.length:=by have:=AC g;omega
  have e:=RO (k:=k) b
  refine B2<|Aq<|Ar<|Ah<|Ad O<|Ad O<|Aa (Cn O O) O<|Aj<|Ao O ?_ ?_
  ·intro a
   have a:¬i=k:=by have:=a;simp at this;omega
   rw [if_neg a] at e
   refine Bh<|Ad O<|Ad O<|Ad O<|Aa (Bf AD O O ‹_› _ O (by omega)) O ?_
   refine Aa (Bl (AI _) O ‹_› (by omega)) O ?_
   refine Bq (C2 (vs:=[s.getD i default].map (Value.int .i64)) AD DT O O O O O) O ?_
   rintro q C ⟨h, -,f, -⟩
   have d:=AH d f
   have c:=bt c f
   have l:=c.size
   refine Bq (Dl (base:=W.heap.size) AD DT O (by decide) O O d (AG h) (EI (fun _=>rfl) _) (by omega) (by omega) l) O ?_
   rintro y w ⟨t,j, -⟩
   have c:=c.trans j
   rw [← map_append,← e] at t
   have o:w.ownsRow W.heap.size 3 1 y (wo (s.take (i+1)) k).length ((wo (s.take (i+1)) k).map (Value.int .i64)):=by rw [e,length_append,← e];exact t
   refine Ab O<|Be<|Bi<|Cd<|Ad O<|B9 O (by omega)<|Ab O<|Be ?_
   exact Av (Bw ((i+1,y)) ⟨rfl,rfl,rfl,rfl,trivial⟩ (⟨b,c,o⟩) (by simp only;omega))
  intro a
  have a:i=k:=by have:=a;simp at this;omega
  rw [if_pos a] at e
  refine Ca<|Bi<|Cd<|Ad O<|B9 O (by omega)<|Ab O<|Be ?_
  exact Av (Bw ((i+1,x)) ⟨rfl,rfl,rfl,rfl,trivial⟩ (⟨b,c,by show v.ownsRow _ _ _ _ (wo (s.take (i+1)) k).length ((wo (s.take (i+1)) k).map _);rw [e];exact d⟩) (by simp only;omega))
 intro g
 have b:i=s.length:=by have:=AB g;omega
 rw [b,take_length] at d
 have A:=BD d
 refine Bn<|Al<|Al<|Bc<|Av<|B8<|Aq<|Ah<|Ad O<|Aa (Au AD O ‹_›) O ?_
 refine Aa (Cl O O) O<|Aj<|Ao O ?_ ?_
 ·intro a
  have a:(wo s k).length=0:=by have:=AC a;omega
  refine Bh<|Bq (C2 (vs:=[(1:Int)].map (Value.int .i64)) AD DT O O O O O) O ?_
  rintro q C ⟨h, -,f, -⟩
  refine Ab O<|Bg<|Ad O<|Ab O<|Ay<|Ax O O ?_
  rw [show RQ s k=[1] by unfold RQ;rw [if_pos a]]
  exact ⟨bt c f,DN h l⟩
 intro a
 have a:¬(wo s k).length=0:=by have:=AB a;omega
 refine Cp<|Ad O<|Ab O<|Ay<|Ax O O ?_
 rw [show RQ s k=wo s k by unfold RQ;rw [if_neg a]]
 exact ⟨c,d⟩

theorem QI {s:List Int} (h:Shapes.ok s=true) {i:Nat} (a:i<s.length):1≤s.getD i default∧s.getD i default≤64:=by
 have:=((Shapes.ok_iff s).1 h).2.1 s[i] (getElem_mem a)
 simpa [a] using this
theorem Ux {m n:Int} (b:1≤m∧m≤64) (c:1≤n∧n≤64) (h:m*n≤4096):Shapes.ok [m,n]=true:=by
 rw [Shapes.ok_iff]
 refine ⟨by simp,fun x a=> ?_,by simp [Shapes.prod];omega⟩
 simp at a
 rcases a with rfl|rfl<;>assumption
theorem UD {l:List (List Int)} {n:Int} (i:1≤l.length) (g:l.length≤4) (c:∀s ∈ l,Shapes.ok s=true) (j:0≤n):
  decide (N8 l n=0)=Shapes.ok (OA l n.toNat)∧(N8 l n=0→TM l n=some (OA l n.toNat)):=by
 have a:∀s,Kc n.toNat (l.headD []) l.tail=some s→s.length=(l.headD []).length:=fun s h=>Lt _ _ _ h
 have b:Shapes.ok []=false:=by decide
 by_cases hA:((l.headD []).length:Int)≤n
 ·have d:N8 l n=1:=by
   unfold N8 QY
   rw [decide_eq_true hA];simp
  have f:OA l n.toNat=[]:=by
   unfold OA
   cases hs:Kc n.toNat (l.headD []) l.tail with
   |none=>rfl
   |some s=>
    have:=a s hs
    show (if n.toNat<s.length then s else [])=[]
    rw [if_neg (by omega)]
  rw [d,f]
  exact ⟨by rw [b];rfl,fun h=>by cases h⟩
 ·have e:QY l n=false:=by
   unfold QY
   rw [decide_eq_false (show ¬l.length<1 by omega),decide_eq_false (show ¬4<l.length by omega),decide_eq_false (show ¬n<0 by omega),decide_eq_false hA]
   rw [List.any_eq_false.2 fun s hs=>by rw [c s hs];decide]
   rfl
  have d:N8 l n=US (TM l n):=by unfold N8;rw [e];rfl
  rw [d]
  unfold TM OA
  cases hs:Kc n.toNat (l.headD []) l.tail with
  |none=>exact ⟨by show decide ((10:Int)=0)=Shapes.ok [];rw [b];rfl,fun h=>by cases h⟩
  |some s=>
   have:=a s hs
   have f:(if n.toNat<s.length then s else [])=s:=if_pos (by omega)
   show decide (US (some s)=0)=Shapes.ok (if n.toNat<s.length then s else [])∧(_→some s=some (if n.toNat<s.length then s else []))
   rw [f]
   refine ⟨?_,fun _=>rfl⟩
   show decide ((if Shapes.ok s=true then (0:Int) else 10)=0)=_
   cases Shapes.ok s<;>rfl
def Ui (w:World) (r:Value) (G:List Int):Prop:=∃u s,r= .tuple #[u, .bool (Shapes.ok G)]∧CA (Value.int .i64) w u s∧(Shapes.ok G=true→s=G)
theorem EX {w:World} {u:Value} {s G:List Int} {b:Bool} (hs:CA (Value.int .i64) w u s) (a:b=Shapes.ok G) (h:b=true→s=G):Ui w (.tuple #[u, .bool b]) G:=by
 subst a;exact ⟨u,s,rfl,hs,h⟩
theorem EY {w:World} {u:Value} {G:List Int} (hs:CA (Value.int .i64) w u G) (a:Shapes.ok G=true):Ui w (.tuple #[u, .bool true]) G:=EX hs a.symm fun _=>rfl
theorem Q9 {a b:List Int} (e:FH a b=0):Shapes.ok [a.getD 0 default,b.getD 1 default]=true:=by
 unfold FH at e
 split at e
 ·rename_i c
  rw [Bool.and_eq_true] at c
  split at e
  ·rename_i h
   have d:=QI c.1 (i:=0) (by omega)
   have f:=QI c.2 (i:=1) (by omega)
   have g:a.getD 0 default*b.getD 1 default≤4096:=by
    have:=Int.mul_le_mul d.2 f.2 (by omega) (by omega)
    omega
   exact Ux d f g
  ·cases e
 ·cases e
theorem Th {t s:List Int} {a b:Int} (e:CB t s a b=0):Shapes.ok (Hi t s a b)=true:=by
 unfold CB at e
 split at e
 ·cases e
 ·split at e
  ·rename_i h;rw [Bool.and_eq_true] at h;exact h.2
  ·cases e
theorem Tv {t:List Int} {n:Int} (a:Shapes.ok t=true) (e:CC t n=0):Shapes.ok (HR t n)=true:=
 (Sr (t:=⟨.slice none 0 0, .slice none 0 0,t,replicate (Shapes.size t).toNat 0#32⟩) (by
  unfold Uy
  show (Shapes.ok t && decide ((((replicate (Shapes.size t).toNat 0#32).length:Nat):Int)=Shapes.size t))=true
  have b:0<Shapes.size t:=AC a
  rw [a,Bool.true_and,length_replicate,decide_eq_true_iff]
  omega) e).ok
theorem Lc {ps:List (Value×List Int)} (h:ps.length=2):∃a b,ps=[a,b]:=by
 match ps,h with
 |[a,b],_=>exact ⟨a,b,rfl⟩
theorem IM {ps:List (Value×List Int)} (h:1≤ps.length):∃a l,ps=a::l:=by
 match ps,h with
 |a::l,_=>exact ⟨a,l,rfl⟩
set_option maxHeartbeats 800000 in
theorem OY (x:N5) (v:Value) (ps:List (Value×List Int)) (W:World) (hx:N5.at W x) (h:LI W v ps) (A:CQ x.k x.i x.s x.n x.p=true) (hl:ps.length=x.i.length) (C:∀p ∈ ps,Shapes.ok p.2=true):
  AJ prog 233 [x.v,v] W (fun r w' =>Below W.heap.size W w' ∧Ui w' r (K8 x.k x.s x.n x.p (AP ps))):=by
 have E:=Below.refl W.heap.size W
 obtain ⟨G,L⟩:∃G,G=K8 x.k x.s x.n x.p (AP ps):=⟨_,rfl⟩
 rw [← L]
 have F:=hx.s
 refine Bd (n:=141) func233 O<|Ah<|C0 (cs:=x.cells) O O O ?_
 rintro A_x w eA_x M I -
 have E:=E.bs I
 have F:=F.bs I
 have h:=h.bs I
 refine Ab O<|Ab O<|Bj<|A0 underlying79 O (DA _)<|Aa (Ak (DG _) O ‹_› rfl) O ?_
 refine Aj<|Ar<|Aq<|Ah<|Aa (B0 O (show _=some (b8 (1#8)) from rfl)) O<|Ab O<|Aj<|Ao O ?_ ?_
 ·intro q
  have g:x.k=1#8:=AC q
  refine B2<|Bv O true (q)<|Ah<|A0 underlying79 O (AU _)<|Aa (Ak (AK _) O ‹_› rfl) O ?_
  refine Ab O<|Ab O<|Ay<|Ba<|Ap<|Bp O O O ?_
  have t:G=x.s:=by rw [L,g];rfl
  have H:Shapes.ok x.s=true:=(AR (by rw [g] at A;exact A) TK).2
  exact ⟨E,EY (t ▸ F) (by rw [t];exact H)⟩
 intro q1
 refine Bh<|Aa (B0 O (show _=some (b8 (2#8)) from rfl)) O<|Ab O<|Aj<|Ao O ?_ ?_
 ·intro q
  have g:x.k=2#8:=AC q
  refine Ah<|A0 underlying79 O (AU _)<|Aa (Ak (AK _) O ‹_› rfl) O ?_
  refine Ab O<|Ab O<|Ay<|Ba<|Ap<|Bp O O O ?_
  have t:G=x.s:=by rw [L,g];rfl
  have H:Shapes.ok x.s=true:=(AR (by rw [g] at A;exact A) TJ).2
  exact ⟨E,EY (t ▸ F) (by rw [t];exact H)⟩
 intro q2
 refine Aq<|Ah<|Aa (B0 O (show _=some (b8 (3#8)) from rfl)) O<|Ab O<|Aj<|Ao O ?_ ?_
 ·intro q
  have g:x.k=3#8:=AC q
  refine B2<|Bv O true (q)<|Aq ?_
  have l2:ps.length=2:=by have:=(AR (by rw [g] at A;exact A) TI).1;omega
  obtain ⟨a,b,rfl⟩:=Lc l2
  have D:a ∈ [a,b]:=by simp
  have Q:b ∈ [a,b]:=by simp
  have z:=C a D
  have U:=C b Q
  have y:=h.each a D
  have J:=h.each b Q
  have d:=h.sl
  clear l2
  have t:G=if a.2=b.2 then a.2 else []:=by rw [L,g];rfl
  refine C8 mixed (by kernel_rfl)<|Bt O<|Ai (fun c o=>Bf AQ O O (d.bs o) 0 O (Nat.zero_lt_succ _)) O<|Ai (fun c o=>Ex.as (Bl (AK _) O (d.bs o) (Nat.zero_lt_succ _)) O) O<|Bt O<|Ai (fun c o=>Bf AQ O O (d.bs o) 0 O (Nat.zero_lt_succ _)) O<|Ai (fun c o=>Ex.as (Bl (AK _) O (d.bs o) (Nat.zero_lt_succ _)) O) O<|Bt O<|Ai (fun c o=>Bf AQ O O (d.bs o) 1 O (show 1<2 by decide)) O<|Ai (fun c o=>Ex.as (Bl (AK _) O (d.bs o) (show 1<2 by decide)) O) O<|C3 O O (fun c o=>(LV a.1 b.1 a.2 b.2 _ (y.bs o) (J.bs o)).q o)<|D7 O<|D7 O ?_
  refine C1 (fun N o=> ?_)
  refine Av<|B8<|Ea<|Ba<|Ap<|Bp O O O ?_
  refine ⟨bt E o,EX (y.bs o) ?_ fun e=> ?_⟩
  ·rw [t]
   by_cases e:a.2=b.2
   ·rw [if_pos e,z,decide_eq_true e]
   ·rw [if_neg e,decide_eq_false e];rfl
  ·rw [t,if_pos (AC e)]
 intro q3
 refine Bh<|Aa (B0 O (show _=some (b8 (4#8)) from rfl)) O<|Ab O<|Aj<|Ao O ?_ ?_
 ·intro q
  have g:x.k=4#8:=AC q
  have l2:ps.length=2:=by have:=(AR (by rw [g] at A;exact A) TH).1;omega
  obtain ⟨a,b,rfl⟩:=Lc l2
  have D:a ∈ [a,b]:=by simp
  have Q:b ∈ [a,b]:=by simp
  have z:=C a D
  have U:=C b Q
  have y:=h.each a D
  have J:=h.each b Q
  have d:=h.sl
  clear l2
  have t:G=if a.2=b.2 then a.2 else []:=by rw [L,g];rfl
  refine Aq<|C8 mixed (by kernel_rfl)<|Bt O<|Ai (fun c o=>Bf AQ O O (d.bs o) 0 O (Nat.zero_lt_succ _)) O<|Ai (fun c o=>Ex.as (Bl (AK _) O (d.bs o) (Nat.zero_lt_succ _)) O) O<|Bt O<|Ai (fun c o=>Bf AQ O O (d.bs o) 0 O (Nat.zero_lt_succ _)) O<|Ai (fun c o=>Ex.as (Bl (AK _) O (d.bs o) (Nat.zero_lt_succ _)) O) O<|Bt O<|Ai (fun c o=>Bf AQ O O (d.bs o) 1 O (show 1<2 by decide)) O<|Ai (fun c o=>Ex.as (Bl (AK _) O (d.bs o) (show 1<2 by decide)) O) O<|C3 O O (fun c o=>(LV a.1 b.1 a.2 b.2 _ (y.bs o) (J.bs o)).q o)<|D7 O<|D7 O ?_
  refine C1 (fun N o=> ?_)
  refine Av<|B8<|Ea<|Ba<|Ap<|Bp O O O ?_
  refine ⟨bt E o,EX (y.bs o) ?_ fun e=> ?_⟩
  ·rw [t]
   by_cases e:a.2=b.2
   ·rw [if_pos e,z,decide_eq_true e]
   ·rw [if_neg e,decide_eq_false e];rfl
  ·rw [t,if_pos (AC e)]
 intro q4
 refine Aq<|Ah<|Aa (B0 O (show _=some (b8 (5#8)) from rfl)) O<|Ab O<|Aj<|Ao O ?_ ?_
 ·intro q
  have g:x.k=5#8:=AC q
  refine B2<|Bv O true (q)<|Aq ?_
  have l1:ps.length=1:=by have:=(AR (by rw [g] at A;exact A) UB).1;omega
  obtain ⟨a,l,rfl⟩:=IM (ps:=ps) (by omega)
  have D:a ∈ a::l:=by simp
  have z:=C a D
  have y:=h.each a D
  have d:=h.sl
  have t:G=a.2:=by rw [L,g];rfl
  refine Bh<|Ad O<|Aa (Bf AQ O O (d.bs (Below.refl _ _)) 0 O (Nat.zero_lt_succ _)) O<|Aa (Ex.as (Bl (AK _) O (d.bs (Below.refl _ _)) (Nat.zero_lt_succ _)) O) O<|Ab O<|Ab O<|Ay<|Ba<|Ap<|Bp O O O ?_
  exact ⟨E,EY (t ▸ y) (by rw [t];exact z)⟩
 intro q5
 refine Bh<|Aa (B0 O (show _=some (b8 (6#8)) from rfl)) O<|Ab O<|Aj<|Ao O ?_ ?_
 ·intro q
  have g:x.k=6#8:=AC q
  refine Aq ?_
  have l1:ps.length=1:=by have:=(AR (by rw [g] at A;exact A) TG).1;omega
  obtain ⟨a,l,rfl⟩:=IM (ps:=ps) (by omega)
  have D:a ∈ a::l:=by simp
  have z:=C a D
  have y:=h.each a D
  have d:=h.sl
  have t:G=a.2:=by rw [L,g];rfl
  refine Bh<|Ad O<|Aa (Bf AQ O O (d.bs (Below.refl _ _)) 0 O (Nat.zero_lt_succ _)) O<|Aa (Ex.as (Bl (AK _) O (d.bs (Below.refl _ _)) (Nat.zero_lt_succ _)) O) O<|Ab O<|Ab O<|Ay<|Ba<|Ap<|Bp O O O ?_
  exact ⟨E,EY (t ▸ y) (by rw [t];exact z)⟩
 intro q6
 refine Ah<|Aa (B0 O (show _=some (b8 (7#8)) from rfl)) O<|Ab O<|Aj<|Ao O ?_ ?_
 ·intro q
  have g:x.k=7#8:=AC q
  have l2:ps.length=2:=by have:=(AR (by rw [g] at A;exact A) TF).1;omega
  obtain ⟨a,b,rfl⟩:=Lc l2
  have D:a ∈ [a,b]:=by simp
  have Q:b ∈ [a,b]:=by simp
  have z:=C a D
  have U:=C b Q
  have y:=h.each a D
  have J:=h.each b Q
  have d:=h.sl
  clear l2
  have t:G=if FH a.2 b.2=0 then [a.2.getD 0 default,b.2.getD 1 default] else []:=by rw [L,g];rfl
  refine Aq ?_
  rename World=>c
  refine Cw.any mixed (fun N B _=> ?_)
  refine Df (fun w' =>Below c.heap.size c w') (fun hC=> ?_) (B)
  refine Cr (B5 (Ce (B5 C9)))<|Am 0 O (fun c f=>Cb O) O<|Am 1 O (fun c f=>Bf AQ O O (d.bs f) 0 O (Nat.zero_lt_succ _)) O<|Am 2 O (fun c f=>Ex.as (Bl (AK _) O (d.bs f) (Nat.zero_lt_succ _)) O) O<|Am 3 O (fun c f=>Cb O) O<|Am 4 O (fun c f=>Bf AQ O O (d.bs f) 1 O (show 1<2 by decide)) O<|Am 5 O (fun c f=>Ex.as (Bl (AK _) O (d.bs f) (show 1<2 by decide)) O) O<|Cf<|BV.only ‹_› (i:=6) (by kernel_rfl) O ?_
  refine An O O (OV a.1 b.1 a.2 b.2 N (y.bs B) (J.bs B)) ?_
  rintro _ w3 ⟨I,u,rfl,V,X⟩
  have B:=bt B I
  refine BV.back<|Cr (B5 (Ce (B5 C9)))<|Am 7 O (fun c f=>Cb O) O<|Am 8 O (fun c f=>Ex.extract (i:=0) O O) O<|Am 9 O (fun c f=>Ex.extract (i:=1) O O) O<|Am 10 O (fun c f=>Cq O) O<|Am 11 O (fun c f=>Cq O) O<|Cf<|BV.done ‹_› (by kernel_rfl) ?_
  refine Ci<|Ad O<|Ad O<|Aa (Cl O O) O<|Ab O<|Ab O<|Ay<|Ba<|Ap<|Bp O O O ?_
  have E:=bt E B
  refine ⟨E, ?_⟩
  by_cases e:FH a.2 b.2=0
  ·rw [if_pos e] at t
   rw [decide_eq_true e]
   have d0:=Q9 e
   exact EY (by rw [t];exact BD (X e)) (by rw [t];exact d0)
  ·rw [if_neg e] at t
   rw [decide_eq_false e,V e]
   exact EX (s:=[]) (Ch _ _) (by rw [t];rfl) fun h=>by cases h
 intro q7
 refine Ah<|Aa (B0 O (show _=some (b8 (8#8)) from rfl)) O<|Ab O<|Aj<|Ao O ?_ ?_
 ·intro q
  have g:x.k=8#8:=AC q
  have l2:ps.length=2:=by have:=(AR (by rw [g] at A;exact A) S5).1;omega
  obtain ⟨a,b,rfl⟩:=Lc l2
  have D:a ∈ [a,b]:=by simp
  have Q:b ∈ [a,b]:=by simp
  have z:=C a D
  have U:=C b Q
  have y:=h.each a D
  have J:=h.each b Q
  have d:=h.sl
  clear l2
  have t:G=if CB a.2 b.2 x.n x.p=0 then Hi a.2 b.2 x.n x.p else []:=by rw [L,g];rfl
  refine Aq ?_
  rename World=>c
  refine Cw.any mixed (fun N B _=> ?_)
  refine Df (fun w' =>Below c.heap.size c w') (fun hC=> ?_) (B)
  refine Cr (B5 (Ce (B5 C9)))<|Am 0 O (fun c f=>Cb O) O<|Am 1 O (fun c f=>Bf AQ O O (d.bs f) 0 O (Nat.zero_lt_succ _)) O<|Am 2 O (fun c f=>Ex.as (Bl (AK _) O (d.bs f) (Nat.zero_lt_succ _)) O) O<|Am 3 O (fun c f=>Cb O) O<|Am 4 O (fun c f=>Bf AQ O O (d.bs f) 1 O (show 1<2 by decide)) O<|Am 5 O (fun c f=>Ex.as (Bl (AK _) O (d.bs f) (show 1<2 by decide)) O) O<|Am 6 O (fun c f=>Ck underlying79 O (AV _)) O<|Am 7 O (fun c f=>Ak (AI _) O (AN.bs ‹_› f) O) O<|Am 8 O (fun c f=>Ck underlying79 O (AV _)) O<|Am 9 O (fun c f=>Ak (AI _) O (AN.bs ‹_› f) O) O<|Cf ?_
  refine BV.only ‹_› (i:=10) (by kernel_rfl) O ?_
  refine An O O (OR a.2 b.2 x.n x.p a.1 b.1 N (y.bs B) (J.bs B)) ?_
  rintro _ w3 ⟨I,u,m,rfl,K,V,X⟩
  have B:=bt B I
  refine BV.back<|Cr (B5 (Ce (B5 C9)))<|Am 11 O (fun c f=>Cb O) O<|Am 12 O (fun c f=>Ex.extract (i:=0) O O) O<|Am 13 O (fun c f=>Ex.extract (i:=1) O O) O<|Am 14 O (fun c f=>Cq O) O<|Am 15 O (fun c f=>Cq O) O<|Cf<|BV.done ‹_› (by kernel_rfl) ?_
  refine Ci<|Ad O<|Ad O<|Aa (Cl O O) O<|Ab O<|Ab O<|Ay<|Ba<|Ap<|Bp O O O ?_
  have E:=bt E B
  refine ⟨E, ?_⟩
  by_cases e:CB a.2 b.2 x.n x.p=0
  ·rw [if_pos e] at t
   rw [decide_eq_true e]
   exact EY (by rw [t,← X e];exact BD K) (by rw [t];exact Th e)
  ·rw [if_neg e] at t
   rw [decide_eq_false e,(V e).1]
   exact EX (s:=[]) (Ch _ _) (by rw [t];rfl) fun h=>by cases h
 intro q8
 refine Ah<|Aa (B0 O (show _=some (b8 (9#8)) from rfl)) O<|Ab O<|Aj<|Ao O ?_ ?_
 ·intro q
  have g:x.k=9#8:=AC q
  have l1:ps.length=1:=by have:=(AR (by rw [g] at A;exact A) TE).1;omega
  obtain ⟨a,l,rfl⟩:=IM (ps:=ps) (by omega)
  have D:a ∈ a::l:=by simp
  have z:=C a D
  have y:=h.each a D
  have d:=h.sl
  have t:G=if CC a.2 x.n=0 then HR a.2 x.n else []:=by rw [L,g];rfl
  refine Aq ?_
  rename World=>c
  refine Cw.any mixed (fun N B _=> ?_)
  refine Df (fun w' =>Below c.heap.size c w') (fun hC=> ?_) (B)
  refine Cr (B5 (Ce (B5 C9)))<|Am 0 O (fun c f=>Cb O) O<|Am 1 O (fun c f=>Bf AQ O O (d.bs f) 0 O (Nat.zero_lt_succ _)) O<|Am 2 O (fun c f=>Ex.as (Bl (AK _) O (d.bs f) (Nat.zero_lt_succ _)) O) O<|Am 3 O (fun c f=>Ck underlying79 O (AV _)) O<|Am 4 O (fun c f=>Ak (AI _) O (AN.bs ‹_› f) O) O<|Cf ?_
  refine BV.only ‹_› (i:=5) (by kernel_rfl) O ?_
  refine An O O (Nn a.2 x.n a.1 N (y.bs B)) ?_
  rintro _ w3 ⟨I,u,m,rfl,K,V,X⟩
  have B:=bt B I
  refine BV.back<|Cr (B5 (Ce (B5 C9)))<|Am 6 O (fun c f=>Cb O) O<|Am 7 O (fun c f=>Ex.extract (i:=0) O O) O<|Am 8 O (fun c f=>Ex.extract (i:=1) O O) O<|Am 9 O (fun c f=>Cq O) O<|Am 10 O (fun c f=>Cq O) O<|Cf<|BV.done ‹_› (by kernel_rfl) ?_
  refine Ci<|Ad O<|Ad O<|Aa (Cl O O) O<|Ab O<|Ab O<|Ay<|Ba<|Ap<|Bp O O O ?_
  have E:=bt E B
  refine ⟨E, ?_⟩
  by_cases e:CC a.2 x.n=0
  ·rw [if_pos e] at t
   rw [decide_eq_true e]
   exact EY (by rw [t,← X e];exact BD K) (by rw [t];exact Tv z e)
  ·rw [if_neg e] at t
   rw [decide_eq_false e,(V e).1]
   exact EX (s:=[]) (Ch _ _) (by rw [t];rfl) fun h=>by cases h
 intro q9
 refine Ah<|Aa (B0 O (show _=some (b8 (10#8)) from rfl)) O<|Ab O<|Aj<|Ao O ?_ ?_
 ·intro q
  have g:x.k=10#8:=AC q
  have l1:ps.length=1:=by have:=(AR (by rw [g] at A;exact A) Mr).1;omega
  obtain ⟨a,l,rfl⟩:=IM (ps:=ps) (by omega)
  have D:a ∈ a::l:=by simp
  have z:=C a D
  have y:=h.each a D
  have d:=h.sl
  have H:Shapes.ok x.s=true:=(AR (by rw [g] at A;exact A) Mr).2
  have t:G=if Shapes.size a.2=Shapes.size x.s then x.s else []:=by rw [L,g];rfl
  refine Aq<|C8 mixed (by kernel_rfl)<|Ai (fun c o=>Ck underlying79 O (AU _)) O<|Ai (fun c o=>Ak (AK _) O (AN.bs ‹_› o) O) O ?_
  refine Ai (fun c o=>Ck underlying79 O (AU _)) O<|Ai (fun c o=>Ak (AK _) O (AN.bs ‹_› o) O) O ?_
  refine C3 O O (fun c o=>(Ox x.y x.s _ (F.bs o)).q o)<|Bt O<|Ai (fun c o=>Bf AQ O O (d.bs o) 0 O (Nat.zero_lt_succ _)) O<|Ai (fun c o=>Ex.as (Bl (AK _) O (d.bs o) (Nat.zero_lt_succ _)) O) O<|C3 O O (fun c o=>(Ox a.1 a.2 _ (y.bs o)).q o)<|Ai (fun c o=>Cl O O) O<|D7 O<|D7 O ?_
  refine C1 (fun N o=> ?_)
  refine Av<|B8<|Ea<|Ba<|Ap<|Bp O O O ?_
  refine ⟨bt E o,EX (F.bs o) ?_ fun e=> ?_⟩
  ·rw [t]
   by_cases e:Shapes.size a.2=Shapes.size x.s
   ·rw [if_pos e,H,decide_eq_true e.symm]
   ·rw [if_neg e,decide_eq_false fun h=>e h.symm];rfl
  ·rw [t,if_pos (AC e).symm]
 intro q10
 refine Ah<|Aa (B0 O (show _=some (b8 (11#8)) from rfl)) O<|Ab O<|Aj<|Ao O ?_ ?_
 ·intro q
  have g:x.k=11#8:=AC q
  have l1:ps.length=1:=by have:=(AR (by rw [g] at A;exact A) Mq).1;omega
  obtain ⟨a,l,rfl⟩:=IM (ps:=ps) (by omega)
  have D:a ∈ a::l:=by simp
  have z:=C a D
  have y:=h.each a D
  have d:=h.sl
  have H:HX x.s=true:=(AR (by rw [g] at A;exact A) Mq).2
  have t:G=LN a.2 x.s:=by rw [L,g];rfl
  unfold LN at t
  have R:=H
  rw [I1,Bool.and_eq_true,decide_eq_true_iff] at R
  have k_c:SD x.s=true:=by unfold HX at H;exact (Bool.and_eq_true _ _ ▸ H).1
  refine Aq<|Aq<|C8 mixed (by kernel_rfl)<|Ai (fun c o=>Ck underlying79 O (AU _)) O<|Ai (fun c o=>Ak (AK _) O (AN.bs ‹_› o) O) O ?_
  refine Ai (fun c o=>Au AD O (Sl.bs ‹_› o)) O ?_
  refine Bt O<|Ai (fun c o=>Bf AQ O O (d.bs o) 0 O (Nat.zero_lt_succ _)) O<|Ai (fun c o=>Ex.as (Bl (AK _) O (d.bs o) (Nat.zero_lt_succ _)) O) O<|Ai (fun c o=>Au AD O (Sl.bs ‹_› o)) O ?_
  refine Ai (fun c o=>Cn O O) O ?_
  refine C1 (fun N o=> ?_)
  refine Av<|B8<|Ao O ?_ ?_
  ·intro q
   have l2:¬a.2.length=x.s.length:=fun e=>by rw [e] at q;simp at q
   rw [if_neg l2] at t
   refine Ah<|Ab O<|Ab O<|Bz<|Ba<|Ap<|Bp O O O ?_
   exact ⟨bt E o,EX (s:=[]) (Ch _ _) (by rw [t];rfl) fun h=>by cases h⟩
  intro q
  have l2:a.2.length=x.s.length:=by simp at q;omega
  rw [if_pos l2] at t
  have hb:=Rs k_c R.1
  have ho:∀j,j<x.s.length→0≤x.s.getD j default∧x.s.getD j default<(a.2.length:Int):=fun j hj=>by
   have:=hb _ (GL hj)
   omega
  have E:=E.bs o
  have F:=F.bs o
  have h:=h.bs o
  have M:=M.bs o
  refine B2<|Aq ?_
  have d:=h.sl
  have y:=h.each a D
  rename World=>c
  refine Cw.any mixed (fun N B _=> ?_)
  refine Df (fun w' =>Below c.heap.size c w') (fun hC=> ?_) (B)
  refine Cr (B5 (Ce (B5 C9)))<|Am 0 O (fun c f=>Cb O) O<|Am 1 O (fun c f=>Bf AQ O O (d.bs f) 0 O (Nat.zero_lt_succ _)) O<|Am 2 O (fun c f=>Ex.as (Bl (AK _) O (d.bs f) (Nat.zero_lt_succ _)) O) O<|Am 3 O (fun c f=>Ck underlying79 O (AU _)) O<|Am 4 O (fun c f=>Ak (AK _) O (AN.bs ‹_› f) O) O<|Cf ?_
  refine BV.only ‹_› (i:=5) (by kernel_rfl) O ?_
  refine An O O (OT a.1 x.y a.2 x.s N (y.bs B) (F.bs B) ho R.1) ?_
  rintro u w3 ⟨I,K⟩
  have B:=bt B I
  refine BV.back<|Cr (B5 (Ce (B5 C9)))<|Am 6 O (fun c f=>Cq O) O<|Am 7 O (fun c f=>Cq O) O<|Cf<|BV.done ‹_› (by kernel_rfl) ?_
  refine Av<|B8<|Ea<|Ba<|Ap<|Bp O O O ?_
  refine ⟨bt E B,EY ?_ ?_⟩
  ·rw [t]
   have:=AG K
   rw [← FY a.2 x.s] at this
   exact this
  ·rw [t]
   exact RU z R.2 l2.symm
 intro Z
 refine Ah<|Aa (B0 O (show _=some (b8 (12#8)) from rfl)) O<|Ab O<|Aj<|Ao O ?_ ?_
 ·intro q
  have g:x.k=12#8:=AC q
  have lk:=(AR (by rw [g] at A;exact A) O9).1
  have t:G=OA (AP ps) x.n.toNat:=by rw [L,g];rfl
  obtain ⟨j1,j2⟩:=UD (l:=AP ps) (n:=x.n) (by rw [length_map];omega) (by rw [length_map];omega) (fun s hs=>by
   obtain ⟨p,hp,rfl⟩:=List.mem_map.1 hs
   exact C p hp) (by omega)
  rw [← t] at j1 j2
  refine Ah<|Ad O<|A0 underlying79 O (AV _)<|Aa (Ak (AI _) O ‹_› rfl) O ?_
  refine An O O (OX v ps x.n _ h) ?_
  rintro _ w ⟨I,u,s,rfl,s_u,hs⟩
  have E:=E.bs I
  have F:=F.bs I
  have h:=h.bs I
  have M:=M.bs I
  exact Ad rfl<|Aa (Ex.extract (i:=0) rfl rfl) rfl<|Aa (Ex.extract (i:=1) rfl rfl) rfl<|Ab rfl<|Ab rfl<|Bg<|Ad rfl<|Ad rfl<|Aa (Cl rfl rfl) rfl<|Ab rfl<|Ab rfl<|Ay<|Ba<|Ap<|Bp rfl rfl rfl<|⟨E,EX s_u j1 fun e=>Option.some.inj ((hs (AC e)).symm.trans (j2 (AC e)))⟩
 intro Y
 have g:x.k=13#8:=by
  have:=HD A
  obtain ⟨_,_,_,_,_,_,e⟩:=this
  have:=Ls x.k (by rw [e];rfl)
  rcases this with e|e|e|e|e|e|e|e|e|e|e|e|e
  ·rw [e] at q1;cases q1
  ·rw [e] at q2;cases q2
  ·rw [e] at q3;cases q3
  ·rw [e] at q4;cases q4
  ·rw [e] at q5;cases q5
  ·rw [e] at q6;cases q6
  ·rw [e] at q7;cases q7
  ·rw [e] at q8;cases q8
  ·rw [e] at q9;cases q9
  ·rw [e] at q10;cases q10
  ·rw [e] at Z;cases Z
  ·rw [e] at Y;cases Y
  ·exact e
 have l1:ps.length=1:=by have:=(AR (by rw [g] at A;exact A) Mp).1;omega
 obtain ⟨a,l,rfl⟩:=IM (ps:=ps) (by omega)
 have D:a ∈ a::l:=by simp
 have z:=C a D
 have y:=h.each a D
 have d:=h.sl
 have lk:=(AR (by rw [g] at A;exact A) Mp).1
 have t:G=RR a.2 x.n:=by rw [L,g];rfl
 obtain ⟨k,T⟩:∃k:Nat,x.n=(k:Int):=⟨x.n.toNat,by omega⟩
 have la:=FF z
 have S:decide ((k:Int)<(a.2.length:Int))=Shapes.ok G∧((k:Int)<(a.2.length:Int)→RQ a.2 k=G):=by
  rw [t,T]
  unfold RR
  by_cases e:k<a.2.length
  ·have e2:(if (a.2.length:Int)≤(k:Int) then [] else if a.2.length=1 then [1] else a.2.eraseIdx (k:Int).toNat)=EW a.2 k:=by
    rw [if_neg (by omega),Int.toNat_natCast,eraseIdx_eq_take_drop_succ];rfl
   rw [e2,MX z e,decide_eq_true (by omega)]
   exact ⟨rfl,fun _=>Ti e⟩
  ·rw [if_pos (by omega),decide_eq_false (by omega)]
   exact ⟨rfl,fun h=>by omega⟩
 refine Ca<|Bi<|Av<|B8<|Aq ?_
 rename World=>c
 refine Cw.any mixed (fun N B _=> ?_)
 refine Df (fun w' =>Below c.heap.size c w') (fun hC=> ?_) (B)
 refine Cr (B5 C9)<|Am 0 O (fun c f=>Cb O) O<|Am 1 O (fun c f=>Bf AQ O O (d.bs f) 0 O (Nat.zero_lt_succ _)) O<|Am 2 O (fun c f=>Ex.as (Bl (AK _) O (d.bs f) (Nat.zero_lt_succ _)) O) O<|Am 3 O (fun c f=>Ck underlying79 O (AV _)) O<|Am 4 O (fun c f=>Ex.as (Ak (AI _) O (AN.bs M f) O) (cngA (Value.int .i64) T)) O<|Am 6 O (fun c f=>Ck underlying79 O (AV _)) O<|Am 7 O (fun c f=>Ex.as (Ak (AI _) O (AN.bs M f) O) (cngA (Value.int .i64) T)) O<|Am 8 O (fun c f=>Cb O) O<|Am 9 O (fun c f=>Bf AQ O O (d.bs f) 0 O (Nat.zero_lt_succ _)) O<|Am 10 O (fun c f=>Ex.as (Bl (AK _) O (d.bs f) (Nat.zero_lt_succ _)) O) O<|Am 11 O (fun c f=>Au AD O (y.bs f)) O<|Am 12 O (fun c f=>Ep O O) O<|Cf<|BV.only ‹_› (i:=5) (by kernel_rfl) O ?_
 refine An O O (LS a.1 a.2 k N (y.bs B) la.2) ?_
 rintro u w3 ⟨I,K⟩
 have B:=bt B I
 refine BV.back<|Cr (B5 C9)<|Am 13 O (fun c f=>Cq O) O<|Am 14 O (fun c f=>Cq O) O<|Cf<|BV.done ‹_› (by kernel_rfl) ?_
 exact Av<|B8<|Ea<|Bp rfl rfl rfl<|⟨bt E B,EX (BD K) S.1 fun e=>S.2 (AC e)⟩

theorem QW {x:N5} (h:CQ x.k x.i x.s x.n x.p=true):x.i.length≤4:=by
 obtain ⟨a,b,c,d,e,f,g⟩:=HD h
 have l:=(AR h g).1
 have j:∀p ∈ KN,p.2.2.getD 1 0≤4:=by decide
 unfold CT at g
 cases hf:KN.find? (fun p=>decide (p.2.1=(x.k.toNat:Int))) with
 |none=>rw [hf] at g;cases g
 |some p=>
  rw [hf] at g
  have i:=j p (mem_of_find?_eq_some hf)
  have k:p.2.2=[a,b,c,d,e,f]:=by simpa using g
  rw [k] at i
  simp at i
  omega
theorem QR:∀k:BitVec 8,(!(CT k).isSome||(Jf k==(!decide (k=1#8) && !decide (k=2#8))))=true:=by decide+kernel
theorem Mx {ls:List N5} {i:Nat} {x:N5} (a:i<ls.length) (b:x=ls[i]):DD (ls.take (i+1))=if x.k=1#8 then DD (ls.take i)+1 else DD (ls.take i):=by
 rw [take_succ_eq_append_getElem a,← b]
 unfold DD
 rw [filter_append,length_append]
 by_cases e:x.k=1#8
 ·rw [if_pos e,filter_cons,decide_eq_true e];rfl
 ·rw [if_neg e,filter_cons,decide_eq_false e];rfl
theorem Rf {m:Nat} {l:List Int} {k:Nat} (a:k<l.length) (h:l.getD k default<0∨(m:Int)≤l.getD k default):M0 m l=true:=by
 unfold M0
 rw [any_eq_true]
 refine ⟨l.getD k default,GL a, ?_⟩
 rcases h with h|h
 ·rw [decide_eq_true h];rfl
 ·rw [decide_eq_true h,Bool.or_true]
theorem TX {m:Nat} {l:List Int} (h:∀j ∈ l,0≤j∧j<(m:Int)):M0 m l=false:=by
 unfold M0
 rw [any_eq_false]
 intro j a
 have:=h j a
 rw [decide_eq_false (show ¬j<0 by omega),decide_eq_false (show ¬(m:Int)≤j by omega)]
 decide
set_option maxHeartbeats 1000000 in
theorem OU (v:Value) (ls:List N5) (W:World) (h:GN W v ls):
  AJ prog 162 [.agg [v].toArray] W (fun r w' =>Below W.heap.size W w' ∧match Hg ls with
   |none=>∃u,r= .tuple #[u, .bool false]
   |some ss=>∃u ps,r= .tuple #[u, .bool true]∧LI w' u ps∧AP ps=ss):=by
 obtain ⟨R,hR⟩:∃R,R=Hg ls:=⟨_,rfl⟩
 rw [← hR]
 have o:=Below.refl W.heap.size W
 have L:=h.sl
 have hle:=h.sl.le
 refine Bd (n:=109) func162 O<|Ah<|C0 (cs:=[v]) O O O ?_
 rintro A_g w1 eA_g A hn1 -
 have o:=o.bs hn1
 have L:=L.bs hn1
 refine Ab O<|Ab O<|Bj<|A0 underlying24 O (BY _)<|Aa (Ak (CS _) O ‹_› rfl) O ?_
 refine Aa (Au BA O ‹_›) O ?_
 refine B1 O<|Ad O ?_
 refine Bx 17 O ?_ ?_
 ·intro g
  have g:=AC g
  refine Ae (dj:=17) O O O O<|Ae (dj:=17) O O O O<|Ae (dj:=17) O O O O<|Ae (dj:=17) O O O O<|Bu O<|Aj<|B3 O<|Ah<|Ab O<|Ab O<|Bz<|Bp O O O ?_
  have hN:R=none:=by rw [hR,Hg,if_pos (by omega)]
  rw [hN]
  exact ⟨o,_,rfl⟩
 intro g1
 have g1:=AB g1
 refine Af (dj:=17) O O<|A0 underlying24 O (BY _)<|Af (dj:=17) O O<|Aa (Ak (CS _) O ‹_› rfl) O ?_
 refine Af (dj:=17) O O<|Aa (Au BA O ‹_›) O ?_
 refine Af (dj:=17) O O<|Aa (Da O O) O<|B4 O<|Aj<|Ao O ?_ ?_
 ·intro g
  have g:=AC g
  refine Ah<|Ab O<|Ab O<|Bz<|Bp O O O ?_
  have hN:R=none:=by rw [hR,Hg,if_pos (by omega)]
  rw [hN]
  exact ⟨o,_,rfl⟩
 intro g2
 have g2:=AB g2
 have Z:Hg ls=match EK [] ls with|some ss=>if DD ls=1∧Jf (ls.getD (ls.length - 1) default).k=true then some ss else none|none=>none:=by rw [Hg,if_neg (by omega)];rfl
 have hRn:EK [] ls=none→R=none:=fun e=>by rw [hR,Z,e]
 have z1:=AA o
 have y_g:=BL A
 obtain ⟨B,hBd⟩:∃B,B=w1.heap.size:=⟨_,rfl⟩
 have hW1:=o
 clear o hn1
 refine Cp<|Ab O<|Bg<|Ab O<|Bj<|Ab O<|Aj<|Ar ?_
 refine Bo (S:=(Nat×Nat×Value×List (Value×List Int))) (fun z=>[(1, .pointer (some ⟨A_g,0,none⟩)),(4, .int .i64 (z.2.1:Int)),(5,z.2.2.1),(6, .int .i64 (z.1:Int))]) (fun z w' =>z.1≤ls.length∧Below w1.heap.size w1 w' ∧w'.ownsRow B 70 1 z.2.2.1 z.1 (z.2.2.2.map (·.1))∧IN B w' z.2.2.1 z.2.2.2∧(∀p ∈ z.2.2.2,Shapes.ok p.2=true)∧EK (AP z.2.2.2) (ls.drop z.1)=EK [] ls∧z.2.1=DD (ls.take z.1)∧z.2.2.2.length=z.1∧z.2.1≤z.1) (fun z=>ls.length - z.1) ((0,0, .slice none 0 0,[])) ⟨rfl,rfl,rfl,rfl,trivial⟩ ?_ ?_
 ·exact ⟨Nat.zero_le _,Below.refl _ _,⟨rfl, .inl ⟨rfl,rfl⟩⟩,(fun p M=>by cases M),(fun p M=>by cases M),rfl,rfl,rfl,AX _⟩
 rintro ⟨i,c,u,ps⟩ w2 ⟨hi,o,l,d,hok,C,hc,Q,hci⟩
 dsimp only at hi o l d hok C hc Q hci ⊢
 have L:=L.bs o
 have A:=A.bs o
 have z2:=o.size
 have ub:=AF l
 have lps2:(AP ps).length=ps.length:=length_map _
 have V:=bt hW1 o
 refine Aq<|Ah<|Ad O<|A0 underlying24 O (BY _)<|Aa (Ak (CS _) O ‹_› rfl) O ?_
 refine Aa (Au BA O ‹_›) O ?_
 refine B1 O<|Aj<|Ao O ?_ ?_
 ·intro g
  have J:i<ls.length:=by have:=AC g;omega
  obtain ⟨x,E⟩:∃x,x=ls[i]:=⟨_,rfl⟩
  have hx:=(h.each x (E ▸ getElem_mem J)).bs V
  have hcl:=h.cells J
  rw [← E] at hcl
  have hdr:ls.drop i=x::ls.drop (i+1):=by rw [E];exact drop_eq_getElem_cons J
  have Y:EK [] ls=match JD (AP ps) x with|some s=>EK (AP ps++[s]) (ls.drop (i+1))|none=>none:=by rw [← C,hdr];rfl
  have hno:JD (AP ps) x=none→R=none:=fun e=>hRn (by rw [Y,e])
  refine B2<|Aq<|Ar<|Ah<|A0 underlying24 O (BY _)<|Aa (Ak (CS _) O ‹_› rfl) O ?_
  refine Ad O<|Aa (Cu BA O O L i O J) O<|Aa (C6 (cs:=x.cells) (CY _) (CW _) O L O (by decide) hcl) O<|Cv (cs:=x.cells) EA O O O O (fun _=>rfl) (hx.ones) ?_
  rintro A_x w3 eA_x b_x f zhn
  have hx:=hx.bs f
  replace o:=bt o f
  have d:=d.bs f
  have l:=AH l f
  have A:=A.bs f
  have z3:=f.size
  refine Bj<|Aa (Cj (CY _) (CW _) O O ‹_›) O ?_
  refine An O O (Sm x w3 hx) ?_
  rintro _ w4 ⟨rfl,f⟩
  have hx:=hx.bs f
  have b_x:=b_x.bs f
  replace o:=bt o f
  have d:=d.bs f
  have l:=AH l f
  have A:=A.bs f
  have z4:=f.size
  refine Aa (Co O) O<|Aj<|Ao O ?_ ?_
  ·intro gk
   have gk:CQ x.k x.i x.s x.n x.p=false:=by simpa using gk
   refine Ah<|Ab O<|Ab O<|Bz<|Ba<|Ap<|Ap<|Ba<|Ap<|Bp O O O ?_
   have hN:R=none:=hno (by unfold JD;rw [gk];rfl)
   rw [hN]
   exact ⟨bt hW1 o,_,rfl⟩
  intro gk
  have gk:CQ x.k x.i x.s x.n x.p=true:=by simpa using gk
  obtain ⟨c',hc'⟩:∃c' :Nat,c' =if x.k=1#8 then c+1 else c:=⟨_,rfl⟩
  refine B2<|Aq<|Ah<|A0 underlying79 O (DA _)<|Aa (Ak (DG _) O ‹_› rfl) O ?_
  refine Aa (B0 O (show _=some (b8 (1#8)) from rfl)) O<|Aj ?_
  refine Cw.mid (F:=[(1, .pointer (some ⟨A_g,0,none⟩)),(4, .int .i64 (c' :Int)),(5,u),(6, .int .i64 (i:Int)),(7, .pointer (some ⟨A_x,0,none⟩))]) (I:=fun w' =>w' =w4) ?_ ?_
  ·refine Ao O ?_ ?_
   ·intro q
    have q:=AC q
    refine Bh<|Ad O<|Aa ((Dx O O (by omega)).as (cngA (Value.int .i64) (show (c:Int)+1=((c+1:Nat):Int) by omega))) O<|Ab O<|Be ?_
    exact Pw.mid ⟨rfl,(by rw [hc',if_pos q];rfl),rfl,rfl,rfl,trivial⟩ (rfl)
   intro q
   have q:=AB q
   refine Ca ?_
   exact Pw.mid ⟨rfl,(by rw [hc',if_neg q];rfl),rfl,rfl,rfl,trivial⟩ (rfl)
  rintro w4' rfl
  refine B8 ?_
  have li:=QW gk
  have h_i:=hx.i
  have ub:=AF l
  refine Ah<|Ab O<|Bj<|Ab O<|Aj<|Ar ?_
  refine Bo (S:=(Nat×Value)) (fun z=>[(1, .pointer (some ⟨A_g,0,none⟩)),(4, .int .i64 (c' :Int)),(5,u),(6, .int .i64 (i:Int)),(7, .pointer (some ⟨A_x,0,none⟩)),(8,z.2),(9, .int .i64 (z.1:Int))]) (fun z w' =>z.1≤x.i.length∧Below w4'.heap.size w4' w' ∧w'.ownsRow w4'.heap.size 70 1 z.2 z.1 (((x.i.take z.1).map fun j=>ps.getD j.toNat default).map (·.1))∧(∀j ∈ x.i.take z.1,0≤j∧j<(i:Int))) (fun z=>x.i.length - z.1) ((0, .slice none 0 0)) ⟨rfl,rfl,rfl,rfl,rfl,rfl,rfl,trivial⟩ ?_ ?_
  ·exact ⟨Nat.zero_le _,Below.refl _ _,⟨rfl, .inl ⟨rfl,rfl⟩⟩,fun j T=>by simp at T⟩
  rintro ⟨k,q⟩ w5 ⟨hk,w,N,U⟩
  dsimp only at hk w N U ⊢
  have D:=h_i.bs w
  have b_x5:=b_x.bs w
  have z5:=w.size
  refine Aq<|Ah<|Ad O<|A0 underlying79 O (AU _)<|Aa (Ak (AK _) O ‹_› rfl) O ?_
  refine Aa (Au AD O ‹_›) O ?_
  refine B1 O<|Aj<|Ao O ?_ ?_
  ·intro g
   have t:k<x.i.length:=by have:=AC g;omega
   obtain ⟨j,T⟩:∃j,j=x.i.getD k default:=⟨_,rfl⟩
   refine B2<|Aq<|Ar<|Aq<|Ah<|A0 underlying79 O (AU _)<|Aa (Ak (AK _) O ‹_› rfl) O ?_
   refine Ad O<|Aa (Bf AD O O D k O t) O<|Aa ((Bl (AI _) O D t).as (cngA (Value.int .i64) T.symm)) O<|B1 O<|Ad O ?_
   refine Bx 56 O ?_ ?_
   ·intro g3
    have g3:=AC g3
    refine Ae (dj:=56) O O O O<|Ae (dj:=56) O O O O<|Ae (dj:=56) O O O O<|Ae (dj:=56) O O O O<|Ae (dj:=56) O O O O<|Ae (dj:=56) O O O O<|Ae (dj:=56) O O O O<|Bu O<|Aj<|B3 O<|Ah<|Ab O<|Ab O<|Bz<|Ba<|Ap<|Ap<|Ba<|Ap<|Ba<|Ap<|Ap<|Ba<|Ap<|Bp O O O ?_
    have hN:R=none:=hno (by unfold JD;rw [lps2,Q,Rf t (.inl (T ▸ g3))];simp)
    rw [hN]
    exact ⟨bt (bt hW1 o) w,_,rfl⟩
   intro g3
   have g3:=AB g3
   refine Af (dj:=56) O O<|A0 underlying79 O (AU _)<|Af (dj:=56) O O<|Aa (Ak (AK _) O ‹_› rfl) O ?_
   refine Af (dj:=56) O O<|Ad O<|Af (dj:=56) O O<|Aa (Bf AD O O D k O t) O<|Af (dj:=56) O O<|Aa ((Bl (AI _) O D t).as (cngA (Value.int .i64) T.symm)) O<|Af (dj:=56) O O<|Ad O<|Af (dj:=56) O O<|Aa (D9 O O) O<|B4 O<|Aj<|Ao O ?_ ?_
   ·intro g4
    have g4:=AC g4
    refine Ah<|Ab O<|Ab O<|Bz<|Ba<|Ap<|Ap<|Ba<|Ap<|Ba<|Ap<|Ap<|Ba<|Ap<|Bp O O O ?_
    have hN:R=none:=hno (by unfold JD;rw [lps2,Q,Rf t (.inr (T ▸ g4))];simp)
    rw [hN]
    exact ⟨bt (bt hW1 o) w,_,rfl⟩
   intro g4
   have g4:=AB g4
   have o_u5:=AH l w
   have su5:CA (fun p:Value×List Int=>p.1) w5 u ps:=by have:=AG o_u5;rw [← Q] at this;exact this
   have H:j.toNat<ps.length:=by omega
   have s_j:=((d (ps.getD j.toNat default) (by rw [getD_eq_getElem?_getD,getElem?_eq_getElem H];exact getElem_mem H)).1).bs w
   refine B2<|Bh<|Ad O<|Ad O<|A0 underlying79 O (AU _)<|Aa (Ak (AK _) O ‹_› rfl) O ?_
   refine Ad O<|Aa (Bf AD O O D k O t) O<|Aa ((Bl (AI _) O D t).as (cngA (Value.int .i64) (show _=((j.toNat:Nat):Int) by rw [← T];omega))) O<|Aa (Bf AQ O O su5 j.toNat O H) O<|Aa (Bl (AK _) O su5 H) O<|Bq (C2 (vs:=[(ps.getD j.toNat default).1]) AQ Jg O O O (by rw [all_cons,s_j.one'];rfl) O) O ?_
   rintro y w6 ⟨o_y, -,f, -⟩
   have hB6:=bt w f
   have N:=AH N f
   have s_j:=s_j.bs f
   refine Bq (C5 (base:=w4'.heap.size) AQ Jg O (by decide) O O N (AG o_y) (by rw [all_cons,s_j.one'];rfl) (by omega) (by omega) hB6.size) O ?_
   rintro q' w7 ⟨o_q',f, -, -⟩
   have hB7:=hB6.trans f
   have e1:((x.i.take (k+1)).map fun j=>ps.getD j.toNat default).map (·.1)=((x.i.take k).map fun j=>ps.getD j.toNat default).map (·.1)++[(ps.getD j.toNat default).1]:=by
    rw [take_succ_eq_append_getElem t,map_append,map_append,T]
    simp [t]
   rw [← e1] at o_q'
   have hin' :∀m ∈ x.i.take (k+1),0≤m∧m<(i:Int):=fun m hm=>by
    rw [take_succ_eq_append_getElem t] at hm
    rcases List.mem_append.1 hm with hm|hm
    ·exact U m hm
    ·rw [List.mem_singleton.1 hm,show x.i[k]=j by rw [T];simp [t]];omega
   refine Ab O<|Be<|Bi<|Cd<|Ad O<|B9 O (by omega)<|Ab O<|Be ?_
   exact Av (Bw ((k+1,q')) ⟨rfl,rfl,rfl,rfl,rfl,rfl,rfl,trivial⟩ (⟨t,hB7,o_q',hin'⟩) (by simp only;omega))
  intro g
  have t:k=x.i.length:=by have:=AB g;omega
  subst t
  rw [take_length] at N U
  obtain ⟨qs,hqs⟩:∃qs,qs=x.i.map fun j=>ps.getD j.toNat default:=⟨_,rfl⟩
  rw [← hqs] at N
  have lqs:qs.length=x.i.length:=by rw [hqs,length_map]
  have hqm:∀p ∈ qs,p ∈ ps:=fun p M=>by
   rw [hqs] at M
   obtain ⟨j,T,rfl⟩:=List.mem_map.1 M
   have:=U j T
   have H:j.toNat<ps.length:=by omega
   rw [getD_eq_getElem?_getD,getElem?_eq_getElem H];exact getElem_mem H
  have hLI:LI w5 q qs:=⟨by have:=AG N;rw [← lqs] at this;exact this,fun p M=>((d p (hqm p M)).1).bs w⟩
  obtain ⟨G,hGd⟩:∃G,G=K8 x.k x.s x.n x.p (AP qs):=⟨_,rfl⟩
  have hG2:K8 x.k x.s x.n x.p (x.i.map fun j=>(AP ps).getD j.toNat [])=G:=by
   rw [hGd,hqs]
   congr 1
   unfold AP
   rw [map_map]
   refine map_congr_left fun j T=> ?_
   have:=U j T
   have H:j.toNat<ps.length:=by omega
   simp [getD_eq_getElem?_getD,H]
  have gb:M0 (AP ps).length x.i=false:=by rw [lps2,Q];exact TX U
  have X:JD (AP ps) x=if Shapes.ok G=true then some G else none:=by
   unfold JD;rw [gk,gb,hG2]
   cases Shapes.ok G<;>rfl
  replace o:=bt o w
  have d:=d.bs w
  have l:=AH l w
  have A:=A.bs w
  have ub:=AF l
  refine Bn<|Al<|Al<|Bc<|Ci<|Aa (Cj (CY _) (CW _) O O ‹_›) O ?_
  refine Ad O<|An O O (OY x q qs w5 (hx.bs w) hLI gk lqs (fun p M=>hok p (hqm p M))) ?_
  rintro _ w6 ⟨f,hT⟩
  rw [← hGd] at hT
  obtain ⟨y,s,rfl,s_y,hs⟩:=hT
  replace o:=bt o f
  have d:=d.bs f
  have l:=AH l f
  have A:=A.bs f
  have z6:=f.size
  refine Ad O<|Aa (Ex.extract (i:=0) O O) O<|Aa (Ex.extract (i:=1) O O) O<|Ab O<|Ab O<|Bj<|Ad O<|Aa (Co O) O<|Aj<|Ao O ?_ ?_
  ·intro go
   have go:Shapes.ok G=false:=by simpa using go
   refine Ah<|Ab O<|Ab O<|Bz<|Ba<|Ap<|Ap<|Ba<|Ap<|Bp O O O ?_
   have hN:R=none:=hno (by rw [X,go];rfl)
   rw [hN]
   exact ⟨bt hW1 o,_,rfl⟩
  intro go
  have go:Shapes.ok G=true:=by simpa using go
  rw [hs go] at s_y
  clear hs
  rw [if_pos go] at X
  have ls4:=FF go
  have ub:=AF l
  have z6' :=o.size
  refine B2<|Bh<|Ad O<|Ad O<|Bq (C5 (base:=w6.heap.size) AD DT O (by decide) O O (World.ownsRow_nil _ _ _ _) s_y (EI (fun _=>rfl) _) (by omega) (by omega) (AX _)) O ?_
  rintro y2 w7 ⟨o_y2, -,hg, -⟩
  rw [nil_append,Nat.zero_add] at o_y2
  have f:=G8 hg (AX _) fun _ e=>by cases e
  replace o:=bt o f
  have d:=d.bs f
  have l:=AH l f
  have A:=A.bs f
  have y_own:=AF o_y2
  have K:=BD o_y2
  have z7:=f.size
  clear f hg
  refine Bq (C2 (vs:=[y2]) AQ Jg O O O (by rw [all_cons,K.one'];rfl) O) O ?_
  rintro p2 w8 ⟨o_p2, -,f, -⟩
  replace o:=bt o f
  have d:=d.bs f
  have l:=AH l f
  have A:=A.bs f
  have K:=K.bs f
  have z8:=f.size
  refine Bq (C5 (base:=B) AQ Jg O (by decide) O O l (AG o_p2) (by rw [all_cons,K.one'];rfl) (by omega) (by omega) (by have:=o.size;omega)) O ?_
  rintro u' w9 ⟨o_u',f,hg,hcs⟩
  have hoff2:IN B w8 u (ps++[(y2,G)]):=fun p M=>(List.mem_append.1 M).elim (d p) (fun e=>by
   rw [List.mem_singleton.1 e]
   refine ⟨K,fun b e=> ?_⟩
   have h1:=y_own b e
   have:=o.size
   exact ⟨⟨by omega,by omega⟩,fun e2=>by have:=ub b e2;omega⟩)
  have d:=hoff2.grow hg hcs
  have e1:ps.map (·.1)++[y2]=(ps++[(y2,G)]).map (·.1):=by rw [map_append];rfl
  rw [e1] at o_u'
  replace o:Below w1.heap.size w1 w9:=by rw [← hBd] at o ⊢;exact o.trans f
  have hok' :∀p ∈ ps++[(y2,G)],Shapes.ok p.2=true:=fun p M=>(List.mem_append.1 M).elim (hok p) (fun e=>by rw [List.mem_singleton.1 e];exact go)
  have hrec' :EK (AP (ps++[(y2,G)])) (ls.drop (i+1))=EK [] ls:=by
   rw [Y,X]
   have:AP (ps++[(y2,G)])=AP ps++[G]:=by unfold AP;rw [map_append];rfl
   rw [this]
  have hcc:c' =DD (ls.take (i+1)):=by rw [hc',hc,Mx J E]
  have hci' :c' ≤i+1:=by rw [hc'];split<;>omega
  refine Ab O<|Be<|Bi<|Cd<|Ad O<|B9 O (by omega)<|Ab O<|Be ?_
  exact Av (Bw ((i+1,c',u',ps++[(y2,G)])) ⟨rfl,rfl,rfl,rfl,trivial⟩ (⟨J,o,o_u',d,hok',hrec',hcc,by rw [length_append,Q];rfl,hci'⟩) (by simp only;omega))
 intro g
 have J:i=ls.length:=by have:=AB g;omega
 subst J
 rw [drop_length] at C
 have C:EK [] ls=some (AP ps):=C.symm
 rw [take_length] at hc
 rw [C] at Z
 have hl' :ls.length - 1<ls.length:=by omega
 obtain ⟨x,E⟩:∃x,x=ls[ls.length - 1]:=⟨_,rfl⟩
 have exd:ls.getD (ls.length - 1) default=x:=by rw [getD_eq_getElem?_getD,getElem?_eq_getElem hl',E];rfl
 rw [exd] at Z
 have hcl:=h.cells hl'
 rw [← E] at hcl
 have hkx:(CT x.k).isSome=true:=by
  obtain ⟨_,_,_,_,_,_,e⟩:=HD (Kk ls [] _ C x (E ▸ getElem_mem hl'))
  rw [e];rfl
 have hlf:Jf x.k=(!decide (x.k=1#8) && !decide (x.k=2#8)):=by
  have:=QR x.k
  rw [hkx] at this
  simpa using this
 rw [hlf] at Z
 have ad:∃ad c k,v= .slice (some ad) c k:=by
  obtain ⟨_,ao,cap,e,d1,d2,d3,_⟩:=h.sl
  cases ao with
  |none=>have:=d3 rfl;omega
  |some ad=>exact ⟨ad,_,_,e⟩
 have ck:(FR N5.cells ls)[(ls.length - 1)*5+0]? =some (b8 x.k):=by
  rw [Jx (fun a _=>D4 a) hl' (by decide),← E];rfl
 have hgf:R=if DD ls=1∧(!decide (x.k=1#8) && !decide (x.k=2#8))=true then some (AP ps) else none:=by rw [hR,Z]
 refine Bn<|Al<|Al<|Bc<|Ci<|A0 underlying24 O (BY _)<|Aa (Ak (CS _) O ‹_› rfl) O ?_
 refine A0 underlying24 O (BY _)<|Aa (Ak (CS _) O ‹_› rfl) O ?_
 refine Aa (Au BA O ‹_›) O ?_
 refine Aa (Ex.as (Ec O O (by omega)) (cngA (Value.int .i64) (show (ls.length:Int) - 1=((ls.length - 1:Nat):Int) by omega))) O<|Aa (Cu BA O O L (ls.length - 1) O hl') O<|Aa (Dj (q:=0) underlying79 O (DA _) O ad) O<|Aa (E4 (DG _) O L ck) O<|Ab O<|Bg<|Ad O<|Ad O<|Aa (Cl O O) O<|Ad O ?_
 refine Bx 101 O ?_ ?_
 ·intro gc
  have gc:DD ls=1:=by rw [← hc];have:=AC gc;omega
  refine Af (dj:=101) O O<|Ad O<|Af (dj:=101) O O<|Aa (F1 O (show _=some (b8 (1#8)) from rfl)) O<|Bu O<|Ad O ?_
  refine Bx 105 O ?_ ?_
  ·intro g3
   refine Af (dj:=105) O O<|Ad O<|Af (dj:=105) O O<|Aa (F1 O (show _=some (b8 (2#8)) from rfl)) O<|Bu O<|Ab O<|Ab O<|Ay<|Bp O O O ?_
   have g3' :decide (x.k=1#8)=false:=by simpa using g3
   by_cases g4:x.k=2#8
   ·rw [hgf,if_neg (fun h=>by rw [g4] at h;simp at h)]
    exact ⟨V,_,by rw [g4];rfl⟩
   ·rw [hgf,if_pos ⟨gc,by rw [g3',decide_eq_false g4];rfl⟩]
    exact ⟨V,u,ps,by rw [decide_eq_false g4];rfl,⟨by have:=AG l;rw [← Q] at this;exact this,fun p M=>(d p M).1⟩,rfl⟩
  intro g3
  have g3' :decide (x.k=1#8)=true:=by simpa using g3
  refine Ae (dj:=105) O O O O<|Ae (dj:=105) O O O O<|B4 O<|Ab O<|Ab O<|Ay<|Bp O O O ?_
  rw [hgf,if_neg (fun h=>by rw [g3'] at h;simp at h)]
  exact ⟨V,_,rfl⟩
 intro gc
 have gc:¬DD ls=1:=fun e=>by rw [← hc] at e;subst e;simp at gc
 refine Ae (dj:=101) O O O O<|Ae (dj:=101) O O O O<|B4 O<|Ad O<|Ae (dj:=105) O O O O<|Ae (dj:=105) O O O O<|B4 O<|Ab O<|Ab O<|Ay<|Bp O O O ?_
 rw [hgf,if_neg (fun h=>gc h.1)]
 exact ⟨V,_,rfl⟩
end Go.Proofs.YtblbopcaflaldaaGreatDoor

namespace Go.Proofs.YtblbopcaflaldaaGreatDoor
open Go Go.Dd Go.RowKit List
set_option maxRecDepth 100000
end Go.Proofs.YtblbopcaflaldaaGreatDoor

namespace Go.Proofs.YtblbopcaflaldaaGreatDoor
open Go Go.Dd Go.RowKit List Go.Proofs.Tryz
set_option maxRecDepth 100000
theorem Oz (v:Value) (ls:List N5) (W:World) (h:GN W v ls):AJ prog 64 [.agg [v].toArray] W (fun r w' =>r= .bool (Hg ls).isSome∧Below W.heap.size W w'):=by
 have a:=Below.refl W.heap.size W
 refine Bd (n:=11) func64 O<|Ah<|C0 (cs:=[v]) O O O ?_
 rintro e w d f c -
 have a:=a.bs c
 have h:=h.bs c
 refine Ab O<|Bg<|Aa (Cj (DW _) (DV _) O O ‹_›) O ?_
 refine An O O (OU v ls w h) ?_
 rintro r w' ⟨c,b⟩
 have a:=bt a c
 cases hg:Hg ls with
 |none=>
  rw [hg] at b
  obtain ⟨u,rfl⟩:=b
  exact Ad rfl<|Aa (Ex.extract (i:=0) rfl rfl) rfl<|Aa (Ex.extract (i:=1) rfl rfl) rfl<|Ab rfl<|Ab rfl<|Bg<|Ad rfl<|Ab rfl<|Ay<|Ax rfl rfl<|⟨rfl,a⟩
 |some ss=>
  rw [hg] at b
  obtain ⟨u,ps,rfl, -⟩:=b
  exact Ad rfl<|Aa (Ex.extract (i:=0) rfl rfl) rfl<|Aa (Ex.extract (i:=1) rfl rfl) rfl<|Ab rfl<|Ab rfl<|Bg<|Ad rfl<|Ab rfl<|Ay<|Ax rfl rfl<|⟨rfl,a⟩
end Go.Proofs.YtblbopcaflaldaaGreatDoor

namespace Go.Proofs.YtblbopcaflaldaaGreatDoor
open Go Go.Dd Go.RowKit List
set_option maxRecDepth 100000


abbrev Vb:TypeId:=114
structure Te (W w:World) (A:Nat) (v:Value) (l:Bs) (bad:Bool):Prop where
 sl:CA b8 W v l
 bel:Below W.heap.size W w
 lo:W.heap.size≤A
 cell:AN w A Vb [v, .bool bad]
theorem Te.bs {W w w' :World} {A:Nat} {v:Value} {l:Bs} {a:Bool} (h:Te W w A v l a) (g:Below w.heap.size w w'):Te W w' A v l a:=⟨h.sl,bt h.bel g,h.lo,h.cell.bs g⟩
theorem Te.grow {W w w' :World} {A:Nat} {v:Value} {l:Bs} {a:Bool} {r:Option Nat} (h:Te W w A v l a) (g:w.grownBy w' r) (c:∀b,r=some b→W.heap.size≤b∧b≠A):Te W w' A v l a:=
 ⟨h.sl,h.bel.grown g (AA h.bel) fun b e=>(c b e).1,h.lo,h.cell.by g fun e=>(c A e.symm).2 rfl⟩
structure Dt (W x:World) (A M R:Nat) (rest:Bs) (bad:Bool) (ls:List N5) (vn:Value) (ts:List T4) (vw:Value):Prop where
 bel:Below W.heap.size W x
 res:AN x R 27 [.slice none 0 0, .slice none 0 0]
 m:AN x M 27 [vn,vw]
 g:∃v,Te W x A v rest bad
 gb:bad=true→rest=[]
 o:x.ownsRow W.heap.size 79 5 vn ls.length (FR N5.cells ls)
 u:x.ownsRow W.heap.size 75 2 vw ts.length (cellsOf ts)
 en:∀c ∈ ls,AT x W.heap.size 3 1 c.x c.i.length (c.i.map (Value.int .i64))∧AT x W.heap.size 3 1 c.y c.s.length (c.s.map (Value.int .i64))
 et:∀t ∈ ts,AT x W.heap.size 3 1 t.x t.s.length (t.s.map (Value.int .i64))∧AT x W.heap.size 21 1 t.y t.l.length (t.l.map i32)
theorem Dt.bs {W x y:World} {A M R:Nat} {a:Bs} {d:Bool} {ls:List N5} {e:Value} {f:List T4} {i:Value} (h:Dt W x A M R a d ls e f i) (g:Below x.heap.size x y):Dt W y A M R a d ls e f i:=by
 obtain ⟨v',r⟩:=h.g
 exact ⟨bt h.bel g,h.res.bs g,h.m.bs g,⟨v',r.bs g⟩,h.gb,AH h.o g,AH h.u g,fun c b=>⟨(h.en c b).1.bs g,(h.en c b).2.bs g⟩,fun c b=>⟨(h.et c b).1.bs g,(h.et c b).2.bs g⟩⟩
theorem Dt.gn {W x:World} {A M R:Nat} {b:Bs} {c:Bool} {ls:List N5} {d:Value} {f:List T4} {g:Value} (h:Dt W x A M R b c ls d f g):GN x d ls:=⟨AG h.o,fun a e=>⟨(h.en a e).1.slT,(h.en a e).2.slT⟩⟩
theorem Dt.tn {W x:World} {A M R:Nat} {b:Bs} {c:Bool} {ls:List N5} {g:Value} {d:List T4} {f:Value} (h:Dt W x A M R b c ls g d f):Oq x f d:=⟨AG h.u,fun a e=>⟨(h.et a e).1.slT,(h.et a e).2.slT⟩⟩
theorem Dt.ch {W x y:World} {A M R B:Nat} {k a:Bs} {n d:Bool} {ls:List N5} {q:Value} {s:List T4} {m:Value} {U:TypeId} {cs:List Value} (h:Dt W x A M R k n ls q s m) (g:x.grownBy y (some B)) (C:W.heap.size≤B) (w:AN x B U cs)
  (o:3≠U) (t:21≠U) (j:79≠U∨q.ownBlock≠some B) (i:75≠U∨m.ownBlock≠some B) (u:B≠M) (z:B≠R) (r:∃v',Te W y A v' a d) (v:d=true→a=[]):Dt W y A M R a d ls q s m:=by
 have f:∀b,some B=some b→∃cs,AN x b U cs:=fun b e=>by cases e;exact ⟨_,w⟩
 refine ⟨h.bel.grown g (AA h.bel) (fun b e=>by cases e;exact C),h.res.by g (fun e=>z (Option.some.inj e).symm),h.m.by g (fun e=>u (Option.some.inj e).symm),r,v, ?_, ?_,fun c l=>⟨AE (h.en c l).1 g f o,AE (h.en c l).2 g f o⟩,fun c l=>⟨AE (h.et c l).1 g f o,AE (h.et c l).2 g f t⟩⟩
 ·rcases j with j|j
  ·exact FM h.o g f j
  ·exact CL h.o fun b e=>g.block b (AF h.o b e).2 fun p=>j (by rw [e,p])
 ·rcases i with i|i
  ·exact FM h.u g f i
  ·exact CL h.u fun b e=>g.block b (AF h.u b e).2 fun p=>i (by rw [e,p])
theorem Dt.ob {W x y:World} {A M R B:Nat} {a:Bs} {c:Bool} {ls:List N5} {f:Value} {i:List T4} {d:Value} {U:TypeId} {cs:List Value} (h:Dt W x A M R a c ls f i d) (g:x.grownBy y (some B)) (j:W.heap.size≤B) (n:AN x B U cs)
  (o:3≠U) (k:21≠U) (q:79≠U∨f.ownBlock≠some B) (m:75≠U∨d.ownBlock≠some B) (p:B≠A) (l:B≠M) (s:B≠R):Dt W y A M R a c ls f i d:=
 h.ch g j n o k q m l s (by obtain ⟨v',r⟩:=h.g;exact ⟨v',r.grow g fun b e=>by cases e;exact ⟨j,p⟩⟩) h.gb
end Go.Proofs.YtblbopcaflaldaaGreatDoor

namespace Go.Proofs.YtblbopcaflaldaaGreatDoor
open Go Go.Dd Go.RowKit Go.ChangeShapes Go.WideShapes List
set_option maxRecDepth 100000
theorem NK.kin {w:World} {i j:Nat} {a:N5} (h:NK w i j a) {n:Int} (o:0≤n) (m:n+2≤4000000) (g:a.i.length≤16777216) (hs:a.s.length≤16777216):FV w i j 3 1 [CP a.x a.i.length (a.i.map (Value.int .i64)) (n+1),CP a.y a.s.length (a.s.map (Value.int .i64)) (n+2)]:=by
 have d:=FV.one (n:=n+1) h.rx (fun b e=>(h.bx b e).2) (by omega) (by omega) g
 have f:=FV.one (n:=n+2) h.ry (fun b e=>(h.by' b e).2) (by omega) (by omega) hs
 refine ⟨⟨⟨?_, ?_,List.Pairwise.cons ?_ (pairwise_singleton _ _), ?_⟩, ?_⟩, ?_⟩
 ·intro z c
  rcases List.mem_cons.1 c with rfl|c
  ·exact d.kept.num _ (List.mem_singleton.2 rfl)
  ·exact f.kept.num _ c
 ·intro z c
  rcases List.mem_cons.1 c with rfl|c
  ·exact d.kept.few _ (List.mem_singleton.2 rfl)
  ·exact f.kept.few _ c
 ·intro z c
  rw [List.mem_singleton.1 c]
  exact fun b k l=>h.apart b k l
 ·intro z c
  rcases List.mem_cons.1 c with rfl|c
  ·rfl
  ·rw [List.mem_singleton.1 c]
 ·intro z c
  rcases List.mem_cons.1 c with rfl|c
  ·exact d.kept.own _ (List.mem_singleton.2 rfl)
  ·exact f.kept.own _ c
 ·rintro b ⟨z,c,e⟩
  rcases List.mem_cons.1 c with rfl|c
  ·exact (h.bx b e).2
  ·rw [List.mem_singleton.1 c] at e
   exact (h.by' b e).2
theorem GR.kin:∀{w:World} {cs:List N5} {base a:Nat} (_:GR w base a cs) {n:Int},0≤n→n+2*cs.length≤4000000→(∀c ∈ cs,c.i.length≤16777216∧c.s.length≤16777216)→FV w base a 3 1 (MQ n cs)
 |_,[],_,_,_,_,_,_,_=>Fk _ _ _ _ _
 |w,c::cs,base,a,⟨lo,hi,h1,h2,h3,h4⟩,n,n0,n1,hk=>by
  simp only [length_cons] at n1
  have f:=h4.kin (n:=n+2) (by omega) (by omega) fun d e=>hk d (by simp [e])
  have b:=hk c (by simp)
  have:=h4.le
  exact ((h3.kin (n:=n) n0 (by omega) b.1 b.2).app f (by omega) (AX _) (by omega)).wide h1 (AX _)
theorem Up.bs {w w' :World} {c d:Nat} {v u:Value} {ls:List N5} {b:List T4} (h:Up w c d v u ls b) (g:Below w.heap.size w w'):Up w' c d v u ls b:=by
 obtain ⟨⟨a,i,e⟩,j,f⟩:=h
 exact ⟨⟨a,i.bs g,e.bs g⟩,j.bs g,f.bs g⟩
structure Ut (w:World) (a d:Nat) (n:Int) (v u:Value) (ls:List N5) (ts:List T4):Prop where
 ki:FV w a d 3 1 (MQ n ls++Vl (n+2*ls.length+1) ts)
 kn:FV w a d 21 1 (Vk (n+2*ls.length+1) ts)
 kt:FV w a d 75 2 [CP u ts.length (cellsOf ts) (n+2*ls.length+1+2*ts.length+1)]
 kd:FV w a d 79 5 [CP v ls.length (FR N5.cells ls) (n+2*ls.length+1)]
 gn:GN w v ls
 tn:Oq w u ts
 vl:∀b,v.ownBlock=some b→b<d
 ul:∀b,u.ownBlock=some b→b<d
 lsl:∀t ∈ ls,t.low d
 tsl:∀t ∈ ts,t.low d
theorem Ut.below {w w' :World} {a d B:Nat} {n:Int} {v u:Value} {ls:List N5} {c:List T4} (h:Ut w a d n v u ls c) (g:Below B w w') (e:d≤B):Ut w' a d n v u ls c:=
 have b:Below d w w' :=g.mono e
 ⟨h.ki.below b (AX _),h.kn.below b (AX _),h.kt.below b (AX _),h.kd.below b (AX _),NQ h.gn h.vl h.lsl b,PX h.tn h.ul h.tsl b,h.vl,h.ul,h.lsl,h.tsl⟩
theorem KJ {t:N5} {a b:Nat} (h:t.low a) (c:a≤b):t.low b:=⟨fun k e=>by have:=h.1 k e;omega,fun k e=>by have:=h.2 k e;omega⟩
theorem Pf {t:T4} {a b:Nat} (h:t.low a) (c:a≤b):t.low b:=⟨fun k e=>by have:=h.1 k e;omega,fun k e=>by have:=h.2 k e;omega⟩
theorem Ut.wide {w:World} {a d i j:Nat} {n:Int} {v u:Value} {ls:List N5} {g:List T4} (h:Ut w a d n v u ls g) (f:i≤a) (c:d≤j):Ut w i j n v u ls g:=
 ⟨h.ki.wide f c,h.kn.wide f c,h.kt.wide f c,h.kd.wide f c,h.gn,h.tn,fun b e=>by have:=h.vl b e;omega,fun b e=>by have:=h.ul b e;omega,fun t m=>KJ (h.lsl t m) c,fun t m=>Pf (h.tsl t m) c⟩
end Go.Proofs.YtblbopcaflaldaaGreatDoor

namespace Go.Dd
open Go Go.RowKit List
abbrev st (l:List UInt8):Value:= .string ⟨l.toArray⟩
theorem Lf {a b:List UInt8} (h:st a=st b):a=b:=by
 have c:=Value.string.inj h
 have d:a.toArray=b.toArray:=cngA ByteArray.data c
 simpa using d
theorem HQ (l:List (List UInt8)):(l.map st).all (·.oneCell')=true:=EI (fun _=>rfl) _
theorem MI (a:ByteArray):Value.string a=st a.data.toList:=by simp [st]
section
variable {P : Program} {n : Nat} {E : BZ} {w : World} {ty : TypeId} {x y z : Operand} {v u : Value} {t s e : TypeId} {a b : List UInt8}
theorem Ry {a b:List UInt8}:((⟨a.toArray⟩:ByteArray)=⟨b.toArray⟩)↔a=b:=⟨fun h=>Lf (cngA Value.string h),fun h=>by rw [h]⟩
theorem En (d:ev E x=some (st a)) (c:ev E y=some (st b)):Ex P n E (.binOp .eql t x y s) ty w (.bool (decide (a=b))):=by
 have h:=Ex.eqlS (P:=P) (n:=n) (w:=w) (ty:=ty) (t:=t) (s:=s) d c
 rwa [show decide ((⟨a.toArray⟩:ByteArray)=⟨b.toArray⟩)=decide (a=b) from decide_eq_decide.2 Ry] at h
theorem Dz (g:ev E x=some (st a)) (f:ev E y=some (st b)):Ex P n E (.binOp .neq t x y s) ty w (.bool (!decide (a=b))):=fun i c _ _ _ _=>by
 have h:(ByteArray.toList ⟨a.toArray⟩==ByteArray.toList ⟨b.toArray⟩)=decide (a=b):=by
  rw [ByteArray.toList_mk,ByteArray.toList_mk]
  by_cases h:a=b
  ·subst h;simp
  ·simp [h]
 have d:(a==b)=decide (a=b):=by rw [← h,ByteArray.toList_mk,ByteArray.toList_mk]
 simp only [execOp,c.ev g,c.ev f,Hz]
 simp [binOp_string_neq,d]
theorem PB (a b:List UInt8):(⟨a.toArray⟩:ByteArray)++⟨b.toArray⟩=⟨(a++b).toArray⟩:=by
 apply ByteArray.ext
 rw [ByteArray.data_append]
 simp
theorem Ct (i:ev E x=some (st a)) (f:ev E y=some (st b)) (j:a.length+b.length≤9223372036854775807):Ex P n E (.binOp .add t x y s) ty w (st (a++b)):=fun k c _ _ _ _=>by
 have g:¬(((ByteArray.size ⟨a.toArray⟩+ByteArray.size ⟨b.toArray⟩:Nat):Int)>IntKind.i64.max):=by
  show ¬(((a.toArray.size+b.toArray.size:Nat):Int)>9223372036854775807)
  simp
  omega
 have d:(Op.stringOp .add ⟨a.toArray⟩ ⟨b.toArray⟩).run P w= .ok (st (a++b)) w:=by
  unfold Op.stringOp
  simp only [if_neg g]
  rw [PB]
  rfl
 have h:eqGuard .add t x y (st a) (st b)=pure ():=rfl
 simp only [execOp,c.ev i,c.ev f,h]
 simp [binOp_string_add,d]
theorem Dw (d:P.underlying t=some .string) (f:ev E x=some (st a)):Ex P n E (.call {callee:= .builtin .len,args:= #[x],argTypes:= #[t]}) ty w (.int .i64 (a.length:Int)):=fun g c _ _ _ _=>by
 have:(ByteArray.mk a.toArray).size=a.length:=by show a.toArray.size=_;simp
 simp [execOp,resolve,invoke,builtin,c.ev f,run_len_string w t ty _ d,goInt,this]
theorem KX (a:List UInt8) (i j:Nat):(ByteArray.mk a.toArray).extract i j=⟨((a.drop i).take (j - i)).toArray⟩:=by
 apply ByteArray.ext
 simp [ByteArray.data_extract,List.extract_eq_take_drop]
theorem Gk {k l:IntKind} {i j:Int} (d c:Nat) (h:P.underlying t=some .string) (p:ev E x=some (st a)) (o:ev E y=some (.int k i)) (q:ev E z=some (.int l j)) (m:i=(d:Int)) (g:j=(c:Int)) (B:d≤c) (r:c≤a.length):
  Ex P n E (.slice t x (some y) (some z) none) ty w (st ((a.drop d).take (c - d))):=fun A f _ _ _ _=>by
 have hs:(ByteArray.mk a.toArray).size=a.length:=by show a.toArray.size=_;simp
 have:=run_slice_string (P:=P) w t ⟨a.toArray⟩ k l i j h (by omega) (by omega) (by rw [hs];omega)
 rw [KX,m,g] at this
 simp [execOp,f.ev p,f.ev o,f.ev q,run_sliceAt_string w t _ _ _ _ h,m,g,this]
theorem F9 {g l:TypeId} {d:TypeDesc} {M:Nat} {S:Value→Value→Prop} {k:Value} {i:TypeInfo} {zv:Value} (o:P.underlying t=some (.map g l)) (m:P.underlying g=some d) (A:ev E x=some (.map (some M))) (q:ev E y=some k) (p:MapKept.IsKey d k) (h:BX w M d S) (f:P.info? l=some i) (c:i.zero=some zv) (r:∀v,¬S k v):Ex P n E (.lookup t x y false) ty w zv:=fun a j _ _ _ _=>by
 rcases GU o m p h false (z:=zv) (by simp [zeroValue,typeInfo,f,c]) with ⟨v',f,c⟩|⟨-,c⟩
 ·exact absurd f (r v')
 ·simp [execOp,j.ev A,j.ev q,c]
end
theorem Pz (w:World) (k:Nat) (os:Array Obj) {B:Nat} (h:B≤w.heap.size):Below B w (Sort.grow (w.drewN k) os):=
 ⟨rfl,rfl,rfl,by show w.heap.size≤(w.heap++os).size;simp,fun k c=>by
  show (w.heap++os)[k]? =w.heap[k]?
  exact Array.getElem?_append_left (by omega)⟩
theorem BX.oth {w w' :World} {e:TypeId} {b:Nat} {M:Nat} {d:TypeDesc} {S:Value→Value→Prop} (h:BX w M d S) (g:Lib.OthersKept e (some b) w w') (j:M≠b):BX w' M d S:=by
 obtain ⟨i,c,h,f⟩:=h
 exact ⟨i,c,g M _ h (by intro e;exact j (Option.some.inj e)) (fun _ _ e=>by cases e),f⟩

section
variable {P : Program} {n : Nat} {E : BZ} {w : World} {ty : TypeId} {x y z : Operand} {t : TypeId} {a : List UInt8}
theorem Ev {k:IntKind} {i:Int} (j:Nat) (h:P.underlying t=some .string) (l:ev E x=some (st a)) (f:ev E y=some (.int k i)) (o:i=(j:Int)) (d:j<a.length):Ex P n E (.index t x y) ty w (.int .u8 ((a.getD j 0).toNat:Int)):=fun m c _ _ _ _=>by
 have hs:(ByteArray.mk a.toArray).size=a.length:=by show a.toArray.size=_;simp
 have b:=run_index_string (P:=P) (w:=w) t ⟨a.toArray⟩ k i h
 rw [dif_pos ⟨by omega,by rw [hs];omega⟩] at b
 have e:((ByteArray.mk a.toArray)[i.toNat]'(by rw [hs];omega))=a.getD j 0:=by
  have g:i.toNat=j:=by omega
  subst g
  rw [getD_eq_getElem?_getD,getElem?_eq_getElem d]
  rfl
 rw [e] at b
 simp [execOp,c.ev l,c.ev f,b]
theorem Ex.cutTl {k:IntKind} {i:Int} (j:Nat) (c:P.underlying t=some .string) (e:ev E x=some (st a)) (d:ev E y=some (.int k i)) (h:i=(j:Int)) (f:j≤a.length):Ex P n E (.slice t x (some y) none none) ty w (st (a.drop j)):=fun g b _ _ _ _=>by
 have hs:(ByteArray.mk a.toArray).size=a.length:=by show a.toArray.size=_;simp
 have:=run_slice_string_l (P:=P) w t ⟨a.toArray⟩ c k i (by omega) (by rw [hs];omega)
 rw [KX,hs,show i.toNat=j by omega,take_of_length_le (by rw [length_drop];omega)] at this
 simp [execOp,b.ev e,b.ev d,run_sliceAt_string w t _ _ _ _ c,this]
end
end Go.Dd

namespace Go.Proofs
open Go.Shelf
def Es:Go.Shelf.Ren:=⟨fun|169=>123|n=>n,fun|70=>119|9=>9|0=>0|72=>121|37=>28|127=>259|3=>3|5=>5|n=>n,fun|n=>n⟩
theorem Gf:Go.Proofs.Lays.n169 Tryz.prog Es:={
 mixed:=by kernel_rfl
 f169:=Tryz.func123.trans (congrArg some (by kernel_rfl))
 t0:=Tryz.underlying0
 a0:=Tryz.isAgg0
 z0:=Tryz.sizeOf0
 v0:=Tryz.zeroValue0
 t3:=Tryz.underlying3
 a3:=Tryz.isAgg3
 z3:=Tryz.sizeOf3
 v3:=Tryz.zeroValue3
 t9:=Tryz.underlying9
 a9:=Tryz.isAgg9
 z9:=Tryz.sizeOf9
 v9:=Tryz.zeroValue9
 t37:=Tryz.underlying28
 a37:=Tryz.isAgg28
 z37:=Tryz.sizeOf28
 v37:=Tryz.zeroValue28
 t70:=Tryz.underlying119
 a70:=Tryz.isAgg119
 z70:=Tryz.sizeOf119
 v70:=Tryz.zeroValue119
 t72:=Tryz.underlying121
 a72:=Tryz.isAgg121
 z72:=Tryz.sizeOf121
 v72:=Tryz.zeroValue121
 t127:=Tryz.underlying259
 a127:=Tryz.isAgg259
 z127:=Tryz.sizeOf259
 v127:=Tryz.zeroValue259}
theorem Ew:Builder.Extra Tryz.prog Es:={
 sizeBuilder:=by kernel_rfl
 liesBuilder:=by kernel_rfl
 t5:=Tryz.underlying5
 a5:=Tryz.isAgg5
 z5:=Tryz.sizeOf5
 v5:=Tryz.zeroValue5
 infoByte:=by kernel_rfl
 cellsByte:=by kernel_rfl
 sizeByte:=by kernel_rfl
 neB5:=by decide}
def Et:Go.Shelf.Ren:=⟨fun|156=>122|165=>203|166=>121|169=>123|240=>202|241=>242|276=>241|277=>268|n=>n,fun|31=>126|9=>9|3=>3|4=>4|0=>0|20=>20|72=>121|76=>130|70=>119|37=>28|75=>129|127=>259|164=>296|5=>5|80=>133|n=>n,fun|n=>n⟩
theorem Fe:Go.Proofs.Lays.n156 Tryz.prog Et:={
 mixed:=by kernel_rfl
 f156:=Tryz.func122.trans (congrArg some (by kernel_rfl))
 f165:=Tryz.func203.trans (congrArg some (by kernel_rfl))
 f166:=Tryz.func121.trans (congrArg some (by kernel_rfl))
 f169:=Tryz.func123.trans (congrArg some (by kernel_rfl))
 f240:=Tryz.func202.trans (congrArg some (by kernel_rfl))
 f241:=Tryz.func242.trans (congrArg some (by kernel_rfl))
 f276:=Tryz.func241.trans (congrArg some (by kernel_rfl))
 f277:=Tryz.func268.trans (congrArg some (by kernel_rfl))
 t0:=Tryz.underlying0
 a0:=Tryz.isAgg0
 z0:=Tryz.sizeOf0
 v0:=Tryz.zeroValue0
 t3:=Tryz.underlying3
 a3:=Tryz.isAgg3
 z3:=Tryz.sizeOf3
 v3:=Tryz.zeroValue3
 t4:=Tryz.underlying4
 a4:=Tryz.isAgg4
 z4:=Tryz.sizeOf4
 v4:=Tryz.zeroValue4
 t9:=Tryz.underlying9
 a9:=Tryz.isAgg9
 z9:=Tryz.sizeOf9
 v9:=Tryz.zeroValue9
 t20:=Tryz.underlying20
 a20:=Tryz.isAgg20
 z20:=Tryz.sizeOf20
 v20:=Tryz.zeroValue20
 t31:=Tryz.underlying126
 a31:=Tryz.isAgg126
 z31:=Tryz.sizeOf126
 v31:=Tryz.zeroValue126
 t37:=Tryz.underlying28
 a37:=Tryz.isAgg28
 z37:=Tryz.sizeOf28
 v37:=Tryz.zeroValue28
 t70:=Tryz.underlying119
 a70:=Tryz.isAgg119
 z70:=Tryz.sizeOf119
 v70:=Tryz.zeroValue119
 t72:=Tryz.underlying121
 a72:=Tryz.isAgg121
 z72:=Tryz.sizeOf121
 v72:=Tryz.zeroValue121
 t75:=Tryz.underlying129
 a75:=Tryz.isAgg129
 z75:=Tryz.sizeOf129
 v75:=Tryz.zeroValue129
 t76:=Tryz.underlying130
 a76:=Tryz.isAgg130
 z76:=Tryz.sizeOf130
 v76:=Tryz.zeroValue130
 t127:=Tryz.underlying259
 a127:=Tryz.isAgg259
 z127:=Tryz.sizeOf259
 v127:=Tryz.zeroValue259
 t164:=Tryz.underlying296
 a164:=Tryz.isAgg296
 z164:=Tryz.sizeOf296
 v164:=Tryz.zeroValue296}
theorem D3:Builder.Extra Tryz.prog Et:={
 sizeBuilder:=by kernel_rfl
 liesBuilder:=by kernel_rfl
 t5:=Tryz.underlying5
 a5:=Tryz.isAgg5
 z5:=Tryz.sizeOf5
 v5:=Tryz.zeroValue5
 infoByte:=by kernel_rfl
 cellsByte:=by kernel_rfl
 sizeByte:=by kernel_rfl
 neB5:=by decide}
open Go.RowKit in
theorem E8 (f o c:Nat) (xs:List ByteArray) (a:ByteArray) (w:World) (AO:∀(j:Nat) x,xs[j]? =some x→w.cell? ⟨f,o+j,none⟩=some (.string x)) (g:f<w.heap.size) (h:xs.length≤140737488355328) (b:xs.length≤c) (d:(Lib.join (xs.map (·.data.toList)) a.data.toList).length≤140737488355328):
  Calls Tryz.prog 122 #[.slice (some ⟨f,o,none⟩) xs.length c, .string a] w fun e w' =>e= .returned (.string ⟨(Lib.join (xs.map (·.data.toList)) a.data.toList).toArray⟩)∧Below w.heap.size w w' :=Any.strings_Join Fe D3 f o c xs a w AO g h b d
def Fs:Go.Shelf.Ren:=⟨fun|283=>278|n=>n,fun|3=>3|9=>9|4=>4|n=>n,fun|n=>n⟩
theorem Ge:Go.Proofs.Lays.n283 Tryz.prog Fs:={
 mixed:=by kernel_rfl
 f283:=Tryz.func278.trans (congrArg some (by kernel_rfl))
 t3:=Tryz.underlying3
 a3:=Tryz.isAgg3
 z3:=Tryz.sizeOf3
 v3:=Tryz.zeroValue3
 t4:=Tryz.underlying4
 a4:=Tryz.isAgg4
 z4:=Tryz.sizeOf4
 v4:=Tryz.zeroValue4
 t9:=Tryz.underlying9
 a9:=Tryz.isAgg9
 z9:=Tryz.sizeOf9
 v9:=Tryz.zeroValue9}
open Go.Lib in
theorem Eb (i:Nat) (h:i<100) (w:World):
  Calls Tryz.prog 278 #[.int .i64 i] w fun e w' =>e= .returned (.string ⟨(Lib.decDigits i).toArray⟩)∧w' =w:=Any.internal_strconv_small Ge i h w
def Fb:Go.Shelf.Ren:=⟨fun|284=>279|129=>292|317=>291|318=>293|n=>n,fun|53=>318|3=>3|212=>332|0=>0|4=>4|46=>155|5=>5|9=>9|n=>n,fun|17=>1|n=>n⟩
theorem F7:Go.Proofs.LaysM.n284 Tryz.prog Fb:={
 mixed:=by kernel_rfl
 f129:=Tryz.func292.trans (congrArg some (by kernel_rfl))
 f284:=Tryz.func279.trans (congrArg some (by kernel_rfl))
 f317:=Tryz.func291.trans (congrArg some (by kernel_rfl))
 f318:=Tryz.func293.trans (congrArg some (by kernel_rfl))
 t0:=Tryz.underlying0
 a0:=Tryz.isAgg0
 z0:=Tryz.sizeOf0
 v0:=Tryz.zeroValue0
 t3:=Tryz.underlying3
 a3:=Tryz.isAgg3
 z3:=Tryz.sizeOf3
 v3:=Tryz.zeroValue3
 t4:=Tryz.underlying4
 a4:=Tryz.isAgg4
 z4:=Tryz.sizeOf4
 v4:=Tryz.zeroValue4
 t5:=Tryz.underlying5
 a5:=Tryz.isAgg5
 z5:=Tryz.sizeOf5
 v5:=Tryz.zeroValue5
 t9:=Tryz.underlying9
 a9:=Tryz.isAgg9
 z9:=Tryz.sizeOf9
 v9:=Tryz.zeroValue9
 t46:=Tryz.underlying155
 a46:=Tryz.isAgg155
 z46:=Tryz.sizeOf155
 v46:=Tryz.zeroValue155
 t53:=Tryz.underlying318
 a53:=Tryz.isAgg318
 z53:=Tryz.sizeOf318
 v53:=Tryz.zeroValue318
 t212:=Tryz.underlying332
 a212:=Tryz.isAgg332
 z212:=Tryz.sizeOf332
 v212:=Tryz.zeroValue332
 g17:=by kernel_rfl
 i0:=by kernel_rfl
 i3:=by kernel_rfl
 i4:=by kernel_rfl
 i5:=by kernel_rfl
 i9:=by kernel_rfl
 i46:=by kernel_rfl
 i53:=by kernel_rfl
 i212:=by kernel_rfl
 m17:=by kernel_rfl}
open Go.Lib in
theorem D6 (u : Nat) (b : 1 ≤ u) (c : u < 18446744073709551616) (w : World) (a : Lib.TabIs Tryz.prog w "internal/strconv.uint64pow10" .u64 Lib.pow10Tab) :
  Calls Tryz.prog 279 #[.int .u64 u] w fun e w' =>e= .returned (.int .i64 (Lib.nDigits u))∧w' =w:=Any.internal_strconv_numDigits F7 u b c w a
def Fq:Go.Shelf.Ren:=⟨fun|285=>280|n=>n,fun|37=>28|53=>318|3=>3|4=>4|51=>82|9=>9|5=>5|0=>0|n=>n,fun|n=>n⟩
theorem Gd:Go.Proofs.Lays.n285 Tryz.prog Fq:={
 mixed:=by kernel_rfl
 f285:=Tryz.func280.trans (congrArg some (by kernel_rfl))
 t0:=Tryz.underlying0
 a0:=Tryz.isAgg0
 z0:=Tryz.sizeOf0
 v0:=Tryz.zeroValue0
 t3:=Tryz.underlying3
 a3:=Tryz.isAgg3
 z3:=Tryz.sizeOf3
 v3:=Tryz.zeroValue3
 t4:=Tryz.underlying4
 a4:=Tryz.isAgg4
 z4:=Tryz.sizeOf4
 v4:=Tryz.zeroValue4
 t5:=Tryz.underlying5
 a5:=Tryz.isAgg5
 z5:=Tryz.sizeOf5
 v5:=Tryz.zeroValue5
 t9:=Tryz.underlying9
 a9:=Tryz.isAgg9
 z9:=Tryz.sizeOf9
 v9:=Tryz.zeroValue9
 t37:=Tryz.underlying28
 a37:=Tryz.isAgg28
 z37:=Tryz.sizeOf28
 v37:=Tryz.zeroValue28
 t51:=Tryz.underlying82
 a51:=Tryz.isAgg82
 z51:=Tryz.sizeOf82
 v51:=Tryz.zeroValue82
 t53:=Tryz.underlying318
 a53:=Tryz.isAgg318
 z53:=Tryz.sizeOf318
 v53:=Tryz.zeroValue318}
open Go.RowKit Go.Sort Go.Lib in
theorem D0 (a off cap:Nat) (u:Nat) (d:Array UInt8) (w:World) (h:Holds (fun (b:UInt8)=>Value.int .u8 (b.toNat:Int)) w a off d) (i:u<10 ^ d.size) (c:u<18446744073709551616) (f:d.size<4611686018427387904):
  Calls Tryz.prog 280 #[.slice (some ⟨a,off,none⟩) d.size cap, .int .u64 u] w fun e w' =>
   e= .returned (.tuple #[])∧∃(n v' :Nat) (g:Array UInt8),w' =(putRow (fun (b:UInt8)=>Value.int .u8 (b.toNat:Int)) w a off g).drewN n∧FmtInv d.size u 0 v' g:=Any.internal_strconv_formatBase10 Gd a off cap u d w h i c f
def Fc:Go.Shelf.Ren:=⟨fun|171=>201|243=>240|246=>267|283=>278|284=>279|285=>280|286=>281|129=>292|317=>291|318=>293|319=>294|320=>295|337=>304|338=>305|n=>n,fun|3=>3|9=>9|2=>2|4=>4|171=>324|0=>0|53=>318|37=>28|5=>5|173=>327|212=>332|51=>82|20=>20|213=>333|46=>155|232=>352|233=>353|n=>n,fun|17=>1|18=>6|19=>7|n=>n⟩
theorem F8:Go.Proofs.LaysM.n171 Tryz.prog Fc:={
 mixed:=by kernel_rfl
 f129:=Tryz.func292.trans (congrArg some (by kernel_rfl))
 f171:=Tryz.func201.trans (congrArg some (by kernel_rfl))
 f243:=Tryz.func240.trans (congrArg some (by kernel_rfl))
 f246:=Tryz.func267.trans (congrArg some (by kernel_rfl))
 f283:=Tryz.func278.trans (congrArg some (by kernel_rfl))
 f284:=Tryz.func279.trans (congrArg some (by kernel_rfl))
 f285:=Tryz.func280.trans (congrArg some (by kernel_rfl))
 f286:=Tryz.func281.trans (congrArg some (by kernel_rfl))
 f317:=Tryz.func291.trans (congrArg some (by kernel_rfl))
 f318:=Tryz.func293.trans (congrArg some (by kernel_rfl))
 f319:=Tryz.func294.trans (congrArg some (by kernel_rfl))
 f320:=Tryz.func295.trans (congrArg some (by kernel_rfl))
 f337:=Tryz.func304.trans (congrArg some (by kernel_rfl))
 f338:=Tryz.func305.trans (congrArg some (by kernel_rfl))
 t0:=Tryz.underlying0
 a0:=Tryz.isAgg0
 z0:=Tryz.sizeOf0
 v0:=Tryz.zeroValue0
 t2:=Tryz.underlying2
 a2:=Tryz.isAgg2
 z2:=Tryz.sizeOf2
 v2:=Tryz.zeroValue2
 t3:=Tryz.underlying3
 a3:=Tryz.isAgg3
 z3:=Tryz.sizeOf3
 v3:=Tryz.zeroValue3
 t4:=Tryz.underlying4
 a4:=Tryz.isAgg4
 z4:=Tryz.sizeOf4
 v4:=Tryz.zeroValue4
 t5:=Tryz.underlying5
 a5:=Tryz.isAgg5
 z5:=Tryz.sizeOf5
 v5:=Tryz.zeroValue5
 t9:=Tryz.underlying9
 a9:=Tryz.isAgg9
 z9:=Tryz.sizeOf9
 v9:=Tryz.zeroValue9
 t20:=Tryz.underlying20
 a20:=Tryz.isAgg20
 z20:=Tryz.sizeOf20
 v20:=Tryz.zeroValue20
 t37:=Tryz.underlying28
 a37:=Tryz.isAgg28
 z37:=Tryz.sizeOf28
 v37:=Tryz.zeroValue28
 t46:=Tryz.underlying155
 a46:=Tryz.isAgg155
 z46:=Tryz.sizeOf155
 v46:=Tryz.zeroValue155
 t51:=Tryz.underlying82
 a51:=Tryz.isAgg82
 z51:=Tryz.sizeOf82
 v51:=Tryz.zeroValue82
 t53:=Tryz.underlying318
 a53:=Tryz.isAgg318
 z53:=Tryz.sizeOf318
 v53:=Tryz.zeroValue318
 t171:=Tryz.underlying324
 a171:=Tryz.isAgg324
 z171:=Tryz.sizeOf324
 v171:=Tryz.zeroValue324
 t173:=Tryz.underlying327
 a173:=Tryz.isAgg327
 z173:=Tryz.sizeOf327
 v173:=Tryz.zeroValue327
 t212:=Tryz.underlying332
 a212:=Tryz.isAgg332
 z212:=Tryz.sizeOf332
 v212:=Tryz.zeroValue332
 t213:=Tryz.underlying333
 a213:=Tryz.isAgg333
 z213:=Tryz.sizeOf333
 t232:=Tryz.underlying352
 a232:=Tryz.isAgg352
 z232:=Tryz.sizeOf352
 v232:=Tryz.zeroValue352
 t233:=Tryz.underlying353
 a233:=Tryz.isAgg353
 z233:=Tryz.sizeOf353
 v233:=Tryz.zeroValue353
 g17:=by kernel_rfl
 g18:=by kernel_rfl
 g19:=by kernel_rfl
 i0:=by kernel_rfl
 i2:=by kernel_rfl
 i3:=by kernel_rfl
 i4:=by kernel_rfl
 i5:=by kernel_rfl
 i9:=by kernel_rfl
 i20:=by kernel_rfl
 i37:=by kernel_rfl
 i46:=by kernel_rfl
 i51:=by kernel_rfl
 i53:=by kernel_rfl
 i171:=by kernel_rfl
 i173:=by kernel_rfl
 i212:=by kernel_rfl
 i232:=by kernel_rfl
 i233:=by kernel_rfl
 m17:=by kernel_rfl
 m18:=by kernel_rfl
 m19:=by kernel_rfl}
open Go.RowKit Go.Sort Go.Lib in
theorem E9 (n : Int) (c : -9223372036854775808 ≤ n) (b : n ≤ 9223372036854775807) (w : World) (a : Lib.TabIs Tryz.prog w "internal/strconv.uint64pow10" .u64 Lib.pow10Tab) :
  Calls Tryz.prog 201 #[.int .i64 n] w fun e w' =>e= .returned (.string ⟨(Lib.itoa n).toArray⟩)∧∃k os,w' =grow (w.drewN k) os:=Any.strconv_Itoa F8 n c b w a
def Fa:Go.Shelf.Ren:=⟨fun|14=>273|16=>287|17=>288|19=>298|20=>299|21=>300|22=>301|23=>302|24=>303|25=>306|27=>201|26=>307|28=>240|29=>267|30=>278|31=>279|32=>280|33=>281|35=>292|34=>291|36=>293|37=>294|38=>295|39=>304|40=>305|n=>n,fun|9=>9|3=>3|22=>318|24=>129|25=>319|4=>4|34=>341|5=>5|36=>155|37=>28|0=>0|39=>344|21=>21|44=>350|47=>259|50=>356|48=>354|2=>2|52=>324|55=>327|59=>332|60=>82|20=>20|61=>333|65=>352|66=>353|67=>133|n=>n,fun|0=>4|1=>5|2=>1|3=>6|4=>7|n=>n⟩
theorem Eo:Go.Proofs.LaysPu.n14 Tryz.prog Fa:={
 mixed:=by kernel_rfl
 f14:=Tryz.func273.trans (congrArg some (by kernel_rfl))
 f16:=Tryz.func287.trans (congrArg some (by kernel_rfl))
 f17:=Tryz.func288.trans (congrArg some (by kernel_rfl))
 f19:=Tryz.func298.trans (congrArg some (by kernel_rfl))
 f20:=Tryz.func299.trans (congrArg some (by kernel_rfl))
 f21:=Tryz.func300.trans (congrArg some (by kernel_rfl))
 f22:=Tryz.func301.trans (congrArg some (by kernel_rfl))
 f23:=Tryz.func302.trans (congrArg some (by kernel_rfl))
 f24:=Tryz.func303.trans (congrArg some (by kernel_rfl))
 f25:=Tryz.func306.trans (congrArg some (by kernel_rfl))
 f26:=Tryz.func307.trans (congrArg some (by kernel_rfl))
 f27:=Tryz.func201.trans (congrArg some (by kernel_rfl))
 f28:=Tryz.func240.trans (congrArg some (by kernel_rfl))
 f29:=Tryz.func267.trans (congrArg some (by kernel_rfl))
 f30:=Tryz.func278.trans (congrArg some (by kernel_rfl))
 f31:=Tryz.func279.trans (congrArg some (by kernel_rfl))
 f32:=Tryz.func280.trans (congrArg some (by kernel_rfl))
 f33:=Tryz.func281.trans (congrArg some (by kernel_rfl))
 f34:=Tryz.func291.trans (congrArg some (by kernel_rfl))
 f35:=Tryz.func292.trans (congrArg some (by kernel_rfl))
 f36:=Tryz.func293.trans (congrArg some (by kernel_rfl))
 f37:=Tryz.func294.trans (congrArg some (by kernel_rfl))
 f38:=Tryz.func295.trans (congrArg some (by kernel_rfl))
 f39:=Tryz.func304.trans (congrArg some (by kernel_rfl))
 f40:=Tryz.func305.trans (congrArg some (by kernel_rfl))
 t0:=Tryz.underlying0
 a0:=Tryz.isAgg0
 z0:=Tryz.sizeOf0
 v0:=Tryz.zeroValue0
 i0:=by kernel_rfl
 t2:=Tryz.underlying2
 a2:=Tryz.isAgg2
 z2:=Tryz.sizeOf2
 v2:=Tryz.zeroValue2
 i2:=by kernel_rfl
 t3:=Tryz.underlying3
 a3:=Tryz.isAgg3
 z3:=Tryz.sizeOf3
 v3:=Tryz.zeroValue3
 i3:=by kernel_rfl
 t4:=Tryz.underlying4
 a4:=Tryz.isAgg4
 z4:=Tryz.sizeOf4
 v4:=Tryz.zeroValue4
 i4:=by kernel_rfl
 t5:=Tryz.underlying5
 a5:=Tryz.isAgg5
 z5:=Tryz.sizeOf5
 v5:=Tryz.zeroValue5
 i5:=by kernel_rfl
 t9:=Tryz.underlying9
 a9:=Tryz.isAgg9
 z9:=Tryz.sizeOf9
 v9:=Tryz.zeroValue9
 i9:=by kernel_rfl
 t20:=Tryz.underlying20
 a20:=Tryz.isAgg20
 z20:=Tryz.sizeOf20
 v20:=Tryz.zeroValue20
 i20:=by kernel_rfl
 t21:=Tryz.underlying21
 a21:=Tryz.isAgg21
 z21:=Tryz.sizeOf21
 v21:=Tryz.zeroValue21
 i21:=by kernel_rfl
 t22:=Tryz.underlying318
 a22:=Tryz.isAgg318
 z22:=Tryz.sizeOf318
 v22:=Tryz.zeroValue318
 i22:=by kernel_rfl
 t24:=Tryz.underlying129
 a24:=Tryz.isAgg129
 z24:=Tryz.sizeOf129
 v24:=Tryz.zeroValue129
 i24:=by kernel_rfl
 t25:=Tryz.underlying319
 a25:=Tryz.isAgg319
 z25:=Tryz.sizeOf319
 v25:=Tryz.zeroValue319
 i25:=by kernel_rfl
 t34:=Tryz.underlying341
 a34:=Tryz.isAgg341
 z34:=Tryz.sizeOf341
 v34:=Tryz.zeroValue341
 i34:=by kernel_rfl
 c34:=by kernel_rfl
 t36:=Tryz.underlying155
 a36:=Tryz.isAgg155
 z36:=Tryz.sizeOf155
 v36:=Tryz.zeroValue155
 i36:=by kernel_rfl
 t37:=Tryz.underlying28
 a37:=Tryz.isAgg28
 z37:=Tryz.sizeOf28
 v37:=Tryz.zeroValue28
 i37:=by kernel_rfl
 t39:=Tryz.underlying344
 a39:=Tryz.isAgg344
 z39:=Tryz.sizeOf344
 v39:=Tryz.zeroValue344
 i39:=by kernel_rfl
 t44:=Tryz.underlying350
 a44:=Tryz.isAgg350
 z44:=Tryz.sizeOf350
 v44:=Tryz.zeroValue350
 i44:=by kernel_rfl
 t47:=Tryz.underlying259
 a47:=Tryz.isAgg259
 z47:=Tryz.sizeOf259
 v47:=Tryz.zeroValue259
 i47:=by kernel_rfl
 t48:=Tryz.underlying354
 a48:=Tryz.isAgg354
 z48:=Tryz.sizeOf354
 v48:=Tryz.zeroValue354
 i48:=by kernel_rfl
 t50:=Tryz.underlying356
 a50:=Tryz.isAgg356
 z50:=Tryz.sizeOf356
 v50:=Tryz.zeroValue356
 i50:=by kernel_rfl
 t52:=Tryz.underlying324
 a52:=Tryz.isAgg324
 z52:=Tryz.sizeOf324
 v52:=Tryz.zeroValue324
 i52:=by kernel_rfl
 t55:=Tryz.underlying327
 a55:=Tryz.isAgg327
 z55:=Tryz.sizeOf327
 v55:=Tryz.zeroValue327
 i55:=by kernel_rfl
 t59:=Tryz.underlying332
 a59:=Tryz.isAgg332
 z59:=Tryz.sizeOf332
 v59:=Tryz.zeroValue332
 i59:=by kernel_rfl
 t60:=Tryz.underlying82
 a60:=Tryz.isAgg82
 z60:=Tryz.sizeOf82
 v60:=Tryz.zeroValue82
 i60:=by kernel_rfl
 t61:=Tryz.underlying333
 a61:=Tryz.isAgg333
 z61:=Tryz.sizeOf333
 t65:=Tryz.underlying352
 a65:=Tryz.isAgg352
 z65:=Tryz.sizeOf352
 v65:=Tryz.zeroValue352
 i65:=by kernel_rfl
 t66:=Tryz.underlying353
 a66:=Tryz.isAgg353
 z66:=Tryz.sizeOf353
 v66:=Tryz.zeroValue353
 i66:=by kernel_rfl
 t67:=Tryz.underlying133
 a67:=Tryz.isAgg133
 z67:=Tryz.sizeOf133
 v67:=Tryz.zeroValue133
 i67:=by kernel_rfl
 g0:=by kernel_rfl
 m0:=by kernel_rfl
 g1:=by kernel_rfl
 m1:=by kernel_rfl
 g2:=by kernel_rfl
 m2:=by kernel_rfl
 g3:=by kernel_rfl
 m3:=by kernel_rfl
 g4:=by kernel_rfl
 m4:=by kernel_rfl}
open Go.RowKit in
theorem D2 (s:ByteArray) (a:s.size≤9223372036854775806) (u:Nat) (h:Lib.parseUintB 32 s.data.toList= .ok u) (w:World):
  Calls Tryz.prog 273 #[.string s, .int .i64 10, .int .i64 32] w fun e w' =>e= .returned (.tuple #[.int .u64 u, .nilIface])∧(w' =w∨w' =Lib.bytesWorld w 5 s):=Any.strconv_ParseUint_10_at32_ok Eo s a u h w
open Go.RowKit in
theorem Dr (s:ByteArray) (a:s.size≤281474976710656) (h:Lib.parseUintB 32 s.data.toList=Lib.parseUintB 32 []) (ev:Value) (w:World) (d:w.cell? ⟨4,0,none⟩=some ev) (b:ev= .nilIface∨∃c f,ev= .iface c f):
  Calls Tryz.prog 273 #[.string s, .int .i64 10, .int .i64 32] w fun e w' =>∃N,e= .returned (.tuple #[.int .u64 0, .iface 344 (.pointer (some ⟨N,0,none⟩))])∧w.heap.size≤N∧w'.heap[N]? =some (.cells #[.string ⟨#[80,97,114,115,101,85,105,110,116]⟩, .string s,ev] 350 (0,0))∧Below w.heap.size w w' :=Any.strconv_ParseUint_10_at32_syntax Eo s a h ev w d b
open Go.RowKit in
theorem Dy (s:ByteArray) (a:s.size≤281474976710656) (h:Lib.parseUintB 32 s.data.toList= .range) (ev:Value) (w:World) (d:w.cell? ⟨5,0,none⟩=some ev) (b:ev= .nilIface∨∃c f,ev= .iface c f):
  Calls Tryz.prog 273 #[.string s, .int .i64 10, .int .i64 32] w fun e w' =>∃N,e= .returned (.tuple #[.int .u64 4294967295, .iface 344 (.pointer (some ⟨N,0,none⟩))])∧w.heap.size≤N∧w'.heap[N]? =some (.cells #[.string ⟨#[80,97,114,115,101,85,105,110,116]⟩, .string s,ev] 350 (0,0))∧Below w.heap.size w w' :=Any.strconv_ParseUint_10_at32_range Eo s a h ev w d b
def Ft:Go.Shelf.Ren:=⟨fun|146=>125|221=>206|268=>243|138=>244|143=>245|195=>269|197=>270|218=>271|219=>272|260=>282|217=>283|225=>284|224=>285|267=>286|266=>296|314=>297|n=>n,fun|9=>9|31=>126|3=>3|4=>4|0=>0|105=>315|21=>21|5=>5|46=>155|119=>335|139=>338|138=>337|146=>339|51=>82|n=>n,fun|1=>0|3=>2|4=>3|n=>n⟩
theorem Gg:Go.Proofs.Lays.n146 Tryz.prog Ft:={
 mixed:=by kernel_rfl
 f138:=Tryz.func244.trans (congrArg some (by kernel_rfl))
 f143:=Tryz.func245.trans (congrArg some (by kernel_rfl))
 f146:=Tryz.func125.trans (congrArg some (by kernel_rfl))
 f195:=Tryz.func269.trans (congrArg some (by kernel_rfl))
 f197:=Tryz.func270.trans (congrArg some (by kernel_rfl))
 f217:=Tryz.func283.trans (congrArg some (by kernel_rfl))
 f218:=Tryz.func271.trans (congrArg some (by kernel_rfl))
 f219:=Tryz.func272.trans (congrArg some (by kernel_rfl))
 f221:=Tryz.func206.trans (congrArg some (by kernel_rfl))
 f224:=Tryz.func285.trans (congrArg some (by kernel_rfl))
 f225:=Tryz.func284.trans (congrArg some (by kernel_rfl))
 f260:=Tryz.func282.trans (congrArg some (by kernel_rfl))
 f266:=Tryz.func296.trans (congrArg some (by kernel_rfl))
 f267:=Tryz.func286.trans (congrArg some (by kernel_rfl))
 f268:=Tryz.func243.trans (congrArg some (by kernel_rfl))
 f314:=Tryz.func297.trans (congrArg some (by kernel_rfl))
 t0:=Tryz.underlying0
 a0:=Tryz.isAgg0
 z0:=Tryz.sizeOf0
 v0:=Tryz.zeroValue0
 t3:=Tryz.underlying3
 a3:=Tryz.isAgg3
 z3:=Tryz.sizeOf3
 v3:=Tryz.zeroValue3
 t4:=Tryz.underlying4
 a4:=Tryz.isAgg4
 z4:=Tryz.sizeOf4
 v4:=Tryz.zeroValue4
 t5:=Tryz.underlying5
 a5:=Tryz.isAgg5
 z5:=Tryz.sizeOf5
 v5:=Tryz.zeroValue5
 t9:=Tryz.underlying9
 a9:=Tryz.isAgg9
 z9:=Tryz.sizeOf9
 v9:=Tryz.zeroValue9
 t21:=Tryz.underlying21
 a21:=Tryz.isAgg21
 z21:=Tryz.sizeOf21
 v21:=Tryz.zeroValue21
 t31:=Tryz.underlying126
 a31:=Tryz.isAgg126
 z31:=Tryz.sizeOf126
 v31:=Tryz.zeroValue126
 t46:=Tryz.underlying155
 a46:=Tryz.isAgg155
 z46:=Tryz.sizeOf155
 v46:=Tryz.zeroValue155
 t51:=Tryz.underlying82
 a51:=Tryz.isAgg82
 z51:=Tryz.sizeOf82
 v51:=Tryz.zeroValue82
 t105:=Tryz.underlying315
 a105:=Tryz.isAgg315
 z105:=Tryz.sizeOf315
 v105:=Tryz.zeroValue315
 t119:=Tryz.underlying335
 a119:=Tryz.isAgg335
 z119:=Tryz.sizeOf335
 t138:=Tryz.underlying337
 a138:=Tryz.isAgg337
 z138:=Tryz.sizeOf337
 v138:=Tryz.zeroValue337
 t139:=Tryz.underlying338
 a139:=Tryz.isAgg338
 z139:=Tryz.sizeOf338
 v139:=Tryz.zeroValue338
 t146:=Tryz.underlying339
 a146:=Tryz.isAgg339
 z146:=Tryz.sizeOf339
 v146:=Tryz.zeroValue339
 g1:=by kernel_rfl
 g3:=by kernel_rfl
 g4:=by kernel_rfl}
open Go.RowKit in
theorem Eg (B b:Nat) (bs:List Value) (s:ByteArray) (w:World) (h:Lib.IsBuilderF 121 5 B b bs w) (a:bs.length+s.size≤140737488355328) (c:B≤w.heap.size):
  Calls Tryz.prog 121 #[.pointer (some ⟨b,0,none⟩), .string s] w fun e w' =>e= .returned (.tuple #[.int .i64 s.size, .nilIface])∧(Lib.BuilderAtF 121 5 B b (.pointer (some ⟨b,0,none⟩)) (bs++Lib.strCells s) w' ∧Below B w w' ∧Lib.OthersKept 5 (some b) w w'):=Any.Builder_WriteString_k {Fe with} D3 B b bs s w h a c
open Go.RowKit in
theorem El (B b:Nat) (l:List UInt8) (w:World) (h:Lib.IsBuilderF 121 5 B b (Lib.byteCells l) w) (a:B≤w.heap.size):
  Calls Tryz.prog 123 #[.pointer (some ⟨b,0,none⟩)] w fun e w' =>e= .returned (.string ⟨l.toArray⟩)∧(Lib.IsBuilderF 121 5 B b (Lib.byteCells l) w' ∧Below B w w' ∧Lib.OthersKept 5 (some b) w w'):=Any.Builder_String_any_k Gf Ew B b l w h a
open Go.RowKit Go.Lib in
theorem E7 (s a:ByteArray) (m:Int) (w:World) (hs:s.size<4294967281) (c:w.cell? ⟨0,0,none⟩=some (.int .i64 m)) (b:1≤a.size):
  Calls Tryz.prog 125 #[.string s, .string a] w fun e w' =>
   e= .returned (.slice (some ⟨w.heap.size,0,none⟩) (Lib.countB s a+1) (Lib.countB s a+1))∧w' =w.alloc (.cells ((Lib.splitB a 0 (Lib.countB s a) s).map Value.string).toArray 9):=Any.strings_Split Gg (by kernel_rfl) s a m w hs c b
end Go.Proofs

namespace Go.Proofs.YtblbopcaflaldaaGreatDoor
open Go Go.Dd Go.RowKit List Go.Proofs.Tryz
set_option maxRecDepth 100000
structure Jr (w:World):Prop where
 m:∃m,w.cell? ⟨0,0,none⟩=some (.int .i64 m)
 tab : Lib.TabIs prog w "internal/strconv.uint64pow10" .u64 Lib.pow10Tab
 es:∃te pe,w.cell? ⟨4,0,none⟩=some (.iface te pe)
 er:∃te pe,w.cell? ⟨5,0,none⟩=some (.iface te pe)
 sz:6≤w.heap.size
theorem Jr.below {w w' :World} {B:Nat} (h:Jr w) (g:Below B w w') (f:6≤B):Jr w' :=by
 have c:∀k,k<6→∀j,w'.cell? ⟨k,j,none⟩=w.cell? ⟨k,j,none⟩:=fun k d j=>World.cell?_of_block (g.block k (by omega))
 refine ⟨?_, ?_, ?_, ?_,by have:=h.sz;have:=g.size;omega⟩
 ·obtain ⟨m,e⟩:=h.m
  exact ⟨m,by rw [c 0 (by decide)];exact e⟩
 ·have b : Tryz.prog.globalNamed "internal/strconv.uint64pow10" = some 1 := by kernel_rfl
  have a:=h.tab
  unfold Lib.TabIs World.var? at a ⊢
  rw [b] at a ⊢
  simp only [Option.bind_some] at a ⊢
  rw [g.block 1 (by omega)]
  exact a
 ·obtain ⟨t,p,e⟩:=h.es
  exact ⟨t,p,by rw [c 4 (by decide)];exact e⟩
 ·obtain ⟨t,p,e⟩:=h.er
  exact ⟨t,p,by rw [c 5 (by decide)];exact e⟩
theorem Jr.bs {w w' :World} (h:Jr w) (g:Below w.heap.size w w'):Jr w' :=h.below g h.sz
theorem GY {f : FuncId} {a : Func} {args : List Value} {w : World} {R : Value → World → Prop} (c : Tryz.prog.funcs[f]? = some a) (b : (a.name == "runtime.NumGoroutine") = false) (d : a.body.isSome = true) (h : Calls prog f args.toArray w (fun e w' => ∃ v, e = .returned v ∧ R v w')) : AJ prog f args w R := ⟨⟨a, c, b, d⟩, h⟩
theorem TN (n:Int) (w:World) (h:Jr w) (d: -9223372036854775808≤n) (c:n≤9223372036854775807):AJ prog 201 [.int .i64 n] w (fun r w' =>r=st (Lib.itoa n)∧Below w.heap.size w w'):=
 GY func201 (by kernel_rfl) (by kernel_rfl)<|(E9 n d c w h.tab).mono fun e w' ⟨b,k,os,a⟩=>⟨_,b,rfl,a ▸ Pz w k os (AX _)⟩
def ba (l:List UInt8):ByteArray:=⟨l.toArray⟩
theorem FJ (l:List UInt8):(ba l).data.toList=l:=by unfold ba;simp
theorem J1 (l:List UInt8):(ba l).size=l.length:=by show l.toArray.size=_;simp
theorem TL (v:Value) (xs:List (List UInt8)) (d:List UInt8) (w:World) (B:Nat) (h:w.ownsRow B 9 1 v xs.length (xs.map st)) (E:0<xs.length) (p:(Lib.join xs d).length≤140737488355328) (F:xs.length≤140737488355328):
  AJ prog 122 [v,st d] w (fun r w' =>r=st (Lib.join xs d)∧Below w.heap.size w w'):=by
 have hs:=AG h
 have l:=AF h
 rcases h.2 with ⟨_,g⟩|⟨b,cap,o,rfl,D,y,A,G,z,C⟩
 ·omega
 ·obtain ⟨_,u,i,s,_,_,_,t⟩:=hs
  cases s
  have k:(xs.map ba).map (·.data.toList)=xs:=by
   rw [map_map]
   refine (map_congr_left fun a _=> ?_).trans (List.map_id _)
   exact FJ a
  have n:(xs.map ba).length=xs.length:=length_map _
  have c:=E8 b 0 cap (xs.map ba) (ba d) w (fun j x f=>by
   rw [getElem?_map] at f
   cases hq:xs[j]? with
   |none=>rw [hq] at f;cases f
   |some q=>
    rw [hq] at f
    cases f
    have:=t _ rfl j (st q) (by rw [getElem?_map,hq];rfl)
    rwa [add_lit] at this) (l b rfl).2 (by omega) (by omega) (by rw [k,FJ];exact p)
  rw [k,FJ,n] at c
  exact GY func122 (by kernel_rfl) (by kernel_rfl) (c.mono fun e w' ⟨m,g⟩=>⟨_,m,rfl,g⟩)
def BQ (c:UInt8):List UInt8→List (List UInt8)
 |[]=>[[]]
 |b::l=>if b=c then []::BQ c l else (b::(BQ c l).headD [])::(BQ c l).tail
theorem Ha (c:UInt8) (l:List UInt8):BQ c l≠[]:=by
 cases l with
 |nil=>simp [BQ]
 |cons b l=>unfold BQ;split<;>simp
theorem L4 {c:UInt8}:∀{l:List UInt8},c ∉ l→BQ c l=[l]
 |[],_=>rfl
 |b::l,h=>by
  have a:b≠c:=fun e=>h (by simp [e])
  have d:=L4 (c:=c) (l:=l) fun e=>h (by simp [e])
  unfold BQ
  rw [if_neg a,d];rfl
theorem Ks {c:UInt8}:∀{p:List UInt8} (l:List UInt8),c ∉ p→BQ c (p++c::l)=p::BQ c l
 |[],l,_=>by
  show BQ c (c::l)=_
  rw [BQ,if_pos rfl]
 |b::p,l,h=>by
  have a:b≠c:=fun e=>h (by simp [e])
  have d:=Ks (c:=c) (p:=p) l fun e=>h (by simp [e])
  rw [cons_append,BQ,if_neg a,d];rfl
theorem My {c:UInt8}:∀s:List UInt8,(Lib.indexByte s c= -1∧c ∉ s)∨∃p l,s=p++c::l∧c ∉ p∧Lib.indexByte s c=(p.length:Int)
 |[]=> .inl ⟨rfl,by simp⟩
 |b::s=>by
  unfold Lib.indexByte
  by_cases hb:b=c
  ·subst hb
   exact .inr ⟨[],s,rfl,by simp,by simp⟩
  ·have a:(b==c)=false:=by simp [hb]
   rw [a]
   rcases My (c:=c) s with ⟨h1,h2⟩|⟨p,l,rfl,h2,h3⟩
   ·left
    rw [h1]
    exact ⟨by simp,by simp only [mem_cons,not_or];exact ⟨fun e=>hb e.symm,h2⟩⟩
   ·right
    refine ⟨b::p,l,rfl,by simp only [mem_cons,not_or];exact ⟨fun e=>hb e.symm,h2⟩, ?_⟩
    rw [h3]
    have:¬((p.length:Int)== -1)=true:=by simp
    simp [this]
theorem Oa {c:UInt8}:∀(n:Nat) (s:List UInt8),s.length≤n→Lib.splitK [c] 0 (Lib.count s [c]) s=BQ c s∧(BQ c s).length=Lib.count s [c]+1:=by
 intro n
 induction n with
 |zero=>
  intro s hs
  obtain rfl:=eq_nil_of_length_eq_zero (Nat.le_zero.1 hs)
  exact ⟨rfl,rfl⟩
 |succ n ih=>
  intro s hs
  rcases My (c:=c) s with ⟨h1,h2⟩|⟨p,l,rfl,h2,h3⟩
  ·have a:Lib.index s [c]= -1:=by rw [Lib.index_one,h1]
   rw [Lib.count_miss a,L4 h2]
   exact ⟨rfl,rfl⟩
  ·have a:Lib.index (p++c::l) [c]=(p.length:Int):=by rw [Lib.index_one,h3]
   have b:(p++c::l).drop (p.length+[c].length)=l:=by
    rw [show p++c::l=(p++[c])++l by simp,show p.length+[c].length=(p++[c]).length by simp,drop_left]
   have d:=Lib.count_hit (s:=p++c::l) (sub:=[c]) (by simp) a
   rw [b] at d
   obtain ⟨f,h⟩:=ih l (by simp at hs;omega)
   rw [d,Nat.add_comm 1,Ks l h2]
   refine ⟨?_,by rw [length_cons,h]⟩
   have g:¬(Lib.index (p++c::l) [c]== -1)=true:=fun e=>by have:=beq_iff_eq.1 e;omega
   unfold Lib.splitK
   rw [if_neg g,a,show ((p.length:Int).toNat+0)=p.length by omega,show ((p.length:Int).toNat)=p.length by omega,b,f,take_left]
theorem Ou (s:List UInt8) (c:UInt8) (w:World) (h:Jr w) (hs:s.length<4294967281):AJ prog 125 [st s,st [c]] w (fun r w' =>Below w.heap.size w w' ∧w'.ownsRow w.heap.size 9 1 r (BQ c s).length ((BQ c s).map st)):=by
 obtain ⟨m,j⟩:=h.m
 have b:=E7 (ba s) (ba [c]) m w (by rw [J1];exact hs) j (by rw [J1];exact AX 1)
 refine GY func125 (by kernel_rfl) (by kernel_rfl) (b.mono fun e w' ⟨n,l⟩=>⟨_,n, ?_⟩)
 subst l
 obtain ⟨i,g⟩:=Oa (c:=c) s.length s (AX _)
 have d:Lib.countB (ba s) (ba [c])=Lib.count s [c]:=by unfold Lib.countB;rw [FJ,FJ]
 have f:=Lib.splitB_data (ba [c]) 0 (Lib.countB (ba s) (ba [c])) (ba s)
 rw [FJ,FJ,d,i] at f
 have k:(Lib.splitB (ba [c]) 0 (Lib.countB (ba s) (ba [c])) (ba s)).map Value.string=(BQ c s).map st:=by
  rw [d,← f,map_map]
  refine map_congr_left fun a _=> ?_
  show Value.string a=st a.data.toList
  exact MI a
 refine ⟨DR w _, ?_⟩
 rw [k,d,← g]
 refine ⟨by simp, .inr ⟨w.heap.size,_,_,rfl,AX _,heap_alloc_new w _,AX _, ?_,by simp,by rw [Nat.mul_one];exact take_of_length_le (by simp)⟩⟩
 rw [g]
 have:=Lib.count_le s [c]
 unfold maxLen
 omega
abbrev Tg (w:World) (b:Nat) (l:List UInt8):Prop:=Lib.IsBuilderF 121 5 b b (Lib.byteCells l) w
theorem SI {w:World} {b:Nat} (h:AN w b 121 [.pointer none, .slice none 0 0]):Tg w b []:=by
 refine .inl ⟨AX _, .slice none 0 0,h,⟨rfl, .inl ⟨rfl,rfl⟩⟩,by intro e;cases e⟩
theorem P8 (l:List UInt8):Lib.strCells (ba l)=Lib.byteCells l:=by unfold Lib.strCells Lib.byteCells;rw [FJ]
theorem RN (b:Nat) (l s:List UInt8) (w:World) (h:Tg w b l) (j:b≤w.heap.size) (d:l.length+s.length≤140737488355328):AJ prog 121 [.pointer (some ⟨b,0,none⟩),st s] w (fun _ w' =>Tg w' b (l++s)∧Below b w w' ∧Lib.OthersKept 5 (some b) w w'):=by
 have a:=Eg b b (Lib.byteCells l) (ba s) w h (by rw [Lib.byteCells_length,J1];exact d) j
 refine GY func121 (by kernel_rfl) (by kernel_rfl) (a.mono fun e w' ⟨g,c,i,f⟩=>⟨_,g, ?_,i,f⟩)
 rw [P8] at c
 have e:Lib.byteCells l++Lib.byteCells s=Lib.byteCells (l++s):=by unfold Lib.byteCells;rw [map_append]
 rw [e] at c
 exact .inr c
theorem Qj (b:Nat) (l:List UInt8) (w:World) (h:Tg w b l) (d:b≤w.heap.size):AJ prog 123 [.pointer (some ⟨b,0,none⟩)] w (fun r w' =>r=st l∧Below b w w'):=
 GY func123 (by kernel_rfl) (by kernel_rfl) ((El b b l w h d).mono fun e w' ⟨a,f,c,g⟩=>⟨_,a,rfl,c⟩)
end Go.Proofs.YtblbopcaflaldaaGreatDoor
