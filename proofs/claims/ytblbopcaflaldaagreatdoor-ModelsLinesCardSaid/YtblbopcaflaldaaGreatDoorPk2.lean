/- Texts of this proof, one behind the other: TxtRows, Shp, ShapesCode, TensorsCode, GraphCode, Twins, TensorsLaw, Sum, Mov, Int, FindCode, GraphKind, Sub, Cel, Del, IntLists, GraphShape, ProductsCode, Rng, Box, Grow, Win, WinCode, GraphNode, GraphShapes, WtsPl, NumsCode, PutCode, SumsCode. -/
import Derived.Test.YtblbopcaflaldaaGreatDoorPk1
import Derived.Lib.AppendZerosOnto
import Derived.Laws.Pointers
import Derived.RangeFuncNested
import Derived.RangeFuncLeaves
import Derived.TacticsIn
import Derived.OrdersIn

namespace Go.Proofs.YtblbopcaflaldaaGreatDoor
open Go Go.Dd Go.RowKit List Go.Proofs.Tryz
set_option maxRecDepth 100000
-- dd: text
structure Rw where
 k:Nat
 word:List UInt8
 least:Nat
 most:Nat
 nxt:List UInt8
 last:List UInt8
 deriving DecidableEq
def Rw.cells (r:Rw):List Value:=[st r.word, .int .i64 (r.least:Int), .int .i64 (r.most:Int),st r.nxt,st r.last]
def GY:List Rw:=[⟨1,[105,110,112,117,116],0,0,[],[]⟩,⟨2,[119,101,105,103,104,116],0,0,[],[]⟩,⟨3,[97,100,100],2,2,[],[]⟩,⟨4,[109,117,108],2,2,[],[]⟩,⟨7,[112,114,111,100,117,99,116],2,2,[],[]⟩,⟨5,[114,101,108,117],1,1,[],[]⟩,⟨6,[115,104,105,102,116],1,1,[98,121],[]⟩,⟨8,[119,105,110,100,111,119],2,2,[115,116,101,112],[112,97,100]⟩,⟨9,[112,111,111,108],1,1,[119,105,100,101],[]⟩,⟨10,[115,104,97,112,101],1,1,[116,111],[]⟩,⟨11,[116,117,114,110],1,1,[116,111],[]⟩,⟨12,[106,111,105,110],1,65536,[97,108,111,110,103],[]⟩,⟨13,[115,117,109],1,1,[97,108,111,110,103],[]⟩]
def RD (k v:Value):Prop:=∃r ∈ GY,k= .int .u8 (r.k:Int)∧v= .agg r.cells.toArray
set_option maxRecDepth 4000 in
theorem Oa (w:World):AO prog 118 [] w (fun r w' =>Below w.heap.size w w' ∧∃M,r= .map (some M)∧w.heap.size≤M∧DV w' M (.int .u8) RD):=by
 refine A5 (n:=16) func118 O<|Ah<|Ab O<|Au<|Ar (Fg (d:= .int .u8)) O ?_
 rintro _ u ⟨rfl,b,c,f⟩
 obtain ⟨M,g⟩:∃M,M=w.heap.size:=⟨_,rfl⟩
 rw [← g] at b ⊢
 have e:M<u.heap.size:=by omega
 refine Aa (Bg (vs:=[(0,st [105,110,112,117,116])]) (cs:=Rw.cells ⟨1,[105,110,112,117,116],0,0,[],[]⟩) O (by kernel_rfl)) O<|Ax (Cp (d:= .int .u8) underlying122 BO O O O O b (by intro v h;simp at h)) ?_
 rintro p ⟨b,a,f⟩
 have c:=c.grown a (by omega) (by rintro _ ⟨⟩;omega)
 have e:M<p.heap.size:=by omega
 clear a
 refine Aa (Bg (vs:=[(0,st [119,101,105,103,104,116])]) (cs:=Rw.cells ⟨2,[119,101,105,103,104,116],0,0,[],[]⟩) O (by kernel_rfl)) O<|Ax (Cp (d:= .int .u8) underlying122 BO O O O O b (by intro v h;simp at h)) ?_
 rintro z ⟨b,a,f⟩
 have c:=c.grown a (by omega) (by rintro _ ⟨⟩;omega)
 have e:M<z.heap.size:=by omega
 clear a
 refine Aa (Bg (vs:=[(0,st [97,100,100]),(1, .int .i64 2),(2, .int .i64 2),(3,st []),(4,st [])]) (cs:=Rw.cells ⟨3,[97,100,100],2,2,[],[]⟩) O (by kernel_rfl)) O<|Ax (Cp (d:= .int .u8) underlying122 BO O O O O b (by intro v h;simp at h)) ?_
 rintro q ⟨b,a,f⟩
 have c:=c.grown a (by omega) (by rintro _ ⟨⟩;omega)
 have e:M<q.heap.size:=by omega
 clear a
 refine Aa (Bg (vs:=[(0,st [109,117,108]),(1, .int .i64 2),(2, .int .i64 2),(3,st []),(4,st [])]) (cs:=Rw.cells ⟨4,[109,117,108],2,2,[],[]⟩) O (by kernel_rfl)) O<|Ax (Cp (d:= .int .u8) underlying122 BO O O O O b (by intro v h;simp at h)) ?_
 rintro o ⟨b,a,f⟩
 have c:=c.grown a (by omega) (by rintro _ ⟨⟩;omega)
 have e:M<o.heap.size:=by omega
 clear a
 refine Aa (Bg (vs:=[(0,st [112,114,111,100,117,99,116]),(1, .int .i64 2),(2, .int .i64 2),(3,st []),(4,st [])]) (cs:=Rw.cells ⟨7,[112,114,111,100,117,99,116],2,2,[],[]⟩) O (by kernel_rfl)) O<|Ax (Cp (d:= .int .u8) underlying122 BO O O O O b (by intro v h;simp at h)) ?_
 rintro A ⟨b,a,f⟩
 have c:=c.grown a (by omega) (by rintro _ ⟨⟩;omega)
 have e:M<A.heap.size:=by omega
 clear a
 refine Aa (Bg (vs:=[(0,st [114,101,108,117]),(1, .int .i64 1),(2, .int .i64 1),(3,st []),(4,st [])]) (cs:=Rw.cells ⟨5,[114,101,108,117],1,1,[],[]⟩) O (by kernel_rfl)) O<|Ax (Cp (d:= .int .u8) underlying122 BO O O O O b (by intro v h;simp at h)) ?_
 rintro s ⟨b,a,f⟩
 have c:=c.grown a (by omega) (by rintro _ ⟨⟩;omega)
 have e:M<s.heap.size:=by omega
 clear a
 refine Aa (Bg (vs:=[(0,st [115,104,105,102,116]),(1, .int .i64 1),(2, .int .i64 1),(3,st [98,121]),(4,st [])]) (cs:=Rw.cells ⟨6,[115,104,105,102,116],1,1,[98,121],[]⟩) O (by kernel_rfl)) O<|Ax (Cp (d:= .int .u8) underlying122 BO O O O O b (by intro v h;simp at h)) ?_
 rintro t ⟨b,a,f⟩
 have c:=c.grown a (by omega) (by rintro _ ⟨⟩;omega)
 have e:M<t.heap.size:=by omega
 clear a
 refine Aa (Bg (vs:=[(0,st [119,105,110,100,111,119]),(1, .int .i64 2),(2, .int .i64 2),(3,st [115,116,101,112]),(4,st [112,97,100])]) (cs:=Rw.cells ⟨8,[119,105,110,100,111,119],2,2,[115,116,101,112],[112,97,100]⟩) O (by kernel_rfl)) O<|Ax (Cp (d:= .int .u8) underlying122 BO O O O O b (by intro v h;simp at h)) ?_
 rintro x ⟨b,a,f⟩
 have c:=c.grown a (by omega) (by rintro _ ⟨⟩;omega)
 have e:M<x.heap.size:=by omega
 clear a
 refine Aa (Bg (vs:=[(0,st [112,111,111,108]),(1, .int .i64 1),(2, .int .i64 1),(3,st [119,105,100,101]),(4,st [])]) (cs:=Rw.cells ⟨9,[112,111,111,108],1,1,[119,105,100,101],[]⟩) O (by kernel_rfl)) O<|Ax (Cp (d:= .int .u8) underlying122 BO O O O O b (by intro v h;simp at h)) ?_
 rintro y ⟨b,a,f⟩
 have c:=c.grown a (by omega) (by rintro _ ⟨⟩;omega)
 have e:M<y.heap.size:=by omega
 clear a
 refine Aa (Bg (vs:=[(0,st [115,104,97,112,101]),(1, .int .i64 1),(2, .int .i64 1),(3,st [116,111]),(4,st [])]) (cs:=Rw.cells ⟨10,[115,104,97,112,101],1,1,[116,111],[]⟩) O (by kernel_rfl)) O<|Ax (Cp (d:= .int .u8) underlying122 BO O O O O b (by intro v h;simp at h)) ?_
 rintro m ⟨b,a,f⟩
 have c:=c.grown a (by omega) (by rintro _ ⟨⟩;omega)
 have e:M<m.heap.size:=by omega
 clear a
 refine Aa (Bg (vs:=[(0,st [116,117,114,110]),(1, .int .i64 1),(2, .int .i64 1),(3,st [116,111]),(4,st [])]) (cs:=Rw.cells ⟨11,[116,117,114,110],1,1,[116,111],[]⟩) O (by kernel_rfl)) O<|Ax (Cp (d:= .int .u8) underlying122 BO O O O O b (by intro v h;simp at h)) ?_
 rintro i ⟨b,a,f⟩
 have c:=c.grown a (by omega) (by rintro _ ⟨⟩;omega)
 have e:M<i.heap.size:=by omega
 clear a
 refine Aa (Bg (vs:=[(0,st [106,111,105,110]),(1, .int .i64 1),(2, .int .i64 65536),(3,st [97,108,111,110,103]),(4,st [])]) (cs:=Rw.cells ⟨12,[106,111,105,110],1,65536,[97,108,111,110,103],[]⟩) O (by kernel_rfl)) O<|Ax (Cp (d:= .int .u8) underlying122 BO O O O O b (by intro v h;simp at h)) ?_
 rintro l ⟨b,a,f⟩
 have c:=c.grown a (by omega) (by rintro _ ⟨⟩;omega)
 have e:M<l.heap.size:=by omega
 clear a
 refine Aa (Bg (vs:=[(0,st [115,117,109]),(1, .int .i64 1),(2, .int .i64 1),(3,st [97,108,111,110,103]),(4,st [])]) (cs:=Rw.cells ⟨13,[115,117,109],1,1,[97,108,111,110,103],[]⟩) O (by kernel_rfl)) O<|Ax (Cp (d:= .int .u8) underlying122 BO O O O O b (by intro v h;simp at h)) ?_
 rintro j ⟨b,a,f⟩
 have c:=c.grown a (by omega) (by rintro _ ⟨⟩;omega)
 have e:M<j.heap.size:=by omega
 clear a
 refine Ad O<|Ab O<|Aq<|Am O O ?_
 refine ⟨by rw [g];exact c,M,rfl,by omega,b.congr fun k v=> ?_⟩
 unfold RD GY
 simp only [mem_cons,not_mem_nil,or_false,exists_eq_or_imp,exists_eq_left,false_or,or_assoc]
 rfl
end Go.Proofs.YtblbopcaflaldaaGreatDoor

namespace Go.Dd.Shapes
def GT:List Int→Int
 |[]=>1
 |x::s=>x*GT s
def tim (n:Int):List Int→Int
 |[]=>n
 |x::l=>if x<1∨64<x then 0 else if 4096<n*x then 0 else tim (n*x) l
def size (s:List Int):Int:=if s.length<1∨4<s.length then 0 else tim 1 s
def good (s:List Int):Prop:=∀x ∈ s,1≤x∧x≤64
def ok (s:List Int):Bool:=decide (0<size s)
def Mn:List Int→Int→List Int
 |[],_=>[]
 |x::s,i=>(i / GT s % x)::Mn s i
theorem DZ {x:Int} {s:List Int}:good (x::s)↔(1≤x∧x≤64)∧good s:=by simp [good]
theorem Hh:∀{s:List Int},good s→1≤GT s
 |[],_=>by simp [GT]
 |x::s,h=>by
  have a:=(DZ.1 h).1
  have b:=Hh (DZ.1 h).2
  have:=Int.mul_le_mul a.1 b (by omega) (by omega)
  simpa [GT] using this
theorem Lx:∀(s:List Int) (n:Int),1≤n→n≤4096→(good s∧n*GT s≤4096∧tim n s=n*GT s)∨(¬(good s∧n*GT s≤4096)∧tim n s=0)
 |[],n,h1,h2=> .inl ⟨by simp [good],by simpa [GT] using h2,by simp [tim,GT]⟩
 |x::s,n,h1,h2=>by
  by_cases hx:x<1∨64<x
  ·exact .inr ⟨fun h=>by have:=(DZ.1 h.1).1;omega,by simp [tim,hx]⟩
  ·have b:1≤x:=by omega
   have a:1≤n*x:=by have:=Int.mul_le_mul h1 b (by omega) (by omega);simpa using this
   by_cases h4:4096<n*x
   ·refine .inr ⟨fun h=> ?_,by simp [tim,hx,h4]⟩
    have d:=Hh (DZ.1 h.1).2
    have i:=Int.mul_le_mul (Int.le_refl (n*x)) d (by omega) (by omega)
    have c:=h.2
    simp only [GT,← Int.mul_assoc] at c
    omega
   ·have f:tim n (x::s)=tim (n*x) s:=by simp [tim,hx,h4]
    have e:n*GT (x::s)=n*x*GT s:=by simp [GT,Int.mul_assoc]
    rw [f,e]
    rcases Lx s (n*x) a (by omega) with ⟨g,l,t⟩|⟨g,t⟩
    ·exact .inl ⟨DZ.2 ⟨by omega,g⟩,l,t⟩
    ·exact .inr ⟨fun h=>g ⟨(DZ.1 h.1).2,h.2⟩,t⟩
theorem Pz (s:List Int):0≤tim 1 s∧tim 1 s≤4096:=by
 rcases Lx s 1 (by omega) (by omega) with ⟨g,l,t⟩|⟨g,t⟩
 ·have:=Hh g;omega
 ·omega
theorem size_le (s:List Int):0≤size s∧size s≤4096:=by
 unfold size
 split
 ·omega
 ·exact Pz s
theorem ok_iff (s:List Int):ok s=true↔(1≤s.length∧s.length≤4)∧good s∧GT s≤4096:=by
 unfold ok size
 rw [decide_eq_true_iff]
 split
 ·omega
 ·rcases Lx s 1 (by omega) (by omega) with ⟨g,l,t⟩|⟨g,t⟩
  ·have:=Hh g
   simp only [Int.one_mul] at l t
   rw [t];exact ⟨fun _=>⟨by omega,g,l⟩,fun _=>by omega⟩
  ·simp only [Int.one_mul] at g
   rw [t];exact ⟨fun h=>by omega,fun h=>absurd h.2 g⟩
end Go.Dd.Shapes

namespace Go.Proofs.YtblbopcaflaldaaGreatDoor
open Go Go.Dd Go.RowKit List Go.Proofs.Tryz
set_option maxRecDepth 100000
theorem NM {l:List Int} {i:Nat} {n:Int} (h:i<l.length):Shapes.tim n (l.drop i)=(if l.getD i default<1∨64<l.getD i default then 0 else if 4096<n*l.getD i default then 0 else Shapes.tim (n*l.getD i default) (l.drop (i+1))):=by
 rw [drop_eq_getElem_cons h];simp [Shapes.tim,h]
theorem Py (v:Value) (l:List Int) (w:World) (m:BG (Value.int .i64) w v l):AO prog 223 [v] w (fun r w' =>r= .int .i64 (Shapes.tim 1 l)∧Below w.heap.size w w'):=by
 have o:=m.le
 refine A5 (n:=25) func223 O<|Ah<|Ab O<|Au<|Ab O<|Ba<|Ad O<|Aa (Ay AF O ‹_›) O ?_
 refine Ad O<|Ak<|Av ?_
 refine B4 (S:=(Nat×Int)) (fun s=>[(3, .int .i64 s.2),(6,v),(7, .int .i64 (l.length:Int)),(8, .int .i64 (s.1:Int))]) (fun s w' =>s.1≤l.length∧(1≤s.2∧s.2≤4096)∧Shapes.tim s.2 (l.drop s.1)=Shapes.tim 1 l∧w' =w) (fun s=>l.length - s.1) ((0,1)) ⟨rfl,rfl,rfl,rfl,trivial⟩ ?_ ?_
 ·exact ⟨by simp,by simp,by simp,rfl⟩
 rintro ⟨i,n⟩ q ⟨p,k,a,rfl⟩
 dsimp only at p k a ⊢
 refine Ah<|B9 O<|Ak<|Ap<|Al O ?_ ?_
 ·intro h
  have b:i<l.length:=by simp at h;omega
  rw [NM b] at a
  refine B2<|Ap<|Av<|Ah<|Aa (A8 AF O O ‹_› _ O (by omega)) O ?_
  refine Aa (Be (BD _) O ‹_› (by omega)) O ?_
  refine Ab O<|Ba<|Ad O<|B9 O<|Ad O ?_
  generalize l.getD i default=x at a ⊢
  refine Bw 14 O ?_ ?_
  ·intro g
   have e:=AE g
   refine Ae (dj:=14) O O O O<|Ae (dj:=14) O O O O<|Bi O<|Ak<|Bn O<|Ah<|Ab O<|Bl<|Bd<|Ao<|Ao<|Bd<|Ao<|Am O O ?_
   refine ⟨?_,Below.refl _ _⟩
   rw [← a,if_pos (.inl e)]
  intro g
  have e:=AC g
  refine Af (dj:=14) O O<|Ad O<|Af (dj:=14) O O<|Aa (C1 O O) O<|B6 O<|Ak<|Al O ?_ ?_
  ·intro f
   have d:=AE f
   refine Ah<|Ab O<|Bl<|Bd<|Ao<|Ao<|Bd<|Ao<|Am O O ?_
   refine ⟨?_,Below.refl _ _⟩
   rw [← a,if_pos (.inr d)]
  intro f
  have d:=AC f
  have t:n*1≤n*x∧n*x≤4096*64:=⟨Int.mul_le_mul_of_nonneg_left (by omega) (by omega),Int.mul_le_mul k.2 (by omega) (by omega) (by omega)⟩
  rw [if_neg (by omega)] at a
  refine Ca<|Ad O<|Ad O<|Aa (Eo O O (by omega)) O<|Ab O<|Au<|Ad O<|Aa (C1 O O) O<|Ak<|Al O ?_ ?_
  ·intro j
   have c:=AE j
   refine Ah<|Ab O<|Aq<|Bd<|Ao<|Ao<|Bd<|Ao<|Am O O ?_
   refine ⟨?_,Below.refl _ _⟩
   rw [← a,if_pos c]
  intro j
  have c:=AC j
  rw [if_neg c] at a
  refine B7<|Bb<|Cx<|Cn O (by omega)<|Ad O<|A7 ?_
  exact A3 (B1 ((i+1,n*x)) ⟨rfl,rfl,rfl,rfl,trivial⟩ (⟨b,⟨by omega,by omega⟩,a,rfl⟩) (by simp only;omega))
 ·intro h
  have b:i=l.length:=by simp at h;omega
  subst b
  refine Bx<|A0<|A0<|Bh<|Cl<|Ad O<|Ab O<|Aq<|Am O O ?_
  refine ⟨?_,Below.refl _ _⟩
  rw [← a,drop_length];rfl
theorem Iy (v:Value) (l:List Int) (w:World) (e:BG (Value.int .i64) w v l):AO prog 138 [v] w (fun r w' =>r= .int .i64 (Shapes.size l)∧Below w.heap.size w w'):=by
 refine A5 (n:=13) func138 O<|Ah<|Ab O<|Ba<|Ad O<|Aa (Ay AF O ‹_›) O ?_
 refine B9 O<|Ad O ?_
 refine Bw 6 O ?_ ?_
 ·intro c
  have d:=AE c
  exact Ae (dj:=6) rfl rfl rfl rfl<|Ae (dj:=6) rfl rfl rfl rfl<|Ae (dj:=6) rfl rfl rfl rfl<|Bi rfl<|Ak<|Bn rfl<|Ah<|Ab rfl<|Bl<|Am rfl rfl<|⟨by rw [Shapes.size,if_pos (by omega)],Below.refl _ _⟩
 intro c
 have d:=AC c
 refine Af (dj:=6) O O<|Ad O<|Af (dj:=6) O O<|Aa (Ay AF O ‹_›) O ?_
 refine Af (dj:=6) O O<|Aa (C1 O O) O<|B6 O<|Ak<|Al O ?_ ?_
 ·intro b
  have a:=AE b
  exact Ah<|Ab rfl<|Bl<|Am rfl rfl<|⟨by rw [Shapes.size,if_pos (by omega)],Below.refl _ _⟩
 intro b
 have a:=AC b
 refine Ca<|Ad O<|Ai O O (Py v l w e) ?_
 rintro _ g ⟨rfl,f⟩
 exact Ab rfl<|Aq<|Am rfl rfl<|⟨by rw [Shapes.size,if_neg (by omega)],f⟩
theorem DD (v:Value) (l:List Int) (w:World) (a:BG (Value.int .i64) w v l):AO prog 137 [v] w (fun r w' =>r= .bool (Shapes.ok l)∧Below w.heap.size w w'):=by
 refine A5 (n:=6) func137 O<|Ah<|Ab O<|Au<|Ad O<|Ai O O (Iy v l w a) ?_
 rintro _ c ⟨rfl,b⟩
 exact Aa (C1 rfl rfl) rfl<|Ab rfl<|Aq<|Am rfl rfl<|⟨rfl,b⟩
def Q0 (W w' :World) (x:Value) (l:List Int):Prop:=∃b,W.heap.size≤b∧w'.ownsRow b 3 1 x l.length (l.map (Value.int .i64))∧(x= .slice none 0 0∨x= .slice (some ⟨b,0,none⟩) l.length l.length)
theorem Q0.sl {W w' :World} {x:Value} {l:List Int} (h:Q0 W w' x l):BG (Value.int .i64) w' x l:=by
 obtain ⟨b,_,h,_⟩:=h
 exact AH h

def Sz (w:World) (v:Value) (s:List Int) (l:List (BitVec 32)):Prop:=∃x y,v= .agg #[x,y]∧BG (Value.int .i64) w x s∧BG i32 w y l
theorem Sz.bs {w w' :World} {v:Value} {s:List Int} {l:List (BitVec 32)} (h:Sz w v s l) (a:Below w.heap.size w w'):Sz w' v s l:=by
 obtain ⟨x,y,e,c,b⟩:=h
 exact ⟨x,y,e,c.bs a,b.bs a⟩
def Px (s:List Int) (l:List (BitVec 32)):Bool:=Shapes.ok s && decide ((l.length:Int)=Shapes.size s)
theorem Rm (a b:Value) (c:a.cells=[a].toArray) (g:b.cells=[b].toArray):Tryz.prog.built 75 [(0,a),(1,b)]=some [a,b].toArray:=by
 have e:Tryz.prog.info? 75=some Tryz.t75:=rfl
 have d:Tryz.prog.info? 70=some Tryz.t70:=rfl
 have f:Tryz.prog.info? 73=some Tryz.t73:=rfl
 simp [Program.built,e,underlying75,d,f,Instr.fill,c,g]
 rfl
theorem NO (x y:Value) (s:List Int) (l:List (BitVec 32)) (w:World) (j:BG (Value.int .i64) w x s) (f:BG i32 w y l):
  AO prog 35 [.agg #[x,y]] w (fun r w' =>r= .bool (Px s l)∧Below w.heap.size w w'):=by
 refine A5 (n:=15) func35 O<|Ah<|Ar (Xw.box (cs:=[x,y]) O O) O ?_
 rintro _ b ⟨rfl,k,c,e⟩
 have d:=j.bs c
 have h:=f.bs c
 refine Ab O<|Ak<|Ap<|D3 mixed (by kernel_rfl)<|As (fun b a=>Cr underlying75 O (BQ _)) O<|As (fun b a=>An (BA _) O (AK.bs ‹_› a) O) O ?_
 refine Ee O O (fun b a=>(DD x s b (d.bs a)).q a)<|Bz O ?_
 refine Em 6 O ?_ ?_
 ·intro g
  refine Bq (dj:=6) O O<|As (fun b a=>Cr underlying75 O (K5 _)) O<|Bq (dj:=6) O O<|As (fun b a=>An (Pj _) O (AK.bs ‹_› a) O) O ?_
  refine Bq (dj:=6) O O<|As (fun b a=>Ay Jv O (Sl.bs ‹_› a)) O ?_
  refine Bq (dj:=6) O O<|As (fun b a=>Cr underlying75 O (BQ _)) O<|Bq (dj:=6) O O<|As (fun b a=>An (BA _) O (AK.bs ‹_› a) O) O ?_
  refine Bq (dj:=6) O O<|Ee O O (fun b a=>(Iy x s b (d.bs a)).q a)<|Bq (dj:=6) O O<|As (fun b a=>Ce O O) O<|As (fun b a=>Dg O O) O<|Ea O ?_
  refine Dp (fun i a=> ?_)
  refine A3<|Cc<|El<|Am O O ?_
  exact ⟨cngA Value.bool (by unfold Px;rw [g];rfl),bt c a⟩
 ·intro g
  refine Bf (dj:=6) O O O O<|Bf (dj:=6) O O O O<|Bf (dj:=6) O O O O<|Bf (dj:=6) O O O O<|Bf (dj:=6) O O O O<|Bf (dj:=6) O O O O<|Bf (dj:=6) O O O O<|As (fun b a=>Dw O O) O<|Ea O ?_
  refine Dp (fun i a=> ?_)
  refine A3<|Cc<|El<|Am O O ?_
  exact ⟨cngA Value.bool (by unfold Px;rw [g];rfl),bt c a⟩
theorem FX (u v:Value) (a b:List Int) (w:World) (q:BG (Value.int .i64) w u a) (z:BG (Value.int .i64) w v b):AO prog 143 [u,v] w (fun r w' =>r= .bool (decide (a=b))∧Below w.heap.size w w'):=by
 have A:=q.le
 refine A5 (n:=26) func143 O<|Ah<|Ab O<|Ba<|Ad O<|Aa (Ay AF O ‹_›) O ?_
 refine Ad O<|Aa (Ay AF O ‹_›) O ?_
 refine Aa (Ct O O) O<|Ak<|Al O ?_ ?_
 ·intro h
  have m:a≠b:=fun e=>by subst e;simp at h
  exact Ah<|Ab rfl<|Bl<|Am rfl rfl<|⟨by rw [decide_eq_false m],Below.refl _ _⟩
 intro h
 have y:a.length=b.length:=by simp at h;omega
 refine B2<|Ap<|Ah<|Ad O<|Aa (Ay AF O ‹_›) O ?_
 refine Ad O<|Ak<|Av ?_
 refine B4 (S:=Nat) (fun i=>[(0,u),(1,v),(12, .int .i64 (a.length:Int)),(13, .int .i64 (i:Int))]) (fun i w' =>i≤a.length∧a.take i=b.take i∧Below w.heap.size w w') (fun i=>a.length - i) (0) ⟨rfl,rfl,rfl,rfl,trivial⟩ ?_ ?_
 ·exact ⟨by omega,by simp,Below.refl _ _⟩
 rintro i j ⟨B,o,f⟩
 have s:=q.bs f
 have t:=z.bs f
 refine Ah<|B9 O<|Ak<|Ap<|Al O ?_ ?_
 ·intro h
  have c:i<a.length:=by simp at h;omega
  have k:i<b.length:=by omega
  refine B2<|Ap<|Av<|Ah<|Ad O<|Ab O<|Ak<|Ap<|D3 mixed (by kernel_rfl)<|Bz O<|Bz O<|As (fun j d=>A8 AF O O (Sl.bs ‹_› d) _ O (by omega)) O ?_
  refine As (fun j d=>Be (BD _) O (Sl.bs ‹_› d) (by omega)) O ?_
  refine Bz O<|Bz O<|As (fun j d=>A8 AF O O (Sl.bs ‹_› d) _ O (by omega)) O ?_
  refine As (fun j d=>Be (BD _) O (Sl.bs ‹_› d) (by omega)) O ?_
  refine As (fun j d=>Ct O O) O ?_
  refine Dp (fun C d=> ?_)
  refine A3<|Cc ?_
  have l:=bt f d
  refine Al O ?_ ?_
  ·intro g
   have p:a.getD i default≠b.getD i default:=by simpa using g
   exact Ah<|Ab rfl<|Aq<|Bd<|Ao<|Ao<|Bd<|Ao<|Am rfl rfl<|⟨by rw [decide_eq_false (fun e=>p (by rw [e]))],l⟩
  ·intro g
   have p:a.getD i default=b.getD i default:=by simpa using g
   have x:a[i]=b[i]:=by simpa [c,k] using p
   refine B7<|Bb<|Cx<|Cn O (by omega)<|Ad O<|A7 ?_
   exact A3 (B1 (i+1) ⟨rfl,rfl,rfl,rfl,trivial⟩ (⟨c,by rw [take_succ_eq_append_getElem c,take_succ_eq_append_getElem k,o,x],l⟩) (by omega))
 ·intro h
  have c:i=a.length:=by simp at h;omega
  subst c
  refine Bx<|A0<|A0<|Bh<|Cl<|Ab O<|Aq<|Am O O ?_
  exact ⟨by rw [decide_eq_true (by rw [take_length,y,take_length] at o;exact o)],f⟩
theorem Ii (u:Value) (a:List Int) (w:World) (g:BG (Value.int .i64) w u a) (p:a.length≤4194304):AO prog 155 [u] w (fun r w' =>w'.ownsRow w.heap.size 3 1 r a.length (a.map (Value.int .i64))∧Below w.heap.size w w'):=by
 obtain ⟨m,d,cap,rfl,l,j,i,k⟩:=g
 have g:BG (Value.int .i64) w (.slice d a.length cap) a:=⟨m,d,cap,rfl,l,j,i,k⟩
 refine A5 (n:=8) func155 O<|Ah<|Ab O<|Ba<|Ad O<|Aa (Ex.nilS ND O O) O<|Ak<|Al O ?_ ?_
 ·intro h
  obtain rfl:d=none:=by cases d<;>simp_all
  obtain rfl:a=[]:=eq_nil_of_length_eq_zero (by have:=i rfl;omega)
  exact Ah<|Ab rfl<|Bl<|Am rfl rfl<|⟨⟨rfl, .inl ⟨rfl,rfl⟩⟩,Below.refl _ _⟩
 intro h
 refine Ca<|Ar (Ch (vs:=[]) AF DL O O O O O) O ?_
 rintro q o ⟨e, -,b, -⟩
 refine Ad O<|Ar (Dj (base:=w.heap.size) AF DL O (by decide) O O e (g.bs b) (CH (fun _=>rfl) _) (by omega) (by omega) b.size) O ?_
 rintro s t ⟨c,f, -⟩
 rw [Nat.zero_add,nil_append] at c
 exact Ab rfl<|Aq<|Am rfl rfl<|⟨c,b.trans f⟩
theorem Ja (u:Value) (a:List Int) (w:World) (b:BG (Value.int .i64) w u a):AO prog 136 [u] w (fun r w' =>r=clip u∧Below w.heap.size w w'):=by
 refine A5 (n:=9) func136 O<|Ah<|Ab O<|Au<|Ad O<|Ad O<|Aa (Ay AF O ‹_›) O ?_
 refine Ad O<|Aa (Ay AF O ‹_›) O ?_
 exact Aa (Fj AF rfl rfl rfl b.shp) rfl<|Ab rfl<|Aq<|Am rfl rfl<|⟨rfl,Below.refl _ _⟩
structure GR (W w:World) (x y:Value) (s:List Int) (l:List (BitVec 32)):Prop where
 row:AW w W.heap.size 3 1 x s.length (s.map (Value.int .i64))
 own:w.ownsRow W.heap.size 21 1 y l.length (l.map i32)
 apart:Ji y x
theorem GR.sh {W w:World} {x y:Value} {s:List Int} {l:List (BitVec 32)} (h:GR W w x y s l):BG (Value.int .i64) w x s:=h.row.slT
theorem GR.bs {W w w' :World} {x y:Value} {s:List Int} {l:List (BitVec 32)} (h:GR W w x y s l) (a:Below w.heap.size w w'):GR W w' x y s l:=⟨h.row.bs a,AG h.own a,h.apart⟩
theorem RM (u:Value) (s:List Int) (w:World) (R:BG (Value.int .i64) w u s):
  AO prog 54 [u] w (fun r w' =>Below w.heap.size w w' ∧((Shapes.ok s=true∧∃x y,r= .tuple #[.agg #[x,y], .int .i64 0]∧GR w w' x y s (replicate (Shapes.size s).toNat 0#32))∨(Shapes.ok s=false∧r= .tuple #[.agg #[.slice none 0 0, .slice none 0 0], .int .i64 1]))):=by
 have hsz:=Shapes.size_le s
 refine A5 (n:=15) func54 O<|Ah<|Ar (Dt J7) O ?_
 rintro _ V ⟨rfl,a,q,hs1⟩
 refine Ab O<|Ba<|Ad O<|Ai O O (DD u s V (R.bs q)) ?_
 rintro _ w2 ⟨rfl,m⟩
 have c:=bt q m
 have a:=a.bs m
 have J:=R.bs c
 refine Aa (Cq O) O<|Ak<|Al O ?_ ?_
 ·intro h
  have G:Shapes.ok s=false:=by simpa using h
  refine Ah<|Lw.z2 O<|Ax (Ci (cs:=[.slice none 0 0, .slice none 0 0]) O O O O O a O) ?_
  rintro F ⟨i,K, -⟩
  have p:Below w.heap.size w F:=c.grown K (AA c) (by rintro _ ⟨⟩;exact AQ _)
  refine Ab O<|Bl<|De O O O ‹_› underlying75 O O O ?_
  exact ⟨p, .inr ⟨G,rfl⟩⟩
 intro h
 have C:Shapes.ok s=true:=by simpa using h
 have U:=(Shapes.ok_iff s).1 C
 refine Ca<|Ad O<|Ai O O (Ii u s w2 J (by omega)) ?_
 rintro j F ⟨B,i⟩
 have H:=AN B
 have o:=AW.clip B
 have p:=bt c i
 have a:=a.bs i
 refine Ai O O (Ja j s F H) ?_
 rintro _ W ⟨rfl,f⟩
 have v:=bt p f
 have a:=a.bs f
 refine Ad O<|Ai O O (Iy u s W (R.bs v)) ?_
 rintro _ w5 ⟨rfl,e⟩
 have z:=bt v e
 have a:=a.bs e
 refine Cd 12 (v' := .int .i64 (((Shapes.size s).toNat:Nat):Int)) O (cngA (Value.int .i64) (by omega))<|Ar (F1 Jv Qr O O O (AQ _) (by omega) (by omega)) O ?_
 rintro y w6 ⟨d,S,l, -⟩
 have E:=bt z l
 have a:=a.bs l
 have A:=(o.bs f).bs (bt e l)
 have t:=A.slT
 have z3:=(bt f e).size
 have L:Ji y (clip j):=by
  intro b M I
  rw [S] at M
  cases M
  have T:w5.heap.size<F.heap.size:=(o.lt _ I).2
  omega
 refine Aa (Bg (vs:=[(0,clip j),(1,y)]) (cs:=[clip j,y]) O (Rm _ _ t.one (AH d).one)) O<|Ax (Ci (cs:=[clip j,y]) O O O O (by simp [t.one',(AH d).one']) a O) ?_
 rintro Y ⟨hb7,k, -⟩
 have N:Below w.heap.size w Y:=E.grown k (AA E) (by rintro _ ⟨⟩;exact AQ _)
 have z2:=c.size
 have Z:=m.size
 have z5' :=i.size
 have z5:=z.size
 have D:(replicate (Shapes.size s).toNat [Value.int .i32 0]).flatten=(replicate (Shapes.size s).toNat 0#32).map i32:=by
  generalize (Shapes.size s).toNat=n
  induction n with
  |zero=>rfl
  |succ n ih=>simp [replicate_succ,i32]
 rw [D] at d
 refine Ab O<|Aq<|De O O O ‹_› underlying75 O O O ?_
 refine ⟨N, .inl ⟨C,clip j,y,rfl, ?_, ?_,L⟩⟩
 ·refine (A.by' k ?_).mono (by omega)
  cases hc:(clip j).ownBlock with
  |none=>exact .inl rfl
  |some b=>
   refine .inr fun h=> ?_
   have:=(o.lt b hc).1
   cases h
   omega
 ·have:=d.kept k (.inr (by rw [S];simp [Value.ownBlock];omega))
  rw [length_replicate]
  exact ⟨this.1,by
   rcases this.2 with h|⟨g,cap,Q,X,M,I,T⟩
   ·exact .inl h
   ·exact .inr ⟨g,cap,Q,X,by omega,I,T⟩⟩
structure T4 where
 x:Value
 y:Value
 s:List Int
 l:List (BitVec 32)
def T4.at (t:T4) (w:World):Prop:=BG (Value.int .i64) w t.x t.s∧BG i32 w t.y t.l
theorem T4.at.bs {t:T4} {w w' :World} (h:t.at w) (a:Below w.heap.size w w'):t.at w' :=⟨h.1.bs a,h.2.bs a⟩
def T4.ok (t:T4):Bool:=Px t.s t.l
def T4.v (t:T4):Value:= .agg #[t.x,t.y]
def cellsOf:List T4→List Value
 |[]=>[]
 |t::ts=>t.x::t.y::cellsOf ts
theorem Jb:∀{ts:List T4} {j:Nat} (h:j<ts.length),(cellsOf ts)[j*2]? =some ts[j].x∧(cellsOf ts)[j*2+1]? =some ts[j].y
 |t::ts,0,_=>by simp [cellsOf]
 |t::ts,j+1,h=>by
  have:=Jb (ts:=ts) (j:=j) (by simpa using h)
  rw [Nat.succ_mul]
  simpa [cellsOf] using this
theorem T4.at.one {a:T4} {w:World} (h:a.at w):[a.x,a.y].all (·.oneCell')=true:=by simp [h.1.one',h.2.one']

def kv (l:List Int):Value:= .agg (l.map (Value.int .i64)).toArray
def Ks:List (Nat×Int×List Int):=[(2,1,[0,0,0,0,0,1]),(4,2,[0,0,0,0,0,1]),(6,3,[2,2,0,0,0,0]),(8,4,[2,2,0,0,0,0]),(10,7,[2,2,0,0,0,0]),(12,5,[1,1,0,0,0,0]),(16,6,[1,1,0,31,0,0]),(18,8,[2,2,1,8,8,0]),(22,9,[1,1,1,64,0,0]),(24,10,[1,1,0,0,0,1]),(26,11,[1,1,0,0,0,2]),(28,12,[1,4,0,3,0,0]),(32,13,[1,1,0,3,0,0])]
def KD (k v:Value):Prop:=∃p ∈ Ks,k= .int .u8 p.2.1∧v=kv p.2.2
def Lq (L:Nat→Bool) (k v:Value):Prop:=∃p ∈ Ks,L p.1=true∧k= .int .u8 p.2.1∧v=kv p.2.2
def RU (W:World) (s:Nat) (L:Nat→Bool) (w:World):Prop:=Below W.heap.size W w∧(L 0=true→W.heap.size≤s∧BF w s (.int .u8) (Lq L))
def S4 (f:Value) (s:Nat):Nat→Value
 |0|33|34=> .map (some s)
 |1|3=>kv [0,0,0,0,0,1]
 |5|7|9=>kv [2,2,0,0,0,0]
 |11|14|20|30=>kv [1,1,0,0,0,0]
 |13|19|29=>f
 |15=>kv [1,1,0,31,0,0]
 |17=>kv [2,2,1,8,8,0]
 |21=>kv [1,1,1,64,0,0]
 |23=>kv [1,1,0,0,0,1]
 |25=>kv [1,1,0,0,0,2]
 |27=>kv [1,4,0,3,0,0]
 |31=>kv [1,1,0,3,0,0]
 |_=>undef
theorem Ir {L:Nat→Bool} {i j:Nat} (h:i≠j):K3 L i j=L j:=by
 unfold K3
 cases hb:Nat.beq i j with
 |false=>rfl
 |true=>exact absurd (Nat.eq_of_beq_eq_true hb) h
theorem NC {L:Nat→Bool} {i:Nat}:K3 L i i=true:=by
 unfold K3;rw [Nat.beq_refl];rfl
theorem CM {W w w' :World} {s i:Nat} {L:Nat→Bool} (h:RU W s L w) (g:Below w.heap.size w w') (f:i≠0) (c:∀p ∈ Ks,i≠p.1):RU W s (K3 L i) w' :=by
 refine ⟨h.1.trans (g.mono (AA h.1)),fun b=> ?_⟩
 rw [Ir f] at b
 obtain ⟨e,d⟩:=h.2 b
 refine ⟨e,(d.bs g).congr fun k v=>⟨fun ⟨p,a,q⟩=>⟨p,a,by rw [Ir (c p a)];exact q⟩,fun ⟨p,a,q⟩=>⟨p,a,by rw [Ir (c p a)] at q;exact q⟩⟩⟩
theorem EZ {W w w' :World} {s i:Nat} {n:Int} {l:List Int} {L:Nat→Bool} (h:RU W s L w) (o:L 0=true) (j:(i,n,l) ∈ Ks) (m:∀p ∈ Ks,p.1=i→p=(i,n,l)) 
  (g:BF w' s (.int .u8) (fun k v=>Lq L k v∨(k= .int .u8 n∧v=kv l))∧w.grownBy w' (some s)∧w'.heap.size=w.heap.size):RU W s (K3 L i) w' :=by
 obtain ⟨f,q⟩:=h.2 o
 refine ⟨h.1.grown g.2.1 (AA h.1) (by rintro _ ⟨⟩;exact f),fun _=>⟨f,g.1.congr fun k v=>⟨?_, ?_⟩⟩⟩
 ·rintro (⟨p,a,c,b⟩|⟨rfl,rfl⟩)
  ·exact ⟨p,a,by unfold K3;rw [c,Bool.or_true],b⟩
  ·exact ⟨_,j,NC,rfl,rfl⟩
 ·rintro ⟨p,a,c,b,d⟩
  by_cases e:p.1=i
  ·obtain rfl:=m p a e
   exact .inr ⟨b,d⟩
  ·rw [Ir (Ne.symm e)] at c
   exact .inl ⟨p,a,c,b,d⟩
theorem DA {L:Nat→Bool} {i:Nat} {n:Int} (c:L i=false) (e:∀p ∈ Ks,p.2.1=n→p.1=i):∀v,¬Lq L (.int .u8 n) v:=by
 rintro v ⟨p,b,a,d, -⟩
 have f:n=p.2.1:=by cases d;rfl
 rw [e p b f.symm,c] at a;cases a
theorem II (l:List Int):(l.map (Value.int .i64)).all (·.oneCell')=true:=CH (fun _=>rfl) l
theorem M7 (a b:Int):Tryz.prog.built 275 [(0, .int .i64 a),(1, .int .i64 b)]=some ([a,b,0,0,0,0].map (Value.int .i64)).toArray:=by
 have c:Tryz.prog.info? 275=some Tryz.t275:=by kernel_rfl
 have d:Tryz.prog.info? 3=some Tryz.t3:=by kernel_rfl
 simp [Program.built,c,underlying275,d,Instr.fill,Value.cells]
 rfl
theorem FO (a b i h:Int) (w:World):AO prog 247 [kv [a,b,0,0,0,0], .int .i64 i, .int .i64 h] w (fun r w' =>r=kv [a,b,i,h,0,0]∧Below w.heap.size w w'):=by
 have e:=Below.refl w.heap.size w
 refine A5 (n:=12) func247 O<|Ah ?_
 obtain ⟨B,x⟩:∃B,B=w.heap.size:=⟨_,rfl⟩
 refine Cv (cs:=[a,b,0,0,0,0].map (Value.int .i64)) O O O ?_
 rintro m w p c j -
 have e:=e.bs j
 have F:=AY c
 refine C8 FU O ?_
 rintro s w q d j -
 have e:=e.bs j
 have c:=c.bs j
 refine Au<|Ad O<|Ad O<|A6 underlying275 O (BU _) ?_
 have E:=AY d
 have z:=AA e
 refine Ax (B5 (u:= .int .i64 i) (BU _) O O O c (show 2<6 by decide)) ?_
 rintro C ⟨c,f,t⟩
 have d:=d.by f (by rintro ⟨⟩;omega)
 refine A6 underlying275 O (BU _)<|Ax (B5 (u:= .int .i64 h) (BU _) O O O c (show 3<6 by decide)) ?_
 rintro A ⟨c,g,v⟩
 have d:=d.by g (by rintro ⟨⟩;omega)
 have c:AK A m 275 ([a,b,i,h,0,0].map (Value.int .i64)):=c
 refine Au<|Aa (Bu (k:=6) (DC _) (CZ _) O O c) O<|Ax (Ci (cs:=[a,b,i,h,0,0].map (Value.int .i64)) (k:=6) (by kernel_rfl) O O O (II _) d O) ?_
 rintro D ⟨d,o,y⟩
 have l:=((e.grown f z (by rintro _ ⟨⟩;omega)).grown g (by omega) (by rintro _ ⟨⟩;omega)).grown o (by omega) (by rintro _ ⟨⟩;omega)
 refine Aq<|F7 O O ‹_› underlying275 O O O ?_
 exact ⟨rfl,l⟩
set_option maxRecDepth 4000 in
theorem PP (w:World):AO prog 216 [] w (fun r w' =>Below w.heap.size w w' ∧∃M,r= .map (some M)∧w.heap.size≤M∧BF w' M (.int .u8) KD):=by
 have z:=Below.refl w.heap.size w
 refine A5 (n:=37) func216 O<|Ah<|Ab O<|Au<|Aa (Bg (vs:=[(0, .int .i64 1),(1, .int .i64 1)]) (cs:=[1,1,0,0,0,0].map (Value.int .i64)) O (M7 1 1)) O<|Aa (Bg (vs:=[(0, .int .i64 2),(1, .int .i64 2)]) (cs:=[2,2,0,0,0,0].map (Value.int .i64)) O (M7 2 2)) O<|C8 FU O ?_
 rintro A_one w W a X -
 have z:=z.bs X
 have z1:=AY a
 refine C8 FU O ?_
 rintro A_two w V b X -
 have z:=z.bs X
 have a:=a.bs X
 have z2:=AY b
 have z0:=AA z
 refine Ax (Ci (cs:=[1,1,0,0,0,0].map (Value.int .i64)) (k:=6) (by kernel_rfl) O O O (II _) a O) ?_
 rintro w1 ⟨a,R,hz1⟩
 have b:=b.by R (by rintro ⟨⟩;omega)
 refine Ax (Ci (cs:=[2,2,0,0,0,0].map (Value.int .i64)) (k:=6) (by kernel_rfl) O O O (II _) b O) ?_
 rintro x ⟨b,T,hz2⟩
 have a:=a.by T (by rintro ⟨⟩;omega)
 have z:=(z.grown R z0 (by rintro _ ⟨⟩;omega)).grown T (by omega) (by rintro _ ⟨⟩;omega)
 refine Au<|Ab O<|Au<|Ad O<|Aa (Bu (k:=6) (DC _) (CZ _) O O b) O<|Eg (p:=[]) (q:=[]) O O O (FO 2 2 1 8 x) ?_
 rintro _ A ⟨rfl,C⟩
 have a:=a.bs C
 have b:=b.bs C
 have z3:=C.size
 have z:=z.trans (C.mono (AA z))
 refine Ar (Dt FU) O ?_
 rintro _ w4 ⟨rfl,m,H,hz4⟩
 have a:=a.bs H
 have b:=b.bs H
 refine Ax (Ci (cs:=[2,2,1,8,0,0].map (Value.int .i64)) (k:=6) (by kernel_rfl) O O O (II _) m O) ?_
 rintro w5 ⟨m,K,hz5⟩
 have a:=a.by K (by rintro ⟨⟩;omega)
 have b:=b.by K (by rintro ⟨⟩;omega)
 have z:=(z.trans (H.mono (AA z))).grown K (by omega) (by rintro _ ⟨⟩;omega)
 refine Au<|A6 underlying275 O (BU _)<|Ax (B5 (u:= .int .i64 8) (BU _) O O O m (show 4<6 by decide)) ?_
 rintro w6 ⟨m,I,hz6⟩
 have m:AK w6 A.heap.size 275 ([2,2,1,8,8,0].map (Value.int .i64)):=m
 have a:=a.by I (by rintro ⟨⟩;omega)
 have b:=b.by I (by rintro ⟨⟩;omega)
 have z:=z.grown I (by omega) (by rintro _ ⟨⟩;omega)
 refine Au<|Ad O<|Aa (Bu (k:=6) (DC _) (CZ _) O O a) O<|Eg (p:=[]) (q:=[]) O O O (FO 1 1 0 3 w6) ?_
 rintro _ w7 ⟨rfl,D⟩
 have a:=a.bs D
 have b:=b.bs D
 have m:=m.bs D
 have z7:=D.size
 have z:=z.trans (D.mono (AA z))
 refine Ar (Dt FU) O ?_
 rintro _ w8 ⟨rfl,y,F,hz8⟩
 have a:=a.bs F
 have b:=b.bs F
 have m:=m.bs F
 refine Ax (Ci (cs:=[1,1,0,3,0,0].map (Value.int .i64)) (k:=6) (by kernel_rfl) O O O (II _) y O) ?_
 rintro w9 ⟨y,G,hz9⟩
 have a:=a.by G (by rintro ⟨⟩;omega)
 have b:=b.by G (by rintro ⟨⟩;omega)
 have m:=m.by G (fun e=>by have:=Option.some.inj e;omega)
 have z:=(z.trans (F.mono (AA z))).grown G (by omega) (by rintro _ ⟨⟩;omega)
 refine Au<|A6 underlying275 O (BU _)<|Ax (B5 (u:= .int .i64 4) (BU _) O O O y (show 1<6 by decide)) ?_
 rintro U ⟨y,B,hz10⟩
 have y:AK U w7.heap.size 275 ([1,4,0,3,0,0].map (Value.int .i64)):=y
 have a:=a.by B (by rintro ⟨⟩;omega)
 have b:=b.by B (by rintro ⟨⟩;omega)
 have m:=m.by B (fun e=>by have:=Option.some.inj e;omega)
 have z:=z.grown B (by omega) (by rintro _ ⟨⟩;omega)
 refine Ak<|Ap ?_
 refine Cw.inv (S4 (.func (.func 247) #[] #[])) (RU U) (0) mixed (by kernel_rfl) ?_ ?_ ?_
 ·exact fun w' h=>⟨h,fun h=>by cases h⟩
 ·refine A9 (fun s L x c t o f=> ?_) ?_
  ·refine Ow.mk (Gs (d:= .int .u8)) ?_
   rintro _ A ⟨rfl,Z,C, -⟩
   have Q:∀k q,CC _ k=some q→0 ∈ BC q→L k=false:=fun k q hq h0=>by
    cases hk:L k with
    |false=>rfl
    |true=>rw [f k q hq hk 0 h0] at t;cases t
   have J:=Q 33 _ rfl (by decide)
   have n34:L 34=false:=by
    cases hk:L 34 with
    |false=>rfl
    |true=>rw [f 34 _ rfl hk 33 (by decide)] at J;cases J
   have nin:∀p ∈ Ks,L p.1=false:=fun p E=>by
    simp only [Ks,mem_cons,not_mem_nil,or_false] at E
    rcases E with rfl|rfl|rfl|rfl|rfl|rfl|rfl|rfl|rfl|rfl|rfl|rfl|rfl<;>exact Q _ _ rfl (by decide)
   refine ⟨x.heap.size,⟨c.1.trans (C.mono (AA c.1)),fun _=>⟨AA c.1,Z.congr fun k v=>⟨fun h=>h.elim,fun ⟨p,E,t,_⟩=> ?_⟩⟩⟩,fun j N=> ?_,fun _=>rfl⟩
   ·have hp0:∀p ∈ Ks,(0:Nat)≠p.1:=by decide
    rw [Ir (hp0 p E),nin p E] at t;cases t
   ·have j0:j≠0:=fun e=>by rw [e,t] at N;cases N
    have j33:j≠33:=fun e=>by rw [e,J] at N;cases N
    have j34:j≠34:=fun e=>by rw [e,n34] at N;cases N
    unfold S4
    split<;>first|rfl|omega
  refine A9 (fun s L x c t o f=> ?_) ?_
  ·exact Ow.val (Bg (vs:=[(5, .int .i64 1)]) (cs:=[0,0,0,0,0,1].map (Value.int .i64)) rfl (by kernel_rfl)) ⟨s,CM c (Below.refl _ _) (by decide) (by decide),fun _ _=>rfl,fun _=>rfl⟩
  refine A9 (fun s L x c t o f=> ?_) ?_
  ·refine C7 (Cy (M:=s) (S:=Lq L) (k:= .int .u8 1) (u:=kv [0,0,0,0,0,1]) (d:= .int .u8) underlying270 BO O O O O (c.2 (o 0 (by decide))).2 (DA t (by decide))) ?_
   exact fun A g=>⟨s,EZ (i:=2) (n:=1) (l:=[0,0,0,0,0,1]) c (o 0 (by decide)) (by decide) (by decide) g,fun _ _=>rfl,fun h=>by cases h⟩
  refine A9 (fun s L x c t o f=> ?_) ?_
  ·exact Ow.val (Bg (vs:=[(5, .int .i64 1)]) (cs:=[0,0,0,0,0,1].map (Value.int .i64)) rfl (by kernel_rfl)) ⟨s,CM c (Below.refl _ _) (by decide) (by decide),fun _ _=>rfl,fun _=>rfl⟩
  refine A9 (fun s L x c t o f=> ?_) ?_
  ·refine C7 (Cy (M:=s) (S:=Lq L) (k:= .int .u8 2) (u:=kv [0,0,0,0,0,1]) (d:= .int .u8) underlying270 BO O O O O (c.2 (o 0 (by decide))).2 (DA t (by decide))) ?_
   exact fun A g=>⟨s,EZ (i:=4) (n:=2) (l:=[0,0,0,0,0,1]) c (o 0 (by decide)) (by decide) (by decide) g,fun _ _=>rfl,fun h=>by cases h⟩
  refine A9 (fun s L x c t o f=> ?_) ?_
  ·exact Ow.val (Bu (k:=6) (DC _) (CZ _) rfl rfl (b.bs c.1)) ⟨s,CM c (Below.refl _ _) (by decide) (by decide),fun _ _=>rfl,fun _=>rfl⟩
  refine A9 (fun s L x c t o f=> ?_) ?_
  ·refine C7 (Cy (M:=s) (S:=Lq L) (k:= .int .u8 3) (u:=kv [2,2,0,0,0,0]) (d:= .int .u8) underlying270 BO O O O O (c.2 (o 0 (by decide))).2 (DA t (by decide))) ?_
   exact fun A g=>⟨s,EZ (i:=6) (n:=3) (l:=[2,2,0,0,0,0]) c (o 0 (by decide)) (by decide) (by decide) g,fun _ _=>rfl,fun h=>by cases h⟩
  refine A9 (fun s L x c t o f=> ?_) ?_
  ·exact Ow.val (Bu (k:=6) (DC _) (CZ _) rfl rfl (b.bs c.1)) ⟨s,CM c (Below.refl _ _) (by decide) (by decide),fun _ _=>rfl,fun _=>rfl⟩
  refine A9 (fun s L x c t o f=> ?_) ?_
  ·refine C7 (Cy (M:=s) (S:=Lq L) (k:= .int .u8 4) (u:=kv [2,2,0,0,0,0]) (d:= .int .u8) underlying270 BO O O O O (c.2 (o 0 (by decide))).2 (DA t (by decide))) ?_
   exact fun A g=>⟨s,EZ (i:=8) (n:=4) (l:=[2,2,0,0,0,0]) c (o 0 (by decide)) (by decide) (by decide) g,fun _ _=>rfl,fun h=>by cases h⟩
  refine A9 (fun s L x c t o f=> ?_) ?_
  ·exact Ow.val (Bu (k:=6) (DC _) (CZ _) rfl rfl (b.bs c.1)) ⟨s,CM c (Below.refl _ _) (by decide) (by decide),fun _ _=>rfl,fun _=>rfl⟩
  refine A9 (fun s L x c t o f=> ?_) ?_
  ·refine C7 (Cy (M:=s) (S:=Lq L) (k:= .int .u8 7) (u:=kv [2,2,0,0,0,0]) (d:= .int .u8) underlying270 BO O O O O (c.2 (o 0 (by decide))).2 (DA t (by decide))) ?_
   exact fun A g=>⟨s,EZ (i:=10) (n:=7) (l:=[2,2,0,0,0,0]) c (o 0 (by decide)) (by decide) (by decide) g,fun _ _=>rfl,fun h=>by cases h⟩
  refine A9 (fun s L x c t o f=> ?_) ?_
  ·exact Ow.val (Bu (k:=6) (DC _) (CZ _) rfl rfl (a.bs c.1)) ⟨s,CM c (Below.refl _ _) (by decide) (by decide),fun _ _=>rfl,fun _=>rfl⟩
  refine A9 (fun s L x c t o f=> ?_) ?_
  ·refine C7 (Cy (M:=s) (S:=Lq L) (k:= .int .u8 5) (u:=kv [1,1,0,0,0,0]) (d:= .int .u8) underlying270 BO O O O O (c.2 (o 0 (by decide))).2 (DA t (by decide))) ?_
   exact fun A g=>⟨s,EZ (i:=12) (n:=5) (l:=[1,1,0,0,0,0]) c (o 0 (by decide)) (by decide) (by decide) g,fun _ _=>rfl,fun h=>by cases h⟩
  refine A9 (fun s L x c t o f=> ?_) ?_
  ·exact Ow.val (Bt rfl) ⟨s,CM c (Below.refl _ _) (by decide) (by decide),fun _ _=>rfl,fun _=>rfl⟩
  refine A9 (fun s L x c t o f=> ?_) ?_
  ·exact Ow.val (Bu (k:=6) (DC _) (CZ _) rfl rfl (a.bs c.1)) ⟨s,CM c (Below.refl _ _) (by decide) (by decide),fun _ _=>rfl,fun _=>rfl⟩
  refine A9 (fun s L x c t o f=> ?_) ?_
  ·exact F9 (Xc.val (p:=[]) (q:=[]) (vs:=[kv [1,1,0,0,0,0], .int .i64 0, .int .i64 31]) (FO 1 1 0 31 x).1 rfl rfl) (FO 1 1 0 31 x) (fun _ A ⟨e,g⟩=>⟨s,CM c g (by decide) (by decide),fun _ _=>rfl,fun _=>e⟩)
  refine A9 (fun s L x c t o f=> ?_) ?_
  ·refine C7 (Cy (M:=s) (S:=Lq L) (k:= .int .u8 6) (u:=kv [1,1,0,31,0,0]) (d:= .int .u8) underlying270 BO O O O O (c.2 (o 0 (by decide))).2 (DA t (by decide))) ?_
   exact fun A g=>⟨s,EZ (i:=16) (n:=6) (l:=[1,1,0,31,0,0]) c (o 0 (by decide)) (by decide) (by decide) g,fun _ _=>rfl,fun h=>by cases h⟩
  refine A9 (fun s L x c t o f=> ?_) ?_
  ·exact Ow.val (Bu (k:=6) (DC _) (CZ _) rfl rfl (m.bs c.1)) ⟨s,CM c (Below.refl _ _) (by decide) (by decide),fun _ _=>rfl,fun _=>rfl⟩
  refine A9 (fun s L x c t o f=> ?_) ?_
  ·refine C7 (Cy (M:=s) (S:=Lq L) (k:= .int .u8 8) (u:=kv [2,2,1,8,8,0]) (d:= .int .u8) underlying270 BO O O O O (c.2 (o 0 (by decide))).2 (DA t (by decide))) ?_
   exact fun A g=>⟨s,EZ (i:=18) (n:=8) (l:=[2,2,1,8,8,0]) c (o 0 (by decide)) (by decide) (by decide) g,fun _ _=>rfl,fun h=>by cases h⟩
  refine A9 (fun s L x c t o f=> ?_) ?_
  ·exact Ow.val (Bt rfl) ⟨s,CM c (Below.refl _ _) (by decide) (by decide),fun _ _=>rfl,fun _=>rfl⟩
  refine A9 (fun s L x c t o f=> ?_) ?_
  ·exact Ow.val (Bu (k:=6) (DC _) (CZ _) rfl rfl (a.bs c.1)) ⟨s,CM c (Below.refl _ _) (by decide) (by decide),fun _ _=>rfl,fun _=>rfl⟩
  refine A9 (fun s L x c t o f=> ?_) ?_
  ·exact F9 (Xc.val (p:=[]) (q:=[]) (vs:=[kv [1,1,0,0,0,0], .int .i64 1, .int .i64 64]) (FO 1 1 1 64 x).1 rfl rfl) (FO 1 1 1 64 x) (fun _ A ⟨e,g⟩=>⟨s,CM c g (by decide) (by decide),fun _ _=>rfl,fun _=>e⟩)
  refine A9 (fun s L x c t o f=> ?_) ?_
  ·refine C7 (Cy (M:=s) (S:=Lq L) (k:= .int .u8 9) (u:=kv [1,1,1,64,0,0]) (d:= .int .u8) underlying270 BO O O O O (c.2 (o 0 (by decide))).2 (DA t (by decide))) ?_
   exact fun A g=>⟨s,EZ (i:=22) (n:=9) (l:=[1,1,1,64,0,0]) c (o 0 (by decide)) (by decide) (by decide) g,fun _ _=>rfl,fun h=>by cases h⟩
  refine A9 (fun s L x c t o f=> ?_) ?_
  ·exact Ow.val (Bg (vs:=[(0, .int .i64 1),(1, .int .i64 1),(5, .int .i64 1)]) (cs:=[1,1,0,0,0,1].map (Value.int .i64)) rfl (by kernel_rfl)) ⟨s,CM c (Below.refl _ _) (by decide) (by decide),fun _ _=>rfl,fun _=>rfl⟩
  refine A9 (fun s L x c t o f=> ?_) ?_
  ·refine C7 (Cy (M:=s) (S:=Lq L) (k:= .int .u8 10) (u:=kv [1,1,0,0,0,1]) (d:= .int .u8) underlying270 BO O O O O (c.2 (o 0 (by decide))).2 (DA t (by decide))) ?_
   exact fun A g=>⟨s,EZ (i:=24) (n:=10) (l:=[1,1,0,0,0,1]) c (o 0 (by decide)) (by decide) (by decide) g,fun _ _=>rfl,fun h=>by cases h⟩
  refine A9 (fun s L x c t o f=> ?_) ?_
  ·exact Ow.val (Bg (vs:=[(0, .int .i64 1),(1, .int .i64 1),(5, .int .i64 2)]) (cs:=[1,1,0,0,0,2].map (Value.int .i64)) rfl (by kernel_rfl)) ⟨s,CM c (Below.refl _ _) (by decide) (by decide),fun _ _=>rfl,fun _=>rfl⟩
  refine A9 (fun s L x c t o f=> ?_) ?_
  ·refine C7 (Cy (M:=s) (S:=Lq L) (k:= .int .u8 11) (u:=kv [1,1,0,0,0,2]) (d:= .int .u8) underlying270 BO O O O O (c.2 (o 0 (by decide))).2 (DA t (by decide))) ?_
   exact fun A g=>⟨s,EZ (i:=26) (n:=11) (l:=[1,1,0,0,0,2]) c (o 0 (by decide)) (by decide) (by decide) g,fun _ _=>rfl,fun h=>by cases h⟩
  refine A9 (fun s L x c t o f=> ?_) ?_
  ·exact Ow.val (Bu (k:=6) (DC _) (CZ _) rfl rfl (y.bs c.1)) ⟨s,CM c (Below.refl _ _) (by decide) (by decide),fun _ _=>rfl,fun _=>rfl⟩
  refine A9 (fun s L x c t o f=> ?_) ?_
  ·refine C7 (Cy (M:=s) (S:=Lq L) (k:= .int .u8 12) (u:=kv [1,4,0,3,0,0]) (d:= .int .u8) underlying270 BO O O O O (c.2 (o 0 (by decide))).2 (DA t (by decide))) ?_
   exact fun A g=>⟨s,EZ (i:=28) (n:=12) (l:=[1,4,0,3,0,0]) c (o 0 (by decide)) (by decide) (by decide) g,fun _ _=>rfl,fun h=>by cases h⟩
  refine A9 (fun s L x c t o f=> ?_) ?_
  ·exact Ow.val (Bt rfl) ⟨s,CM c (Below.refl _ _) (by decide) (by decide),fun _ _=>rfl,fun _=>rfl⟩
  refine A9 (fun s L x c t o f=> ?_) ?_
  ·exact Ow.val (Bu (k:=6) (DC _) (CZ _) rfl rfl (a.bs c.1)) ⟨s,CM c (Below.refl _ _) (by decide) (by decide),fun _ _=>rfl,fun _=>rfl⟩
  refine A9 (fun s L x c t o f=> ?_) ?_
  ·exact F9 (Xc.val (p:=[]) (q:=[]) (vs:=[kv [1,1,0,0,0,0], .int .i64 0, .int .i64 3]) (FO 1 1 0 3 x).1 rfl rfl) (FO 1 1 0 3 x) (fun _ A ⟨e,g⟩=>⟨s,CM c g (by decide) (by decide),fun _ _=>rfl,fun _=>e⟩)
  refine A9 (fun s L x c t o f=> ?_) ?_
  ·refine C7 (Cy (M:=s) (S:=Lq L) (k:= .int .u8 13) (u:=kv [1,1,0,3,0,0]) (d:= .int .u8) underlying270 BO O O O O (c.2 (o 0 (by decide))).2 (DA t (by decide))) ?_
   exact fun A g=>⟨s,EZ (i:=32) (n:=13) (l:=[1,1,0,3,0,0]) c (o 0 (by decide)) (by decide) (by decide) g,fun _ _=>rfl,fun h=>by cases h⟩
  refine A9 (fun s L x c t o f=> ?_) ?_
  ·exact Ow.val (Bt rfl) ⟨s,CM c (Below.refl _ _) (by decide) (by decide),fun _ _=>rfl,fun _=>rfl⟩
  refine A9 (fun s L x c t o f=> ?_) ?_
  ·exact Ow.val (B0 rfl) ⟨s,CM c (Below.refl _ _) (by decide) (by decide),fun _ _=>rfl,fun _=>rfl⟩
  exact Gz
 intro s L w' c hall
 have h0:=c.2 (hall 0 (by decide))
 have Y:∀p ∈ Ks,p.1<35:=by decide
 have Z:BF w' s (.int .u8) KD:=h0.2.congr fun k v=>⟨fun ⟨p,E,_,h⟩=>⟨p,E,h⟩,fun ⟨p,E,h⟩=>⟨p,E,hall p.1 (Y p E),h⟩⟩
 have hBF:=z.trans (c.1.mono (AA z))
 have zB:=AA z
 exact A3<|Cc<|El<|Am rfl rfl<|⟨hBF,s,rfl,by omega,Z⟩

theorem Iz (u v:Value) (l m:List (Int)) (w:World) (q:BG (Value.int .i64) w u l) (x:BG (Value.int .i64) w v m):
  AO prog 36 [u,v] w (fun r w' =>r= .bool (decide (l=m))∧Below w.heap.size w w'):=by
 have y:=q.le
 refine A5 (n:=26) func36 O<|Ah<|Ab O<|Ba<|Ad O<|Aa (Ay AF O ‹_›) O ?_
 refine Ad O<|Aa (Ay AF O ‹_›) O ?_
 refine Aa (Ct O O) O<|Ak<|Al O ?_ ?_
 ·intro h
  have d:l≠m:=fun e=>by subst e;simp at h
  exact Ah<|Ab rfl<|Bl<|Am rfl rfl<|⟨by rw [decide_eq_false d],Below.refl _ _⟩
 ·intro h
  have i:l.length=m.length:=by simp at h;omega
  refine B2<|Ap<|Ah<|Ab O<|Ak<|Av ?_
  refine B4 (S:=Nat) (fun k=>[(0,u),(1,v),(5, .int .i64 (k:Int))]) (fun k w' =>k≤l.length∧l.take k=m.take k∧Below w.heap.size w w') (fun k=>l.length - k) (0) ⟨rfl,rfl,rfl,trivial⟩ ?_ ?_
  ·exact ⟨by omega,by simp,Below.refl _ _⟩
  rintro k f ⟨z,p,b⟩
  have s:=q.bs b
  have t:=x.bs b
  refine Ap<|Ah<|Ad O<|Ad O<|Aa (Ay AF O ‹_›) O ?_
  refine B9 O<|Ak<|Al O ?_ ?_
  ·intro h
   have c:k<l.length:=by simp at h;omega
   have g:k<m.length:=by omega
   refine B2<|Ap<|Av<|Ap<|D3 mixed (by kernel_rfl)<|Bz O<|Bz O<|As (fun f a=>A8 AF O O (Sl.bs ‹_› a) _ O (by omega)) O ?_
   refine As (fun f a=>Be (BD _) O (Sl.bs ‹_› a) (by omega)) O ?_
   refine Bz O<|Bz O<|As (fun f a=>A8 AF O O (Sl.bs ‹_› a) _ O (by omega)) O ?_
   refine As (fun f a=>Be (BD _) O (Sl.bs ‹_› a) (by omega)) O ?_
   refine As (fun f a=>Ct O O) O ?_
   refine Dp (fun A a=> ?_)
   refine A3<|Cc ?_
   have j:=bt b a
   refine Al O ?_ ?_
   ·intro h
    have d:l≠m:=fun e=>by subst e;simp at h
    exact Ah<|Ab rfl<|Aq<|Bd<|Ao<|Ao<|Bd<|Ao<|Am rfl rfl<|⟨by rw [decide_eq_false d],j⟩
   ·intro h
    refine B7<|Bb<|Cx<|Ad O<|Cn O (by omega)<|Ab O<|A7 ?_
    have o:l.take (k+1)=m.take (k+1):=by
     rw [take_succ_eq_append_getElem c,take_succ_eq_append_getElem g,p]
     simp [c,g] at h
     rw [h]
    exact A3 (B1 (k+1) ⟨rfl,rfl,rfl,trivial⟩ (⟨by omega,o,j⟩) (by omega))
  ·intro h
   have c:k=l.length:=by simp at h;omega
   subst c
   rw [take_length,i,take_length] at p
   exact Bx<|A0<|A0<|Bh<|Cl<|Ab rfl<|Aq<|Am rfl rfl<|⟨by rw [decide_eq_true p],b⟩

theorem GR.at {W w:World} {x y:Value} {s:List Int} {l:List (BitVec 32)} (h:GR W w x y s l):(T4.mk x y s l).at w:=⟨h.sh,AH h.own⟩
theorem IM (u:Value) (l:List Int) (w:World) (a:BG (Value.int .i64) w u l):AO prog 224 [u] w (fun r w' =>r= .int .i64 (l.length:Int)∧Below w.heap.size w w'):=by
 refine A5 (n:=5) func224 O<|Ah<|Ab O<|Au<|Ad O<|Aa (Ay AF O ‹_›) O ?_
 exact Ab rfl<|Aq<|Am rfl rfl<|⟨rfl,Below.refl _ _⟩
end Go.Proofs.YtblbopcaflaldaaGreatDoor

namespace Go.Dd
abbrev S6:=BitVec 32
def ad (n:Nat) (a b:List S6):List S6:=(List.range n).map fun i=>a.getD i default+b.getD i default
end Go.Dd

namespace Go.Dd
open Go Go.RowKit List
def OF (f:Nat→Int):Nat→Int
 |0=>0
 |n+1=>OF f n+f n
def Hp (f:Nat→Int):List Nat→Int
 |[]=>0
 |x::l=>f x+Hp f l
theorem HS (f:Nat→Int):∀(l m:List Nat),Hp f (l++m)=Hp f l+Hp f m
 |[],m=>by simp [Hp]
 |x::l,m=>by simp only [cons_append,Hp];rw [HS f l m];omega
theorem MW {f:Nat→Int} {l m:List Nat} (h:l.Perm m):Hp f l=Hp f m:=by
 induction h with
 |nil=>rfl
 |cons x _ ih=>simp only [Hp];rw [ih]
 |swap x y l=>simp only [Hp];omega
 |trans _ _ h1 h2=>rw [h1,h2]
theorem IC (f:Nat→Int):∀n,Hp f (List.range n)=OF f n
 |0=>rfl
 |n+1=>by rw [range_succ,HS,IC f n];simp [OF,Hp]
def Ou (o:List Int) (j:Nat):Bool:=decide (0≤o.getD j default) && decide (o.getD j default<(o.length:Int)) && !(o.take j).contains (o.getD j default)
def Hk (o:List Int):Bool:=(List.range o.length).all (Ou o)
theorem HD {o:List Int}:Hk o=true↔∀j,j<o.length→Ou o j=true:=by
 unfold Hk
 rw [all_eq_true]
 exact ⟨fun h j a=>h j (List.mem_range.2 a),fun h j a=>h j (List.mem_range.1 a)⟩
theorem I6 {o:List Int} (h:Hk o=true) {j:Nat} (a:j<o.length):0≤o.getD j default∧o.getD j default<(o.length:Int):=by
 have:=HD.1 h j a
 simp only [Ou,Bool.and_eq_true,decide_eq_true_eq] at this
 exact this.1
theorem QP {o:List Int} (h:Hk o=true) {i j:Nat} (g:i<j) (c:j<o.length):o.getD i default≠o.getD j default:=by
 intro e
 have:=HD.1 h j c
 simp only [Ou,Bool.and_eq_true,Bool.not_eq_true'] at this
 have a:=this.2
 have b:o.getD j default ∈ o.take j:=by
  rw [← e]
  have d:i<o.length:=by omega
  have f:i<(o.take j).length:=by rw [length_take];omega
  have:(o.take j)[i]=o.getD i default:=by simp [d]
  rw [← this]
  exact getElem_mem f
 have:(o.take j).contains (o.getD j default)=true:=by simpa using b
 rw [this] at a
 cases a
def QR (o:List Int):List Nat:=o.map Int.toNat
theorem RJ:∀a:Fin 1,[a.val].isPerm [0]=true:=by decide
theorem RI:∀a b:Fin 2,a≠b→[a.val,b.val].isPerm [0,1]=true:=by decide
theorem RH:∀a b c:Fin 3,a≠b→a≠c→b≠c→[a.val,b.val,c.val].isPerm [0,1,2]=true:=by decide+kernel
theorem QM:∀a b c d:Fin 4,(a==b||a==c||a==d||b==c||b==d||c==d||[a.val,b.val,c.val,d.val].isPerm [0,1,2,3])=true:=by decide+kernel
theorem RG (a b c d:Fin 4) (h:a≠b) (f:a≠c) (j:a≠d) (g:b≠c) (i:b≠d) (e:c≠d):[a.val,b.val,c.val,d.val].isPerm [0,1,2,3]=true:=by
 have:=QM a b c d
 rw [beq_false_of_ne h,beq_false_of_ne f,beq_false_of_ne j,beq_false_of_ne g,beq_false_of_ne i,beq_false_of_ne e] at this
 exact this
theorem ER {n:Nat} {a b:Fin n} (h:a.val≠b.val):a≠b:=fun e=>h (cngA Fin.val e)
theorem Ot {o:List Int} (h:Hk o=true) (m:o.length≤4):(QR o).Perm (List.range o.length):=by
 have f:∀{j:Nat},j<o.length→(o.getD j default).toNat<o.length:=fun k=>by have:=I6 h k;omega
 have g:∀{i j:Nat},i<j→j<o.length→(o.getD i default).toNat≠(o.getD j default).toNat:=fun l k e=>by
  have p:=I6 h (j:=_) (Nat.lt_trans l k)
  have n:=I6 h k
  exact QP h l k (by omega)
 match o,m, @f, @g with
 |[],_,_,_=>exact List.Perm.refl _
 |[a],_,f,_=>exact List.isPerm_iff.1 (RJ ⟨_,f (j:=0) (by simp)⟩)
 |[a,b],_,f,g=>exact List.isPerm_iff.1 (RI ⟨_,f (j:=0) (by simp)⟩ ⟨_,f (j:=1) (by simp)⟩ (ER (g (i:=0) (j:=1) (by simp) (by simp))))
 |[a,b,c],_,f,g=>exact List.isPerm_iff.1 (RH ⟨_,f (j:=0) (by simp)⟩ ⟨_,f (j:=1) (by simp)⟩ ⟨_,f (j:=2) (by simp)⟩ (ER (g (i:=0) (j:=1) (by simp) (by simp))) (ER (g (i:=0) (j:=2) (by simp) (by simp))) (ER (g (i:=1) (j:=2) (by simp) (by simp))))
 |[a,b,c,d],_,f,g=>exact List.isPerm_iff.1 (RG ⟨_,f (j:=0) (by simp)⟩ ⟨_,f (j:=1) (by simp)⟩ ⟨_,f (j:=2) (by simp)⟩ ⟨_,f (j:=3) (by simp)⟩ (ER (g (i:=0) (j:=1) (by simp) (by simp))) (ER (g (i:=0) (j:=2) (by simp) (by simp))) (ER (g (i:=0) (j:=3) (by simp) (by simp))) (ER (g (i:=1) (j:=2) (by simp) (by simp))) (ER (g (i:=1) (j:=3) (by simp) (by simp))) (ER (g (i:=2) (j:=3) (by simp) (by simp))))
 |_::_::_::_::_::_,m,_,_=>simp at m
def turn (s o:List Int):List Int:=o.map fun k=>s.getD k.toNat default
def Sm (s:List Int) (k:Nat):List Int:=if s.length=1 then [1] else s.take k++s.drop (k+1)

section
variable {P : Program} {n : Nat} {E : BM} {w : World} {ty t s : TypeId} {x y : Operand}
end
end Go.Dd

namespace Go.Proofs.YtblbopcaflaldaaGreatDoor
open Go Go.Dd Go.RowKit List Go.Proofs.Tryz
set_option maxRecDepth 100000
set_option maxRecDepth 100000
theorem PT (u:Value) (l:List Int) (x:Int) (w:World) (b:BG (Value.int .i64) w u l):AO prog 290 [u, .int .i64 x] w (fun r w' =>(∃j,r= .int .i64 j∧decide (0≤j)=l.contains x)∧w' =w):=by
 have f:=b.le
 refine A5 (n:=19) func290 O<|Ah<|Ab O<|Ba<|Ad O<|Aa (Ay AF O ‹_›) O ?_
 refine Ad O<|Ak<|Av ?_
 refine B4 (S:=Nat) (fun i=>[(0,u),(1, .int .i64 x),(7, .int .i64 (l.length:Int)),(8, .int .i64 (i:Int))]) (fun i w' =>i≤l.length∧(l.take i).contains x=false∧w' =w) (fun i=>l.length - i) (0) ⟨rfl,rfl,rfl,rfl,trivial⟩ ?_ ?_
 ·exact ⟨Nat.zero_le _,rfl,rfl⟩
 rintro i k ⟨m,c,rfl⟩
 refine Ah<|B9 O<|Ak<|Ap<|Al O ?_ ?_
 ·intro h
  have a:i<l.length:=by have:=AE h;omega
  have e:l.take (i+1)=l.take i++[l.getD i default]:=by rw [take_succ_eq_append_getElem a];simp [a]
  refine B2<|Ap<|Av<|Ah<|Ad O<|Ab O<|Au<|Ad O<|Ad O<|Ad O<|Aa (A8 AF O O ‹_› _ O (by omega)) O ?_
  refine Aa (Be (BD _) O ‹_› (by omega)) O ?_
  refine Aa (Ce O O) O<|Ak<|Al O ?_ ?_
  ·intro g
   have g:=AE g
   refine Ah<|Ad O<|Ab O<|Aq<|Bd<|Ao<|Ao<|Bd<|Ao<|Am O O ?_
   refine ⟨⟨(i:Int),rfl, ?_⟩,rfl⟩
   have d:x ∈ l:=by rw [g];simp [a]
   rw [decide_eq_true (by omega),List.contains_iff_mem.2 d]
  intro g
  have g:=AC g
  refine B7<|Bb<|Cx<|Cn O (by omega)<|Ad O<|A7 ?_
  exact A3 (B1 (i+1) ⟨rfl,rfl,rfl,rfl,trivial⟩ (⟨a,by rw [e,contains_append,c,Bool.false_or,contains_cons,beq_false_of_ne g];rfl,rfl⟩) (by omega))
 intro h
 have a:i=l.length:=by have:=AC h;omega
 subst a
 rw [take_length] at c
 refine Bx<|A0<|A0<|Bh<|Cl<|Ab O<|Aq<|Am O O ?_
 exact ⟨⟨-1,rfl,by rw [c];rfl⟩,rfl⟩
theorem LP (u:Value) (l:List Int) (x:Int) (w:World) (a:BG (Value.int .i64) w u l):AO prog 275 [u, .int .i64 x] w (fun r w' =>r= .bool (l.contains x)∧Below w.heap.size w w'):=by
 refine A5 (n:=9) func275 O<|Ah<|Ab O<|Au<|Ad O<|Ad O<|Ai O O (PT u l x w a) ?_
 rintro _ _ ⟨⟨j,rfl,b⟩,rfl⟩
 exact Aa (Eu rfl rfl) rfl<|Ab rfl<|Aq<|Am rfl rfl<|⟨cngA Value.bool b,Below.refl _ _⟩

structure N5 where
 k:BitVec 8
 x:Value
 y:Value
 i:List Int
 s:List Int
 n:Int
 p:Int
def N5.cells (a:N5):List Value:=[b8 a.k,a.x,a.y, .int .i64 a.n, .int .i64 a.p]
abbrev N5.v (a:N5):Value:= .agg a.cells.toArray
structure N5.at (w:World) (a:N5):Prop where
 i:BG (Value.int .i64) w a.x a.i
 s:BG (Value.int .i64) w a.y a.s
theorem N5.at.bs {w w' :World} {a:N5} (h:N5.at w a) (g:Below w.heap.size w w'):N5.at w' a:=⟨h.i.bs g,h.s.bs g⟩
theorem N5.at.ones {w:World} {a:N5} (h:N5.at w a):a.cells.all (·.oneCell')=true:=by
 unfold N5.cells
 rw [all_cons,all_cons,all_cons,h.i.one',h.s.one'];rfl
def Qv (l:List Int):Bool:=(List.range l.length).all fun i=>l.contains (i:Int)
theorem H1 {l:List Int}:Qv l=true↔∀j,j<l.length→l.contains (j:Int)=true:=by
 unfold Qv
 rw [all_eq_true]
 exact ⟨fun h j a=>h j (List.mem_range.2 a),fun h j a=>h j (List.mem_range.1 a)⟩
theorem Rj {l:List Int} {j:Nat} (a:j<l.length) (h:l.contains (j:Int)=false):Qv l=false:=by
 cases hk:Qv l with
 |false=>rfl
 |true=>rw [H1.1 hk j a] at h;cases h
def IP (l:List Int):Bool:=Qv l && decide (l.length≤4)
def EY (least most lo hi ar sh:Int) (i s:List Int) (n p:Int):Bool:=
 !(decide ((i.length:Int)<least)||decide (most<(i.length:Int))||decide (n<lo)||decide (hi<n)||decide (p<0)||decide (ar<p)) && (if sh=0 then decide (s.length=0) else if sh=1 then Shapes.ok s else IP s)
theorem OL (v:Value) (l:List Int) (w:World) (o:BG (Value.int .i64) w v l):AO prog 248 [v] w (fun r w' =>r= .bool (IP l)∧Below w.heap.size w w'):=by
 have s:=o.le
 refine A5 (n:=17) func248 O<|Ah<|Ab O<|Ba<|Ad O<|Aa (Ay AF O ‹_›) O ?_
 refine Ad O<|Ak<|Av ?_
 refine B4 (S:=Nat) (fun i=>[(0,v),(5, .int .i64 (l.length:Int)),(6, .int .i64 (i:Int))]) (fun i w' =>i≤l.length∧(∀j,j<i→l.contains (j:Int)=true)∧Below w.heap.size w w') (fun i=>l.length - i) (0) ⟨rfl,rfl,rfl,trivial⟩ ?_ ?_
 ·exact ⟨Nat.zero_le _,fun _ h=>by omega,Below.refl _ _⟩
 rintro i p ⟨x,m,c⟩
 have k:=o.bs c
 refine Ah<|B9 O<|Ak<|Ap<|Al O ?_ ?_
 ·intro h
  have a:i<l.length:=by have:=AE h;omega
  refine B2<|Ap<|Av<|Ah<|Ad O<|Ab O<|Au<|Ad O<|Ad O<|Ai O O (LP v l (i:Int) p k) ?_
  rintro _ u ⟨rfl,t⟩
  have b:=c.trans (t.mono (AA c))
  refine Aa (Cq O) O<|Ak<|Al O ?_ ?_
  ·intro g
   have f:l.contains (i:Int)=false:=by simpa using g
   refine Ah<|Ab O<|Aq<|Bd<|Ao<|Ao<|Bd<|Ao<|Am O O ?_
   refine ⟨?_,b⟩
   unfold IP;rw [Rj a f];rfl
  intro g
  have f:l.contains (i:Int)=true:=by simpa using g
  refine B7<|Bb<|Cx<|Cn O (by omega)<|Ad O<|A7 ?_
  exact A3 (B1 (i+1) ⟨rfl,rfl,rfl,trivial⟩ (⟨a,fun j q=>(Nat.lt_succ_iff_lt_or_eq.1 q).elim (m j) (fun e=>e ▸ f),b⟩) (by omega))
 intro h
 have a:i=l.length:=by have:=AC h;omega
 subst a
 have d:Qv l=true:=H1.2 m
 refine Bx<|A0<|A0<|Bh<|Cl<|Ad O<|Aa (Ay AF O ‹_›) O ?_
 refine Aa (Ff O O) O<|Ab O<|Aq<|Am O O ?_
 refine ⟨?_,c⟩
 unfold IP;rw [d,Bool.true_and];congr 1;exact decide_eq_decide.2 (by omega)
theorem OC (a b l k j sh:Int) (x:N5) (w:World) (z:N5.at w x):
  AO prog 217 [kv [a,b,l,k,j,sh],x.v] w (fun r w' =>r= .bool (EY a b l k j sh x.i x.s x.n x.p)∧Below w.heap.size w w'):=by
 have d:=Below.refl w.heap.size w
 have h:=z.i
 have c:=z.s
 refine A5 (n:=61) func217 O<|Ah<|Cv (cs:=[a,b,l,k,j,sh].map (Value.int .i64)) O O O ?_
 rintro C w y i f -
 have d:=d.bs f
 have h:=h.bs f
 have c:=c.bs f
 refine Cv (cs:=x.cells) O O O ?_
 rintro B w A D f -
 have d:=d.bs f
 have h:=h.bs f
 have c:=c.bs f
 have i:=i.bs f
 refine Ab O<|Ba<|A6 underlying79 O (BQ _)<|Aa (An (BA _) O ‹_› rfl) O ?_
 refine Aa (Ay AF O ‹_›) O ?_
 refine Ab O<|Au<|Ad O<|A6 underlying275 O (BU _)<|Aa (An (BD _) O ‹_› rfl) O ?_
 refine B9 O<|Ad O ?_
 refine Bw 13 O ?_ ?_
 ·intro g
  have g:=AE g
  refine Ae (dj:=13) O O O O<|Ae (dj:=13) O O O O<|Ae (dj:=13) O O O O<|Ae (dj:=13) O O O O<|Bi O<|Ad O<|Ae (dj:=19) O O O O<|Ae (dj:=19) O O O O<|Ae (dj:=19) O O O O<|Ae (dj:=19) O O O O<|Ae (dj:=19) O O O O<|Bi O<|Ad O<|Ae (dj:=26) O O O O<|Ae (dj:=26) O O O O<|Ae (dj:=26) O O O O<|Ae (dj:=26) O O O O<|Ae (dj:=26) O O O O<|Bi O<|Ad O<|Ae (dj:=33) O O O O<|Ae (dj:=33) O O O O<|Ae (dj:=33) O O O O<|Bi O<|Ad O<|Ae (dj:=38) O O O O<|Ae (dj:=38) O O O O<|Ae (dj:=38) O O O O<|Ae (dj:=38) O O O O<|Ae (dj:=38) O O O O<|Bi O<|Ak<|Bn O<|Ah<|Ab O<|Bl<|Am O O ?_
  refine ⟨?_,d⟩
  unfold EY
  simp [g]
 intro t
 have t:=AC t
 refine Af (dj:=13) O O<|Ad O<|Af (dj:=13) O O<|A6 underlying275 O (BU _)<|Af (dj:=13) O O<|Aa (An (BD _) O ‹_› rfl) O ?_
 refine Af (dj:=13) O O<|Aa (C1 O O) O<|B6 O<|Ad O ?_
 refine Bw 19 O ?_ ?_
 ·intro g
  have g:=AE g
  refine Ae (dj:=19) O O O O<|Ae (dj:=19) O O O O<|Ae (dj:=19) O O O O<|Ae (dj:=19) O O O O<|Ae (dj:=19) O O O O<|Bi O<|Ad O<|Ae (dj:=26) O O O O<|Ae (dj:=26) O O O O<|Ae (dj:=26) O O O O<|Ae (dj:=26) O O O O<|Ae (dj:=26) O O O O<|Bi O<|Ad O<|Ae (dj:=33) O O O O<|Ae (dj:=33) O O O O<|Ae (dj:=33) O O O O<|Bi O<|Ad O<|Ae (dj:=38) O O O O<|Ae (dj:=38) O O O O<|Ae (dj:=38) O O O O<|Ae (dj:=38) O O O O<|Ae (dj:=38) O O O O<|Bi O<|Ak<|Bn O<|Ah<|Ab O<|Bl<|Am O O ?_
  refine ⟨?_,d⟩
  unfold EY
  simp [g]
 intro o
 have o:=AC o
 refine Af (dj:=19) O O<|A6 underlying79 O (BU _)<|Af (dj:=19) O O<|Aa (An (BD _) O ‹_› rfl) O ?_
 refine Af (dj:=19) O O<|A6 underlying275 O (BU _)<|Af (dj:=19) O O<|Aa (An (BD _) O ‹_› rfl) O ?_
 refine Af (dj:=19) O O<|B9 O<|B6 O<|Ad O ?_
 refine Bw 26 O ?_ ?_
 ·intro g
  have g:=AE g
  refine Ae (dj:=26) O O O O<|Ae (dj:=26) O O O O<|Ae (dj:=26) O O O O<|Ae (dj:=26) O O O O<|Ae (dj:=26) O O O O<|Bi O<|Ad O<|Ae (dj:=33) O O O O<|Ae (dj:=33) O O O O<|Ae (dj:=33) O O O O<|Bi O<|Ad O<|Ae (dj:=38) O O O O<|Ae (dj:=38) O O O O<|Ae (dj:=38) O O O O<|Ae (dj:=38) O O O O<|Ae (dj:=38) O O O O<|Bi O<|Ak<|Bn O<|Ah<|Ab O<|Bl<|Am O O ?_
  refine ⟨?_,d⟩
  unfold EY
  simp [g]
 intro v
 have v:=AC v
 refine Af (dj:=26) O O<|A6 underlying79 O (BU _)<|Af (dj:=26) O O<|Aa (An (BD _) O ‹_› rfl) O ?_
 refine Af (dj:=26) O O<|A6 underlying275 O (BU _)<|Af (dj:=26) O O<|Aa (An (BD _) O ‹_› rfl) O ?_
 refine Af (dj:=26) O O<|Aa (C1 O O) O<|B6 O<|Ad O ?_
 refine Bw 33 O ?_ ?_
 ·intro g
  have g:=AE g
  refine Ae (dj:=33) O O O O<|Ae (dj:=33) O O O O<|Ae (dj:=33) O O O O<|Bi O<|Ad O<|Ae (dj:=38) O O O O<|Ae (dj:=38) O O O O<|Ae (dj:=38) O O O O<|Ae (dj:=38) O O O O<|Ae (dj:=38) O O O O<|Bi O<|Ak<|Bn O<|Ah<|Ab O<|Bl<|Am O O ?_
  refine ⟨?_,d⟩
  unfold EY
  simp [g]
 intro s
 have s:=AC s
 refine Af (dj:=33) O O<|A6 underlying79 O (BU _)<|Af (dj:=33) O O<|Aa (An (BD _) O ‹_› rfl) O ?_
 refine Af (dj:=33) O O<|B9 O<|B6 O<|Ad O ?_
 refine Bw 38 O ?_ ?_
 ·intro g
  have g:=AE g
  refine Ae (dj:=38) O O O O<|Ae (dj:=38) O O O O<|Ae (dj:=38) O O O O<|Ae (dj:=38) O O O O<|Ae (dj:=38) O O O O<|Bi O<|Ak<|Bn O<|Ah<|Ab O<|Bl<|Am O O ?_
  refine ⟨?_,d⟩
  unfold EY
  simp [g]
 intro u
 have u:=AC u
 refine Af (dj:=38) O O<|A6 underlying79 O (BU _)<|Af (dj:=38) O O<|Aa (An (BD _) O ‹_› rfl) O ?_
 refine Af (dj:=38) O O<|A6 underlying275 O (BU _)<|Af (dj:=38) O O<|Aa (An (BD _) O ‹_› rfl) O ?_
 refine Af (dj:=38) O O<|Aa (C1 O O) O<|B6 O<|Ak<|Al O ?_ ?_
 ·intro g
  have g:=AE g
  refine Ah<|Ab O<|Bl<|Am O O ?_
  refine ⟨?_,d⟩
  unfold EY
  simp [g]
 intro m
 have m:=AC m
 have e:EY a b l k j sh x.i x.s x.n x.p=if sh=0 then decide (x.s.length=0) else if sh=1 then Shapes.ok x.s else IP x.s:=by
  unfold EY
  rw [decide_eq_false t,decide_eq_false o,decide_eq_false v,decide_eq_false s,decide_eq_false u,decide_eq_false m];rfl
 rw [e]
 refine B2<|Ap<|Ah<|A6 underlying275 O (BU _)<|Aa (An (BD _) O ‹_› rfl) O ?_
 refine Ak<|Av<|Ah<|Aa (Ce O O) O<|Ab O<|Ak<|Al O ?_ ?_
 ·intro g
  have g:=AE g
  refine Ah<|A6 underlying79 O (BQ _)<|Aa (An (BA _) O ‹_› rfl) O ?_
  refine Aa (Ay AF O ‹_›) O ?_
  refine Aa (Ce O O) O<|Ab O<|Aq<|Bd<|Ao<|Am O O ?_
  refine ⟨?_,d⟩
  rw [if_pos g];congr 1;exact decide_eq_decide.2 (by omega)
 intro p
 have p:=AC p
 rw [if_neg p]
 refine Ah<|Aa (Ce O O) O<|Ab O<|Ak<|Al O ?_ ?_
 ·intro g
  have g:=AE g
  rw [if_pos g]
  refine Ah<|A6 underlying79 O (BQ _)<|Aa (An (BA _) O ‹_› rfl) O ?_
  refine Ai O O (DD x.y x.s w c) ?_
  rintro _ w ⟨rfl,f⟩
  exact Ab rfl<|Aq<|Bd<|Ao<|Am rfl rfl<|⟨rfl,bt d f⟩
 intro q
 have q:=AC q
 rw [if_neg q]
 refine B7<|Bb<|Cl<|A6 underlying79 O (BQ _)<|Aa (An (BA _) O ‹_› rfl) O ?_
 refine Ai O O (OL x.y x.s w c) ?_
 rintro _ w ⟨rfl,f⟩
 exact Ab rfl<|Aq<|Am rfl rfl<|⟨rfl,bt d f⟩
end Go.Proofs.YtblbopcaflaldaaGreatDoor

namespace Go.Dd
open Go Go.RowKit List
section
variable {P : Program} {n : Nat} {E : BM} {w : World} {e ty : TypeId} {x : Operand}
theorem Gb {b o k:Nat} {T:TypeId} {cs ds:List Value} (d:(isAgg e).run P w= .ok true w) (m:(sizeOf e).run P w= .ok k w) (g:ds.length=k) (p:ev E x=some (.pointer (some ⟨b,o,none⟩))) (h:AK w b T cs) (f:(cs.drop o).take k=ds):
  Ex P n E (.load e x) ty w (.agg ds.toArray):=fun a l _ _ _ _=>by
 subst g
 have i:=run_loadCells_list (P:=P) w ⟨b,o,none⟩ ds (fun j v c=>by
  rw [add_lit,h.cell]
  rw [← f,getElem?_take] at c
  split at c
  ·rw [getElem?_drop] at c;exact c
  ·cases c)
 simp [execOp,l.ev p,Instr.loadAt,Instr.sureAddr,loadVar,d,m,i]
end

def GE (xs:List Value) (o:Nat) (ds:List Value):List Value:=xs.take o++ds++xs.drop (o+ds.length)
theorem JT {xs ds:List Value} {o:Nat} (h:o+ds.length≤xs.length):(GE xs o ds).length=xs.length:=by
 simp only [GE,length_append,length_take,length_drop];omega
theorem Hb {xs ds:List Value} {o i:Nat} (h:o+ds.length≤xs.length):(GE xs o ds)[i]? =if i<o then xs[i]? else if i<o+ds.length then ds[i - o]? else xs[i]? :=by
 have a:(xs.take o).length=o:=by rw [length_take];omega
 unfold GE
 by_cases hi:i<o
 ·rw [if_pos hi,append_assoc,getElem?_append_left (by omega),getElem?_take,if_pos hi]
 ·rw [if_neg hi]
  by_cases hj:i<o+ds.length
  ·rw [if_pos hj,getElem?_append_left (by rw [length_append];omega),getElem?_append_right (by omega),a]
  ·rw [if_neg hj,getElem?_append_right (by rw [length_append];omega),length_append,a,getElem?_drop]
   congr 1;omega
theorem Mi {xs:List Value} {o:Nat} {u:Value} (h:o<xs.length):GE xs o [u]=xs.set o u:=by
 apply ext_getElem?
 intro i
 rw [Hb (by simp;omega),getElem?_set]
 by_cases h1:i<o
 ·rw [if_pos h1,if_neg (by omega)]
 ·rw [if_neg h1]
  by_cases h2:i=o
  ·subst h2;simp [h]
  ·rw [if_neg (by simp;omega),if_neg (fun e=>h2 e.symm)]
theorem NU {xs ds:List Value} {o m:Nat} (h:o+ds.length≤m) (a:m≤xs.length):(GE xs o ds).take m=GE (xs.take m) o ds:=by
 apply ext_getElem?
 intro i
 rw [getElem?_take,Hb (by omega),Hb (by rw [length_take];omega),getElem?_take]
 by_cases h1:i<m
 ·rw [if_pos h1,if_pos h1]
 ·rw [if_neg h1,if_neg h1,if_neg (by omega),if_neg (by omega)]
def HT {α:Type} (f:α→List Value) (l:List α):List Value:=(l.map f).flatten
section
variable {α : Type} {f : α → List Value} {k : Nat}
theorem IT {a:α} {l:List α}:HT f (a::l)=f a++HT f l:=rfl
theorem Kh:∀{l:List α} {j i:Nat},(∀a ∈ l,(f a).length=k)→(c:j<l.length)→i<k→(HT f l)[j*k+i]? =(f l[j])[i]?
 |a::l,0,i,h,_,hi=>by
  rw [IT,Nat.zero_mul,Nat.zero_add,getElem?_append_left (by rw [h a (by simp)];exact hi)];rfl
 |a::l,j+1,i,h,c,hi=>by
  rw [IT,getElem?_append_right (by rw [h a (by simp),Nat.succ_mul];omega),h a (by simp),show (j+1)*k+i - k=j*k+i by rw [Nat.succ_mul];omega,Kh (fun b d=>h b (mem_cons_of_mem _ d)) (by simpa using c) hi];rfl
end
theorem KY:∀(vs:List Value) (k off:Nat) (a:Array Value),off+k+vs.length≤a.size→(vs.zipIdx k).foldl (fun cs x=>cs.setIfInBounds (off+x.2) x.1) a=(GE a.toList (off+k) vs).toArray
 |[],k,off,a,_=>by simp [GE]
 |v::vs,k,off,a,h=>by
  have b:off+k<a.size:=by simp at h;omega
  rw [zipIdx_cons,foldl_cons,KY vs (k+1) off _ (by simp at h ⊢;omega)]
  congr 1
  simp only [Array.toList_setIfInBounds]
  apply ext_getElem?
  intro i
  rw [Hb (by simp at h ⊢;omega),Hb (by simp at h ⊢;omega),getElem?_set]
  simp only [Array.length_toList,length_cons]
  by_cases c1:i<off+k
  ·rw [if_pos (by omega),if_pos c1,if_neg (by omega)]
  ·rw [if_neg c1]
   by_cases c2:i=off+k
   ·subst c2
    rw [if_pos (by omega),if_pos rfl,if_pos b,if_pos (by omega),Nat.sub_self,getElem?_cons_zero]
   ·rw [if_neg (show ¬i<off+(k+1) by omega)]
    by_cases c3:i<off+k+(vs.length+1)
    ·rw [if_pos (show i<off+(k+1)+vs.length by omega),if_pos c3,show i - (off+k)=(i - (off+(k+1)))+1 by omega,getElem?_cons_succ]
    ·rw [if_neg (show ¬i<off+(k+1)+vs.length by omega),if_neg (show ¬off+k=i by omega),if_neg c3]
theorem OT {Mn:Nat→Option (Nat×Nat)} {a:Array Value} {i off:Nat} {v:Value} {ds:List Value} (b:v.cells=ds.toArray) (d:Mn i=some (off,ds.length)) (h:off+ds.length≤a.size):Instr.fill Mn a [(i,v)]=some (GE a.toList off ds).toArray:=by
 have g:=KY ds 0 off a (by omega)
 have e:v.cells.zipIdx.foldl (fun cs (c,j)=>cs.setIfInBounds (off+j) c) a=(GE a.toList off ds).toArray:=by
  rw [b]
  have:ds.toArray.zipIdx=(ds.zipIdx).toArray:=by simp
  rw [this,foldl_toArray]
  simpa using g
 unfold Instr.fill
 simp only [d,b,size_toArray]
 rw [if_neg (by simp;omega)]
 rw [b] at e
 rw [e]
 rfl
theorem P6 {xs ds:List Value} (h:xs.length=ds.length):GE xs 0 ds=ds:=by
 unfold GE
 rw [take_zero,nil_append,drop_of_length_le (by omega),append_nil]
section
variable {P : Program} {n : Nat} {E : BM} {w : World} {ty t e : TypeId} {x : Operand} {sz : Nat}
theorem Fk {cs h:List Value} {a:Nat} (d:FI P t e sz) (i:G3 P e h a) (j:ev E x=some (.agg cs.toArray)) (b:cs.length=sz) (c:0<sz) (g:sz≤16777216):
  Xw P n E (.buildSlice t 1 #[(0,x)]) ty w (fun v w' =>w'.ownsRow w.heap.size e sz v 1 cs∧v= .slice (some ⟨w.heap.size,0,none⟩) 1 1∧Below w.heap.size w w' ∧w'.heap.size=w.heap.size+1):=by
 subst b
 refine Xw.litA (ps:=[(0,x)]) (vs:=[(0, .agg cs.toArray)]) d i (by simp [pev,j]) c Nat.zero_lt_one (by omega) ?_ (by omega)
 rw [OT (off:=0) (ds:=cs) rfl (by simp) (by simp)]
 rw [P6 (by simp)]
end
theorem EV {w:World} {base:Nat} {T:TypeId} {sz n g:Nat} {v:Value} {xs:List Value} (h:w.ownsRow base T sz v n xs) (l:v.ownBlock=some g):
  ∃cap a,v= .slice (some ⟨g,0,none⟩) n cap∧AK w g T a∧a.take (n*sz)=xs∧n≤cap∧cap≤maxLen∧a.length=cap*sz∧base≤g:=by
 rcases h.2 with ⟨rfl,_⟩|⟨o,cap,a,rfl,m,i,d,c,j,b⟩
 ·cases l
 ·obtain rfl:o=g:=by simpa [Value.ownBlock] using l
  exact ⟨cap,a.toList,rfl,by unfold AK;simpa using i,b,d,c,by simpa using j,m⟩
theorem I5 {w:World} {base:Nat} {T:TypeId} {sz n g cap:Nat} {a:List Value} (h:AK w g T a) (b:a.length=cap*sz) (c:n≤cap) (i:cap≤maxLen) (d:base≤g):w.ownsRow base T sz (.slice (some ⟨g,0,none⟩) n cap) n (a.take (n*sz)):=
 ⟨by rw [length_take,b];exact Nat.min_eq_left (Nat.mul_le_mul_right _ c), .inr ⟨g,cap,a.toArray,rfl,d,h,c,i,by simpa using b,by simp⟩⟩
section
variable {P : Program} {n : Nat} {E : BM} {w : World} {e ty t : TypeId} {x y z : Operand} {u v : Value}
theorem Gd {k:IntKind} {m:Int} {base sz c g:Nat} {T:TypeId} {xs:List Value} (l:FI P t e sz) (r:ev E x=some v) (i:ev E y=some (.int k m)) (h:w.ownsRow base T sz v c xs) (o:v.ownBlock=some g) (j:Nat) (b:m=(j:Int)) (d:j<c):
  Ex P n E (.indexAddr t x y) ty w (.pointer (some ⟨g,j*sz,none⟩)):=by
 obtain ⟨cap,a,rfl, -⟩:=EV h o
 refine (Dx l r i (AH h) j b d).as ?_
 simp [BT,add_lit]
theorem Ex.ldO {base sz c g o:Nat} {T:TypeId} {xs:List Value} (d:(isAgg e).run P w= .ok false w) (m:ev E x=some (.pointer (some ⟨g,o,none⟩))) (h:w.ownsRow base T sz v c xs) (l:v.ownBlock=some g) (a:xs[o]? =some u):Ex P n E (.load e x) ty w u:=by
 obtain ⟨cap,i,rfl,j,b, -⟩:=EV h l
 refine An d m j ?_
 rw [← b,getElem?_take] at a
 split at a
 ·exact a
 ·cases a
theorem Xu.stO1 {base sz c g o:Nat} {T:TypeId} {xs:List Value} (i:(sizeOf e).run P w= .ok 1 w) (L:ev E x=some (.pointer (some ⟨g,o,none⟩))) (K:ev E y=some u) (b:u.oneCell' =true) (h:w.ownsRow base T sz v c xs) (F:v.ownBlock=some g) (N:o<xs.length):
  Xu P n E (.store e x y) ty w (fun w' =>w'.ownsRow base T sz v c (GE xs o [u])∧w.grownBy w' (some g)∧w'.heap.size=w.heap.size):=fun a M=>by
 have B:=h.1
 obtain ⟨cap,j,rfl,D,d,m,C,r,G⟩:=EV h F
 have l:c*sz≤j.length:=by rw [r];exact Nat.mul_le_mul_right _ m
 obtain ⟨w',H,A,I,J⟩:=B5 (P:=P) (ty:=ty) i L K b D (by omega) a M
 refine ⟨w',H, ?_,I,J⟩
 rw [← Mi (by omega)] at A
 have:=I5 (base:=base) (sz:=sz) (n:=c) (cap:=cap) A (by rw [JT (by simp;omega)];exact r) m C G
 rwa [NU (by simp;omega) l,d] at this
theorem Ex.arrH {b o c j:Nat} {k:IntKind} (l:P.underlying t=some (.array c e)) (d:∀w,(sizeOf e).run P w= .ok 1 w) (m:ev E x=some (.pointer (some ⟨b,o,none⟩))) (i:ev E y=some (.int k (j:Int))) (h:j≤c):Ex P n E (.slice t x none (some y) none) ty w (.slice (some ⟨b,o,none⟩) j c):=fun a g _ _ _ _=>by
 have r:(0:Int)≤(j:Int)∧(j:Int)≤(c:Int):=by omega
 simp [execOp,g.ev m,g.ev i,Instr.sliceAt,run_underlying l,Instr.sureAddr,Instr.sliceBounds,Instr.sliceBound,asIntOf,h,d w,add_lit]
def cutp (v:Value) (sz i j:Nat):Value:=match v with
 | .slice ao _ _=> .slice (if j=i then ao else ao.map (·.add (i*sz))) (j - i) (j - i)
 |_=>undef
theorem Ex.cutP {c i j:Nat} {C A m:Operand} {l B o:IntKind} {sz:Nat} (b:FI P t e sz) (J:ev E x=some v) (H:ev E C=some (.int l (i:Int))) (I:ev E A=some (.int B (j:Int))) (G:ev E m=some (.int o (j:Int))) (h:Mb v c) (D:i≤j) (Q:j≤c):Ex P n E (.slice t x (some C) (some A) (some m)) ty w (cutp v sz i j):=fun a d _ _ _ _=>by
 obtain ⟨F,cap,rfl,M,L,N⟩:=h
 have g:P.underlying t=some (.slice (P.elem t)):=by rw [Program.elem,b.u]
 have K:P.elem t=e:=by rw [Program.elem,b.u]
 have r:=run_slice_lhm (P:=P) w t F c cap g l B o (i:Int) (j:Int) (j:Int) (by omega) (by omega) (by omega) (by omega)
 simp only [Int.toNat_natCast,K,b.s w,Result.andThen_ok] at r
 simp [execOp,d.ev J,d.ev H,d.ev I,d.ev G,Instr.sliceAt,run_underlying b.u,r,sliced,Dd.cutp]
theorem Sl.cutp {c i j sz:Nat} {xs:List Value} (h:Sl w sz v c xs) (B:i≤j) (D:j≤c):Sl w sz (cutp v sz i j) (j - i) ((xs.drop (i*sz)).take ((j - i)*sz)):=by
 obtain ⟨o,g,cap,rfl,F,C,A,r⟩:=h
 have m:(j - i)*sz≤c*sz - i*sz:=by rw [← Nat.sub_mul];exact Nat.mul_le_mul_right _ (by omega)
 refine ⟨by rw [length_take,length_drop,o];exact Nat.min_eq_left m,_,j - i,rfl,AQ _,by omega,fun l=> ?_,fun a d q u b=> ?_⟩
 ·by_cases hji:j=i
  ·omega
  ·rw [if_neg hji] at l
   cases g with
   |none=>have:=A rfl;omega
   |some _=>cases l
 ·by_cases hji:j=i
  ·rw [hji] at b;simp at b
  ·rw [if_neg hji] at d
   cases g with
   |none=>cases d
   |some ad=>
    cases d
    rw [G1]
    refine r ad O _ u ?_
    rw [getElem?_take] at b
    split at b
    ·rwa [getElem?_drop] at b
    ·cases b
theorem OX {v:Value} {sz i j:Nat} (h:∃a c k,v= .slice a c k):(Dd.cutp v sz i j).oneCell' =true:=by
 obtain ⟨a,c,k,rfl⟩:=h;rfl
end
section
variable {P : Program} {n : Nat} {E : BM} {w : World} {ty t s : TypeId} {x y : Operand} {p q : BitVec 64}
end

section
variable {P : Program} {n : Nat} {E : BM} {w : World} {e ty t : TypeId} {x y z : Operand} {u v : Value}
theorem Lw.valU {Q:BB} {f b:List Oper} {c:String} {m:Array Edge} {d:Op} {R:Value→World→Prop} (h:Xw P n E d ty w R) (k:∀v w',R v w' →Lw P f Q n b E w'):Lw P f Q n (⟨none,d,ty,c,m,none⟩::b) E w:=
 fun a g=>wpList_plain rfl fun K l=>by
  obtain ⟨v,w',j,i⟩:=h a g
  unfold Oper.wp;rw [j];exact l _ _ (k v w' i _ (g.put_none _))
theorem Gu {b k m cap:Nat} {T:TypeId} {f d:List Value} {j:Nat} {Q:Value} (F:FI P t e 1) (M:G3 P e [Q] j) (N:ev E x=some (.slice (some ⟨b,0,none⟩) k cap)) (J:ev E y=some u)
  (h:AK w b T f) (Z:f.length=cap) (r:Sl w 1 u m d) (p:d.all (·.oneCell')=true) (L:k+m≤cap):
  Xw P n E (.call {callee:= .builtin .append,args:= #[x,y],argTypes:= #[t,t]}) ty w (fun v' w' =>v' = .slice (some ⟨b,0,none⟩) (k+m) cap∧AK w' b T (GE f k d)∧w.grownBy w' (some b)∧w'.heap.size=w.heap.size):=fun a G=>by
 obtain ⟨i,D,l,Y,zv,U,V⟩:=M.i
 have l:i.size=1:=l
 obtain ⟨B,C,c,rfl,W,X,K,S⟩:=r
 rw [Nat.mul_one] at B
 have g:=run_storeCells_at P b k T d 0 f.toArray w h (by simp;omega) (fun v R=>List.all_eq_true.1 p v R)
 simp only [Nat.add_zero] at g
 have o:(Builtin.append_ #[t,t] ty #[.slice (some ⟨b,0,none⟩) k cap, .slice C m c]).run P w= .ok (.slice (some ⟨b,0,none⟩) (k+m) cap) (w.setRow b (GE f k d).toArray):=by
  cases C with
  |none=>
   have H:=K rfl
   have s:m=0:=by omega
   subst s
   obtain rfl:d=[]:=eq_nil_of_length_eq_zero (by simpa using B)
   have A:k≤cap:=by omega
   simp [Builtin.append_,run_underlying F.u,sizeOf,typeInfo,D,l,Builtin.lenOf,A,Builtin.firstCells,Addr.add_lit,g,GE]
  |some ad=>
   have q:=run_firstCells_some (P:=P) w i.size m ad m c d (by rw [l,Nat.mul_one];exact B) (S ad rfl)
   rw [l] at q
   simp [Builtin.append_,run_underlying F.u,sizeOf,typeInfo,D,l,Builtin.lenOf,L,q,Addr.add_lit,g,GE]
 exact ⟨_,_,fun _ _ _ _=>by simp [execOp,resolve,invoke,builtin,G.ev N,G.ev J,o],rfl,setRow_heap w b _ _ _ _ h,⟨rfl,rfl,rfl,by simp [World.setRow],fun k _ I=>setRow_other w b k _ (fun e=>I (by simp [e]))⟩,by simp [World.setRow]⟩
theorem Xw.clear {b o m c:Nat} {T:TypeId} {d:List Value} {g:Nat} {f:Value} (H:FI P t e 1) (I:G3 P e [f] g) (s:f.oneCell' =true) (J:ev E x=some (.slice (some ⟨b,o,none⟩) (m+1) c)) (h:AK w b T d) (Q:o+(m+1)≤d.length):
  Xw P n E (.call {callee:= .builtin .clear,args:= #[x],argTypes:= #[t]}) ty w (fun _ w' =>AK w' b T (GE d o (replicate (m+1) f))∧w.grownBy w' (some b)∧w'.heap.size=w.heap.size):=fun a M=>by
 obtain ⟨i,F,B,R,zv,D,G⟩:=I.i
 have B:i.size=1:=B
 have p:zv.cells= #[f]:=G
 have A:∀q,Builtin.zeroCells zv.cells q=(replicate q f).toArray:=fun q=>by
  apply Array.ext
  ·simp [Builtin.zeroCells,p]
  ·intro j N S
   simp [Builtin.zeroCells,p,Nat.mod_one]
 have l:=run_storeCells_at P b o T (replicate (m+1) f) 0 d.toArray w h (by simp;omega) (fun v L=>by rw [(List.mem_replicate.1 L).2];exact s)
 simp only [Nat.add_zero,length_replicate] at l
 have K:GE d o (replicate (m+1) f)=d.take o++replicate (m+1) f++d.drop (o+(m+1)):=by simp [GE]
 have r:(Builtin.clear_ #[t] ty #[.slice (some ⟨b,o,none⟩) (m+1) c]).run P w= .ok (.tuple #[]) (w.setRow b (GE d o (replicate (m+1) f)).toArray):=by
  rw [K]
  simp [Builtin.clear_,run_underlying H.u,zeroValue,typeInfo,F,D,A,l]
 refine ⟨.tuple #[],_,fun _ _ _ _=>by simp [execOp,resolve,invoke,builtin,M.ev J,r],setRow_heap w b _ _ _ _ h,⟨rfl,rfl,rfl,by simp [World.setRow],fun k _ C=>setRow_other w b k _ (fun e=>C (by simp [e]))⟩,by simp [World.setRow]⟩
theorem Xw.cut3 {b c cap i j q:Nat} {l m o:IntKind} {s p:Operand} (f:FI P t e 1) (C:ev E x=some (.slice (some ⟨b,0,none⟩) c cap)) (B:ev E y=some (.int l (i:Int))) (k:ev E s=some (.int m (j:Int))) (g:ev E p=some (.int o (q:Int))) (F:i≤j) (D:j≤q) (G:q≤cap):
  Xw P n E (.slice t x (some y) (some s) (some p)) ty w (fun _ w' =>w' =w):=fun a d=>by
 have h:P.underlying t=some (.slice (P.elem t)):=by rw [Program.elem,f.u]
 have A:P.elem t=e:=by rw [Program.elem,f.u]
 have r:=run_slice_lhm (P:=P) w t (some ⟨b,0,none⟩) c cap h l m o (i:Int) (j:Int) (q:Int) (by omega) (by omega) (by omega) (by omega)
 simp only [A,f.s w,Result.andThen_ok] at r
 exact ⟨_,_,fun _ _ _ _=>by simp [execOp,d.ev C,d.ev B,d.ev k,d.ev g,Instr.sliceAt,run_underlying f.u,r];rfl,rfl⟩
theorem Ex.cutLHc {b c cap i j:Nat} {l m:IntKind} {p:Operand} (d:FI P t e 1) (s:ev E x=some (.slice (some ⟨b,0,none⟩) c cap)) (r:ev E y=some (.int l (i:Int))) (k:ev E p=some (.int m (j:Int))) (B:i≤j) (A:j≤cap) (C:i<cap):
  Ex P n E (.slice t x (some y) (some p) none) ty w (.slice (some ⟨b,i,none⟩) (j - i) (cap - i)):=fun a g _ _ _ _=>by
 have h:P.underlying t=some (.slice (P.elem t)):=by rw [Program.elem,d.u]
 have q:P.elem t=e:=by rw [Program.elem,d.u]
 have o:=run_slice_lh (P:=P) w t (some ⟨b,0,none⟩) c cap h l m (i:Int) (j:Int) (by omega) (by omega) (by omega)
 simp only [Int.toNat_natCast,q,d.s w,Result.andThen_ok] at o
 have f:¬cap=i:=by omega
 simp [execOp,g.ev s,g.ev r,g.ev k,Instr.sliceAt,run_underlying d.u,o,sliced,f,add_lit]
end
end Go.Dd

namespace Go.Proofs.YtblbopcaflaldaaGreatDoor
open Go Go.Dd Go.RowKit List
set_option maxRecDepth 100000
instance:Inhabited T4:=⟨⟨.slice none 0 0, .slice none 0 0,[],[]⟩⟩
structure LI (w:World) (v:Value) (ps:List (Value×List Int)):Prop where
 sl:BG (fun p:Value×List Int=>p.1) w v ps
 each:∀p ∈ ps,BG (Value.int .i64) w p.1 p.2
theorem LI.bs {w w' :World} {v:Value} {ps:List (Value×List Int)} (h:LI w v ps) (g:Below w.heap.size w w'):LI w' v ps:=⟨h.sl.bs g,fun p a=>(h.each p a).bs g⟩
abbrev AS (ps:List (Value×List Int)):List (List Int):=ps.map (·.2)
def Pr (k:Nat) (s x:List Int):Option (List Int):=if x.length=s.length∧k<s.length∧(∀m,m<s.length→m≠k→s.getD m default=x.getD m default) then some (s.set k (s.getD k default+x.getD k default)) else none
def Nj (k:Nat):List Int→List (List Int)→Option (List Int)
 |s,[]=>some s
 |s,x::r=>match Pr k s x with
  |some s' =>Nj k s' r
  |none=>none
end Go.Proofs.YtblbopcaflaldaaGreatDoor

namespace Go.Proofs.YtblbopcaflaldaaGreatDoor
open Go Go.Dd Go.RowKit List Go.Proofs.Tryz
set_option maxRecDepth 100000
theorem RZ (v:Value) (l:List Int) (i B:Nat) (w:World) (u:w.ownsRow B 3 1 v l.length (l.map (Value.int .i64))) (K:i<l.length) (R:B≤w.heap.size) (U:l.length≤1000000):
  AO prog 277 [v, .int .i64 (i:Int), .int .i64 ((i+1:Nat):Int)] w (fun r w' =>w'.ownsRow B 3 1 r (l.eraseIdx i).length ((l.eraseIdx i).map (Value.int .i64))∧Below B w w'):=by
 have e:=AH u
 obtain ⟨b,C, -,H, -, -⟩:∃b cap,v= .slice (some ⟨b,0,none⟩) l.length cap∧v.ownBlock=some b∧True∧True:=by
  rcases u.2 with ⟨_,T⟩|⟨g,cap,c,rfl, -⟩
  ·omega
  ·exact ⟨g,cap,rfl,rfl,trivial,trivial⟩
 obtain ⟨cap,c,rfl,G,j,D,A,x,p⟩:=EV u H
 rw [Nat.mul_one] at j x
 have e:BG (Value.int .i64) w (.slice (some ⟨b,0,none⟩) l.length cap) l:=e
 have h:=BG.drop e (show i+1≤l.length by omega)
 obtain ⟨a,d⟩:∃a,a=(l.drop (i+1)).map (Value.int .i64):=⟨_,rfl⟩
 have W:a.length=l.length - (i+1):=by rw [d,length_map,length_drop]
 have h:Sl w 1 (cut (.slice (some ⟨b,0,none⟩) l.length cap) 1 (i+1) l.length) (l.length - (i+1)) a:=by
  have:=h;unfold BG at this
  rwa [length_drop,← d] at this
 have o:cut (.slice (some ⟨b,0,none⟩) l.length cap) 1 0 i= .slice (some ⟨b,0,none⟩) i cap:=by
  unfold cut
  simp only [Nat.sub_zero]
  split
  ·rfl
  ·simp [add_lit]
 refine A5 (n:=33) func277 O<|Ah<|Ab O<|Au<|Ad O<|Ad O<|Ad O<|Ad O<|Aa (Ay AF O ‹_›) O ?_
 refine Ar (Xw.cut3 AF O O O O (by omega) (by omega) D) O ?_
 rintro _ w rfl
 refine Ba<|Ad O<|Ad O<|Aa (Ex.as (Ce O O) (cngA Value.bool (decide_eq_false (by omega)))) O<|Ak<|Cm O false (rfl)<|Ca<|Ad O<|Aa (Ay AF O ‹_›) O ?_
 refine Ab O<|Ak<|Ap<|Cw.tail 6 mixed (by kernel_rfl)<|Bz O<|Bz O<|As (fun z f=>Ex.as (Gl AF O O e.shp (by omega)) o) O<|Bz O<|Bz O<|As (fun z f=>E7 (i:=i+1) AF O O e.shp (by omega)) O ?_
 refine Qw.done (fun z f=> ?_)
 refine Ar (Gu AF DL O O (G.bs f) x (h.bs f) (by rw [d];exact CH (fun _=>rfl) _) (by omega)) O ?_
 rintro _ X ⟨rfl,k,t,I⟩
 have M:i+(l.length - (i+1))=l.length - 1:=by omega
 rw [M]
 have l2:(GE c i a).length=cap:=by rw [JT (by omega)];exact x
 have V:(l.length:Int)=((l.length - 1+1:Nat):Int):=by omega
 refine Ab O<|Au<|Ad O<|Ad O<|Aa (Ay AF O (AH (I5 (base:=B) (sz:=1) k (by rw [Nat.mul_one];exact l2) (by omega) A p))) O<|Ad O<|Aa (Ex.cutLHc AF O O O (show l.length - 1≤l.length by omega) D (by omega)) O ?_
 have J:l.length - (l.length - 1)=0+1:=by omega
 rw [J]
 refine Lw.valU (Xw.clear (m:=0) AF DL O O k (by omega)) ?_
 rintro _ S ⟨y,q,L⟩
 have s:((l.eraseIdx i).length)=l.length - 1:=by rw [length_eraseIdx,if_pos K]
 have CK:(GE (GE c i a) (l.length - 1) (replicate (0+1) (Value.int .i64 0))).take ((l.length - 1)*1)=(l.eraseIdx i).map (Value.int .i64):=by
  have N:GE (GE c i a) (l.length - 1) (replicate (0+1) (Value.int .i64 0))=(GE c i a).take (l.length - 1)++(replicate (0+1) (Value.int .i64 0)++(GE c i a).drop (l.length - 1+1)):=by simp [GE]
  rw [Nat.mul_one,N,take_left' (by rw [length_take];omega)]
  have Q:GE c i a=(c.take i++a)++c.drop (i+a.length):=by simp [GE]
  rw [Q,take_left' (by rw [length_append,length_take];omega)]
  have F:c.take i=(l.take i).map (Value.int .i64):=by
   have:=cngA (take i) j
   rw [take_take,Nat.min_eq_left (by omega)] at this
   rw [this,map_take]
  rw [F,d,← map_append,eraseIdx_eq_take_drop_succ]
 have E:=I5 (base:=B) (sz:=1) (n:=l.length - 1) y (by rw [Nat.mul_one,JT (by simp;omega)];exact l2) (by omega) A p
 rw [CK] at E
 refine Au<|Ad O<|Ab O<|Aq<|Am O O ?_
 rw [s]
 exact ⟨E,(((Below.refl B w).trans (f.mono R)).grown t (by have:=f.size;omega) (by rintro _ ⟨⟩;exact p)).grown q (by have:=f.size;omega) (by rintro _ ⟨⟩;exact p)⟩
def Q5 (s:List Int) (k:Int):List Int:=if (s.length:Int)≤k then [] else if s.length=1 then [1] else s.eraseIdx k.toNat
theorem LL (u:Value) (s:List Int) (k:Int) (w:World) (j:BG (Value.int .i64) w u s) (l:0≤k) (h:s.length≤1000000):
  AO prog 255 [u, .int .i64 k] w (fun r w' =>BG (Value.int .i64) w' r (Q5 s k)∧Below w.heap.size w w'):=by
 refine A5 (n:=21) func255 O<|Ah<|Ab O<|Ak<|Ap<|Av<|Ah<|Ad O<|Ad O<|Aa (Ay AF O ‹_›) O ?_
 refine Aa (Eu O O) O<|Ab O<|Ak<|Al O ?_ ?_
 ·intro g
  have g:=AE g
  refine Ah<|Ab O<|Aq<|Bd<|Ao<|Am O O ?_
  exact ⟨by rw [Q5,if_pos (by omega)];exact Cs _ _,Below.refl _ _⟩
 intro g
 have g:=AC g
 refine Ah<|Ad O<|Aa (Ay AF O ‹_›) O ?_
 refine Aa (Ce O O) O<|Ab O<|Ak<|Al O ?_ ?_
 ·intro b
  have b:=AE b
  refine Ah<|Ar (Ch (vs:=[(1:Int)].map (Value.int .i64)) AF DL O O O O O) O ?_
  rintro v f ⟨a, -,c, -⟩
  refine Ab O<|Aq<|Bd<|Ao<|Am O O ?_
  exact ⟨by rw [Q5,if_neg (by omega),if_pos (by omega)];exact AN a,c⟩
 intro b
 have b:=AC b
 obtain ⟨i,rfl⟩:∃i:Nat,k=(i:Int):=⟨k.toNat,by omega⟩
 refine B7<|Bb<|Cl<|Ad O<|Ai O O (Ii u s w j (by omega)) ?_
 rintro v f ⟨a,c⟩
 refine Ad O<|Ad O<|Aa (Ex.as (D7 O O (by omega)) (cngA (Value.int .i64) (show (i:Int)+1=((i+1:Nat):Int) by omega))) O<|Ai O O (RZ v s i w.heap.size f a (by omega) c.size h) ?_
 rintro r m ⟨d,e⟩
 refine Ab O<|Aq<|Am O O ?_
 refine ⟨?_,c.trans e⟩
 rw [Q5,if_neg (by omega),if_neg (by omega),Int.toNat_natCast]
 exact AN d
def Lv (s o:List Int):List Int:=if s.length=o.length then o.map (fun k=>s.getD k.toNat default) else []
theorem No (u v:Value) (s o:List Int) (w:World) (D:BG (Value.int .i64) w u s) (H:BG (Value.int .i64) w v o) (C:∀k ∈ o,0≤k∧k<(o.length:Int)) (M:o.length≤1000000):
  AO prog 253 [u,v] w (fun r w' =>BG (Value.int .i64) w' r (Lv s o)∧Below w.heap.size w w'):=by
 refine A5 (n:=27) func253 O<|Ah<|Ab O<|Ba<|Ad O<|Aa (Ay AF O ‹_›) O ?_
 refine Ad O<|Aa (Ay AF O ‹_›) O ?_
 refine Aa (Ct O O) O<|Ak<|Al O ?_ ?_
 ·intro g
  have t:¬s.length=o.length:=fun e=>by rw [e] at g;simp at g
  refine Ah<|Ab O<|Bl<|Am O O ?_
  exact ⟨by rw [Lv,if_neg t];exact Cs _ _,Below.refl _ _⟩
 intro g
 have t:s.length=o.length:=by simp at g;omega
 refine B2<|Ap<|Ah<|Ad O<|Aa (Ay AF O ‹_›) O ?_
 refine Ad O<|Ak<|Av ?_
 refine B4 (S:=(Nat×Value)) (fun z=>[(0,u),(1,v),(4,z.2),(12,v),(13, .int .i64 (o.length:Int)),(14, .int .i64 (z.1:Int))]) (fun z w' =>z.1≤o.length∧Below w.heap.size w w' ∧w'.ownsRow w.heap.size 3 1 z.2 z.1 (((o.take z.1).map (fun k=>s.getD k.toNat default)).map (Value.int .i64))) (fun z=>o.length - z.1) ((0, .slice none 0 0)) ⟨rfl,rfl,rfl,rfl,rfl,rfl,trivial⟩ ?_ ?_
 ·exact ⟨Nat.zero_le _,Below.refl _ _,⟨rfl, .inl ⟨rfl,rfl⟩⟩⟩
 rintro ⟨i,r⟩ I ⟨F,d,b⟩
 dsimp only at F d b ⊢
 have f:=D.bs d
 have l:=H.bs d
 refine Ah<|B9 O<|Ak<|Ap<|Al O ?_ ?_
 ·intro h
  have a:i<o.length:=by have:=AE h;omega
  obtain ⟨k,m⟩:∃k,k=o.getD i default:=⟨_,rfl⟩
  have j:k ∈ o:=by rw [m,getD_eq_getElem?_getD,getElem?_eq_getElem a];exact getElem_mem a
  have E:=C k j
  refine B2<|Ap<|Av<|Ah<|Aa (A8 AF O O ‹_› _ O (by omega)) O ?_
  refine Aa (Ex.as (Be (BD _) O l a) (cngA (Value.int .i64) m.symm)) O<|Ab O<|Ak<|A4<|Ad O<|Ad O<|Ad O<|Aa (A8 AF O O f k.toNat (by omega) (by omega)) O<|Aa (Be (BD _) O f (show k.toNat<s.length by omega)) O<|Ar (Ch (vs:=[s.getD k.toNat default].map (Value.int .i64)) AF DL O O O O O) O ?_
  rintro q N ⟨p, -,y, -⟩
  have x:=d.trans (y.mono (AA d))
  have L:=AA d
  have K:=y.size
  refine Ar (Dj (base:=w.heap.size) AF DL O (by decide) O O (AG b y) (AH p) (CH (fun _=>rfl) _) (by omega) (by omega) (by omega)) O ?_
  rintro B J ⟨c,A, -⟩
  have G:((o.take i).map (fun k=>s.getD k.toNat default)).map (Value.int .i64)++[s.getD k.toNat default].map (Value.int .i64)=((o.take (i+1)).map (fun k=>s.getD k.toNat default)).map (Value.int .i64):=by
   rw [take_succ_eq_append_getElem a,map_append,map_append]
   have:o[i]=k:=by rw [m,getD_eq_getElem?_getD,getElem?_eq_getElem a];rfl
   rw [this];rfl
  rw [G] at c
  refine Ab O<|A7<|Bb<|Cx<|Cn O (by omega)<|Ad O<|A7 ?_
  exact A3 (B1 ((i+1,B)) ⟨rfl,rfl,rfl,rfl,rfl,rfl,trivial⟩ (⟨a,x.trans A,c⟩) (by simp only;omega))
 intro h
 have a:i=o.length:=by have:=AC h;omega
 subst a
 rw [take_length] at b
 refine Bx<|A0<|A0<|Bh<|Cl<|Ad O<|Ab O<|Aq<|Am O O ?_
 refine ⟨?_,d⟩
 rw [Lv,if_pos t]
 exact AN b
def Qq (l:List (List Int)) (k:Nat):List Int:=match Nj k (l.headD []) l.tail with
 |some s=>if k<s.length then s else []
 |none=>[]
theorem P5 {l:List Int} {j:Nat} {z:Int} (h:j<l.length):GE (l.map (Value.int .i64)) j [.int .i64 z]=(l.set j z).map (Value.int .i64):=by
 rw [Mi (by rw [length_map];exact h),map_set]
theorem HJ {l:List Int} {j:Nat} (h:j<l.length):l.getD j default ∈ l:=by
 rw [getD_eq_getElem?_getD,getElem?_eq_getElem h];exact getElem_mem h
theorem Ns (v:Value) (ps:List (Value×List Int)) (k:Nat) (w:World) (h:LI w v ps) (h0:0<ps.length) (h4:ps.length≤4) (hb:∀p ∈ ps,p.2.length≤4∧∀x ∈ p.2,0≤x∧x≤64):
  AO prog 254 [v, .int .i64 (k:Int)] w (fun r w' =>BG (Value.int .i64) w' r (Qq (AS ps) k)∧Below w.heap.size w w'):=by
 obtain ⟨d,a,rfl⟩:∃d a,ps=d::a:=by
  cases ps with
  |nil=>simp at h0
  |cons d a=>exact ⟨d,a,rfl⟩
 have s_0:=h.each d (by simp)
 have F:=hb d (by simp)
 have T:=h.sl
 have C:BG (fun p:Value×List Int=>p.1) w (cut v 1 1 (a.length+1)) a:=BG.drop h.sl (show 1≤(d::a).length by simp)
 have N:∀s,Nj k d.2 (AS a)=some s→Qq (AS (d::a)) k=if k<s.length then s else []:=fun s hs=>by
  show (match Nj k d.2 (AS a) with|some s=>if k<s.length then s else []|none=>[])=_
  rw [hs]
 have D:Nj k d.2 (AS a)=none→Qq (AS (d::a)) k=[]:=fun hs=>by
  show (match Nj k d.2 (AS a) with|some s=>if k<s.length then s else []|none=>[])=_
  rw [hs]
 obtain ⟨Y,hs0⟩:∃Y,Y=d.2:=⟨_,rfl⟩
 rw [← hs0] at s_0 F N D
 obtain ⟨V,hRES⟩:∃V,V=Qq (AS (d::a)) k:=⟨_,rfl⟩
 rw [← hRES] at N D ⊢
 simp only [length_cons] at h4
 refine A5 (n:=64) func254 O<|Ah<|Ab O<|Au<|Ad O<|Aa (A8 BI O O T 0 O (by simp)) O<|Aa (Ex.as (Be (BA _) O T (show 0<(d::a).length by simp)) O) O<|Ai O O (Ii d.1 Y w s_0 (by omega)) ?_
 rintro u w1 ⟨b,M⟩
 have ub:=AD b
 have E:=C.bs M
 refine Ab O<|Ba<|Ad O<|Aa (Ex.as (E7 (i:=1) BI O O (T.bs M).shp (by simp)) O) O<|Aa (Ay BI O E) O<|Ad O<|Ak<|Av ?_
 refine B4 (S:=(Nat×List Int)) (fun z=>[(0,v),(1, .int .i64 (k:Int)),(5,u),(15,cut v 1 1 (a.length+1)),(16, .int .i64 (a.length:Int)),(17, .int .i64 (z.1:Int))]) (fun z w' =>z.1≤a.length∧Below w.heap.size w w' ∧w'.ownsRow w.heap.size 3 1 u z.2.length (z.2.map (Value.int .i64))∧Nj k z.2 (AS (a.drop z.1))=Nj k Y (AS a)∧z.2.length≤4∧(∀m,m<z.2.length→0≤z.2.getD m default∧z.2.getD m default≤64*((z.1:Int)+1))) (fun z=>a.length - z.1) ((0,Y)) ⟨rfl,rfl,rfl,rfl,rfl,rfl,trivial⟩ ?_ ?_
 ·exact ⟨Nat.zero_le _,M,b,rfl,F.1,fun m U=>⟨(F.2 _ (HJ U)).1,by have:=(F.2 _ (HJ U)).2;simp only;omega⟩⟩
 clear b
 rintro ⟨i,s⟩ w2 ⟨hi,J,b,hj,hs4,W⟩
 dsimp only at hi J b hj hs4 W ⊢
 have c:=C.bs J
 have Z:BG (Value.int .i64) w2 u s:=AN b
 refine Ah<|B9 O<|Ak<|Ap<|Al O ?_ ?_
 ·intro g
  have f:i<a.length:=by have:=AE g;omega
  obtain ⟨p,hp⟩:∃p,p=a[i]:=⟨_,rfl⟩
  have Q:p ∈ d::a:=mem_cons_of_mem _ (by rw [hp];exact getElem_mem f)
  have G:=(h.each p Q).bs J
  obtain ⟨x,hx⟩:∃x,x=p.2:=⟨_,rfl⟩
  have b_x:=hb p Q
  rw [← hx] at G b_x
  have eg:(a.getD i default).1=p.1:=by rw [hp,getD_eq_getElem?_getD,getElem?_eq_getElem f];rfl
  have ed:AS (a.drop i)=x::AS (a.drop (i+1)):=by rw [drop_eq_getElem_cons f,AS,map_cons,← hp,← hx]
  have hst:Nj k Y (AS a)=match Pr k s x with|some B=>Nj k B (AS (a.drop (i+1)))|none=>none:=by rw [← hj,ed];rfl
  have R:Pr k s x=none→V=[]:=fun e=>D (by rw [hst,e])
  refine B2<|Ap<|Av<|Ah<|Aa (A8 BI O O c i O f) O<|Aa (Ex.as (Be (BA _) O c f) eg) O<|Ab O<|Ba<|Ad O<|Aa (Ay AF O ‹_›) O ?_
  refine Ad O<|Aa (Ay AF O ‹_›) O ?_
  refine Aa (Ct O O) O<|Ad O ?_
  refine Bw 26 O ?_ ?_
  ·intro L
   have L:¬x.length=s.length:=fun e=>by rw [e] at L;simp at L
   refine Ae (dj:=26) O O O O<|Ae (dj:=26) O O O O<|Ae (dj:=26) O O O O<|Ae (dj:=26) O O O O<|Bi O<|Ak<|Bn O<|Ah<|Ab O<|Bl<|Bd<|Ao<|Ao<|Bd<|Ao<|Am O O ?_
   exact ⟨by rw [R (by unfold Pr;rw [if_neg (fun h=>L h.1)])];exact Cs _ _,J⟩
  intro L
  have L:x.length=s.length:=by simp at L;omega
  refine Af (dj:=26) O O<|Ad O<|Af (dj:=26) O O<|Ad O<|Af (dj:=26) O O<|Aa (Ay AF O ‹_›) O ?_
  refine Af (dj:=26) O O<|Aa (Eu O O) O<|B6 O<|Ak<|Al O ?_ ?_
  ·intro o
   have o:¬k<s.length:=by have:=AE o;omega
   refine Ah<|Ab O<|Bl<|Bd<|Ao<|Ao<|Bd<|Ao<|Am O O ?_
   exact ⟨by rw [R (by unfold Pr;rw [if_neg (fun h=>o h.2.1)])];exact Cs _ _,J⟩
  intro o
  have o:k<s.length:=by have:=AC o;omega
  have bk:=W k o
  have xk:=b_x.2 _ (HJ (show k<x.length by omega))
  refine Ca<|Ad O<|Aa (Ay AF O ‹_›) O ?_
  refine Ad O<|Ak<|Av ?_
  refine B4 (S:=(Nat×List Int)) (fun y=>[(0,v),(1, .int .i64 (k:Int)),(5,u),(7,p.1),(15,cut v 1 1 (a.length+1)),(16, .int .i64 (a.length:Int)),(17, .int .i64 (i:Int)),(32,p.1),(33, .int .i64 (x.length:Int)),(34, .int .i64 (y.1:Int))]) (fun y w' =>y.1≤x.length∧Below w.heap.size w w' ∧w'.ownsRow w.heap.size 3 1 u y.2.length (y.2.map (Value.int .i64))∧y.2=(if k<y.1 then s.set k (s.getD k default+x.getD k default) else s)∧(∀m,m<y.1→m≠k→s.getD m default=x.getD m default)) (fun y=>x.length - y.1) ((0,s)) ⟨rfl,rfl,rfl,rfl,rfl,rfl,rfl,rfl,rfl,rfl,trivial⟩ ?_ ?_
  ·exact ⟨Nat.zero_le _,J,b,by rw [if_neg (by omega)],fun _ h=>by omega⟩
  clear b Z G c
  rintro ⟨j,B⟩ w3 ⟨hjx,q,b,l,U⟩
  dsimp only at hjx q b l U ⊢
  have G:=(h.each p Q).bs q
  rw [← hx] at G
  have ls' :B.length=s.length:=by rw [l];split<;>simp
  refine Ah<|B9 O<|Ak<|Ap<|Al O ?_ ?_
  ·intro g3
   have t:j<x.length:=by have:=AE g3;omega
   obtain ⟨gb,_, -,A, -,hgb⟩:∃gb cap,u= .slice (some ⟨gb,0,none⟩) B.length cap∧u.ownBlock=some gb∧True∧w.heap.size≤gb:=by
    rcases b.2 with ⟨_,h0⟩|⟨g,cap,cur,rfl,hbb, -⟩
    ·omega
    ·exact ⟨g,cap,rfl,rfl,trivial,hbb⟩
   have e_j:B.getD j default=s.getD j default:=by
    rw [l]
    split
    ·rw [getD_eq_getElem?_getD,getElem?_set_ne (by omega),← getD_eq_getElem?_getD]
    ·rfl
   have cj:(B.map (Value.int .i64))[j*1]? =some (.int .i64 (s.getD j default)):=by
    rw [Nat.mul_one,getElem?_map,getElem?_eq_getElem (by omega),← e_j,getD_eq_getElem?_getD,getElem?_eq_getElem (by omega)];rfl
   refine B2<|Ap<|Av<|Ah<|Ad O<|Aa (A8 AF O O ‹_› _ O (by omega)) O ?_
   refine Aa (Be (BD _) O ‹_› (by omega)) O ?_
   refine Ab O<|Ab O<|Ak<|Av<|Ah<|Ad O<|Ad O<|Aa (Ce O O) O<|Ab O<|Ak<|Al O ?_ ?_
   ·intro X
    have X:j=k:=by have:=AE X;omega
    subst X
    refine A4<|Ad O<|Ad O<|Aa (Gd AF O O b A j O (by omega)) O<|Aa (Ex.ldO (BD _) O b A cj) O<|Ad O<|Cn O (by omega)<|Aa (Gd AF O O b A j O (by omega)) O<|Ax (Xu.stO1 (BU _) O O O b A (show j*1<_ by rw [length_map];omega)) ?_
    rintro w4 ⟨H,hg,hz⟩
    rw [Nat.mul_one,P5 (by omega)] at H
    have hB4:=q.grown hg (AA q) (by rintro _ e;cases e;exact hgb)
    refine A7<|Bb<|Bb<|Cx<|Cn O (by omega)<|Ad O<|A7 ?_
    exact A3 (B1 ((j+1,B.set j (s.getD j default+x.getD j default))) ⟨rfl,rfl,rfl,rfl,rfl,rfl,rfl,rfl,rfl,rfl,trivial⟩ (⟨t,hB4,by rw [length_set];exact H,by rw [if_pos (by omega),l,if_neg (by omega)],fun m h1 h2=>U m (by omega) h2⟩) (by simp only;omega))
   intro X
   have X:j≠k:=by have:=AC X;omega
   refine Ah<|Ad O<|Ad O<|Aa (Gd AF O O b A j O (by omega)) O<|Aa (Ex.ldO (BD _) O b A cj) O<|Ad O<|Aa (Ct O O) O<|Ab O<|Ak<|Al O ?_ ?_
   ·intro I
    have I:¬s.getD j default=x.getD j default:=fun e=>by rw [e] at I;simp at I
    refine Ah<|Ab O<|Aq<|Bd<|Bd<|Ao<|Ao<|Bd<|Bd<|Ao<|Ao<|Bd<|Ao<|Am O O ?_
    exact ⟨by rw [R (by unfold Pr;rw [if_neg (fun h=>I (h.2.2 j (by omega) X))])];exact Cs _ _,q⟩
   intro I
   have I:s.getD j default=x.getD j default:=by simpa using I
   refine B7<|Bb<|Bb<|Cx<|Cn O (by omega)<|Ad O<|A7 ?_
   exact A3 (B1 ((j+1,B)) ⟨rfl,rfl,rfl,rfl,rfl,rfl,rfl,rfl,rfl,rfl,trivial⟩ (⟨t,q,b,by rw [l];by_cases e:k<j;rw [if_pos e,if_pos (by omega)];rw [if_neg e,if_neg (by omega)],fun m h1 h2=>(Nat.lt_succ_iff_lt_or_eq.1 h1).elim (fun h=>U m h h2) (fun e=>e ▸ I)⟩) (by simp only;omega))
  intro g3
  have t:j=x.length:=by have:=AC g3;omega
  subst t
  rw [if_pos (by omega)] at l
  have e1:Pr k s x=some B:=by unfold Pr;rw [if_pos ⟨L,o,fun m h1 h2=>U m (by omega) h2⟩,l]
  have hbd:∀m,m<B.length→0≤B.getD m default∧B.getD m default≤64*(((i+1:Nat):Int)+1):=fun m hm' =>by
   have b1:=W m (by omega)
   rw [l]
   by_cases e:m=k
   ·subst e
    rw [getD_eq_getElem?_getD,getElem?_set_self (by omega),Option.getD_some]
    omega
   ·rw [getD_eq_getElem?_getD,getElem?_set_ne (by omega),← getD_eq_getElem?_getD]
    omega
  refine Bx<|A0<|A0<|Bh<|Bb<|Cx<|Cn O (by omega)<|Ad O<|A7 ?_
  exact A3 (B1 ((i+1,B)) ⟨rfl,rfl,rfl,rfl,rfl,rfl,trivial⟩ (⟨f,q,b,by rw [hst,e1],by simp only;omega,hbd⟩) (by simp only;omega))
 intro g
 have f:i=a.length:=by have:=AC g;omega
 subst f
 have K:=N s (by rw [← hj,drop_length];rfl)
 refine Bx<|A0<|A0<|Bh<|A3<|Cc<|Ap<|Ah<|Ad O<|Ad O<|Aa (Ay AF O ‹_›) O ?_
 refine Aa (Eu O O) O<|Ak<|Al O ?_ ?_
 ·intro o
  have o:¬k<s.length:=by have:=AE o;omega
  refine Ah<|Ab O<|Bl<|Am O O ?_
  exact ⟨by rw [K,if_neg o];exact Cs _ _,J⟩
 intro o
 have o:k<s.length:=by have:=AC o;omega
 refine Ca<|Ad O<|Ab O<|Aq<|Am O O ?_
 exact ⟨by rw [K,if_pos o];exact Z,J⟩

def GF (a b:List Int):Int:=if Shapes.ok a && Shapes.ok b then (if a.length=2∧b.length=2∧a.getD 1 default=b.getD 0 default then 0 else 10) else 1
theorem Ml {a b:List Int} (h:Shapes.ok a=false∨Shapes.ok b=false):GF a b=1:=by
 unfold GF
 rw [if_neg]
 rcases h with h|h<;>simp [h]
theorem I3 {a b:List Int} (c:Shapes.ok a=true) (d:Shapes.ok b=true) (h:¬(a.length=2∧b.length=2∧a.getD 1 default=b.getD 0 default)):GF a b=10:=by
 unfold GF
 rw [c,d,if_neg h];rfl
theorem Oj {a b:List Int} (c:Shapes.ok a=true) (d:Shapes.ok b=true) (h:a.length=2∧b.length=2∧a.getD 1 default=b.getD 0 default):GF a b=0:=by
 unfold GF
 rw [c,d,if_pos h];rfl
def S1 (W w:World) (r:Value) (a b:List Int):Prop:=
 ∃x,r= .tuple #[x, .int .i64 (GF a b)]∧(GF a b≠0→x= .slice none 0 0)∧(GF a b=0→w.ownsRow W.heap.size 3 1 x 2 ([a.getD 0 default,b.getD 1 default].map (Value.int .i64)))
theorem Oh (u v:Value) (a b:List Int) (W:World) (j:BG (Value.int .i64) W u a) (i:BG (Value.int .i64) W v b):
  AO prog 250 [u,v] W (fun r w' =>Below W.heap.size W w' ∧S1 W w' r a b):=by
 have f:=Below.refl W.heap.size W
 refine A5 (n:=40) func250 O<|Ah<|Ab O<|Ab O<|Ak<|Ap<|Av<|Ah<|Ad O<|Ai O O (DD u a _ j) ?_
 rintro _ w ⟨rfl,k⟩
 have f:=f.bs k
 have j:=j.bs k
 have i:=i.bs k
 refine Aa (Cq O) O<|Ad O ?_
 refine Bw 10 O ?_ ?_
 ·intro g
  have e:=Ml (a:=a) (b:=b) (.inl (by simpa using g))
  refine Ae (dj:=10) O O O O<|Ae (dj:=10) O O O O<|Ae (dj:=10) O O O O<|Bi O<|Ab O<|Ak<|Bn O<|Ah<|Ab O<|Ab O<|Aq<|Bd<|Ao<|Bj O O O ?_
  exact ⟨f,_,by rw [e],fun _=>rfl,fun h=>by rw [e] at h;cases h⟩
 intro g
 have l:Shapes.ok a=true:=by simpa using g
 refine Af (dj:=10) O O<|Ad O<|Af (dj:=10) O O<|Ai O O (DD v b _ i) ?_
 rintro _ w ⟨rfl,k⟩
 have f:=f.bs k
 have j:=j.bs k
 have i:=i.bs k
 refine Af (dj:=10) O O<|Aa (Cq O) O<|B6 O<|Ab O<|Ak<|Al O ?_ ?_
 ·intro g
  have e:=Ml (a:=a) (b:=b) (.inr (by simpa using g))
  refine Ah<|Ab O<|Ab O<|Aq<|Bd<|Ao<|Bj O O O ?_
  exact ⟨f,_,by rw [e],fun _=>rfl,fun h=>by rw [e] at h;cases h⟩
 intro g
 have m:Shapes.ok b=true:=by simpa using g
 refine Ap<|D3 mixed (by kernel_rfl)<|Bz O<|As (fun d c=>Ay AF O (Sl.bs ‹_› c)) O ?_
 refine As (fun d c=>Ct O O) O<|Bz O ?_
 refine Em 19 O ?_ ?_
 ·intro g
  have e:GF a b=10:=I3 l m fun h=>by simp [h.1] at g
  refine Bf (dj:=19) O O O O<|Bf (dj:=19) O O O O<|Bf (dj:=19) O O O O<|As (fun d c=>Dg O O) O<|Bz O<|Bf (dj:=24) O O O O<|Bf (dj:=24) O O O O<|Bf (dj:=24) O O O O<|Bf (dj:=24) O O O O<|Bf (dj:=24) O O O O<|Bf (dj:=24) O O O O<|Bf (dj:=24) O O O O<|As (fun d c=>Dg O O) O<|Ea O ?_
  refine Dp (fun o c=> ?_)
  refine A3<|Cc<|Bn O<|Ah<|Ab O<|Ab O<|Aq<|Bd<|Ao<|Bj O O O ?_
  exact ⟨bt f c,_,by rw [e],fun _=>rfl,fun h=>by rw [e] at h;cases h⟩
 intro g
 have q:a.length=2:=by simp at g;omega
 refine Bq (dj:=19) O O<|Bz O<|Bq (dj:=19) O O<|As (fun d c=>Ay AF O (Sl.bs ‹_› c)) O ?_
 refine Bq (dj:=19) O O<|As (fun d c=>Ct O O) O<|As (fun d c=>Dw O O) O<|Bz O ?_
 refine Em 24 O ?_ ?_
 ·intro g
  have e:GF a b=10:=I3 l m fun h=>by simp [h.2.1] at g
  refine Bf (dj:=24) O O O O<|Bf (dj:=24) O O O O<|Bf (dj:=24) O O O O<|Bf (dj:=24) O O O O<|Bf (dj:=24) O O O O<|Bf (dj:=24) O O O O<|Bf (dj:=24) O O O O<|As (fun d c=>Dg O O) O<|Ea O ?_
  refine Dp (fun o c=> ?_)
  refine A3<|Cc<|Bn O<|Ah<|Ab O<|Ab O<|Aq<|Bd<|Ao<|Bj O O O ?_
  exact ⟨bt f c,_,by rw [e],fun _=>rfl,fun h=>by rw [e] at h;cases h⟩
 intro g
 have lb:b.length=2:=by simp at g;omega
 refine Bq (dj:=24) O O<|Bz O<|Bq (dj:=24) O O<|As (fun d c=>A8 AF O O (Sl.bs ‹_› c) 1 O (by omega)) O ?_
 refine Bq (dj:=24) O O<|As (fun d c=>Be (BD _) O (Sl.bs ‹_› c) (by omega)) O ?_
 refine Bq (dj:=24) O O<|Bz O<|Bq (dj:=24) O O<|As (fun d c=>A8 AF O O (Sl.bs ‹_› c) 0 O (by omega)) O ?_
 refine Bq (dj:=24) O O<|As (fun d c=>Be (BD _) O (Sl.bs ‹_› c) (by omega)) O ?_
 refine Bq (dj:=24) O O<|As (fun d c=>Ct O O) O<|As (fun d c=>Dw O O) O<|Ea O ?_
 refine Dp (fun o c=> ?_)
 refine A3<|Cc<|Al O ?_ ?_
 ·intro g
  have e:GF a b=10:=I3 l m fun h=>by simp at g;exact g (by simpa using h.2.2)
  refine Ah<|Ab O<|Ab O<|Aq<|Bd<|Ao<|Bj O O O ?_
  exact ⟨bt f c,_,by rw [e],fun _=>rfl,fun h=>by rw [e] at h;cases h⟩
 intro g
 have e:GF a b=0:=Oj l m ⟨q,lb,by simpa using g⟩
 have f:=f.bs c
 have j:=j.bs c
 have i:=i.bs c
 clear c
 refine B7<|Bb<|A3<|Cc<|Ap<|Cw.tail 6 mixed (by kernel_rfl)<|Bz O<|As (fun d c=>A8 AF O O (Sl.bs ‹_› c) 0 O (by omega)) O ?_
 refine As (fun d c=>Be (BD _) O (Sl.bs ‹_› c) (by omega)) O ?_
 refine Bz O<|As (fun d c=>A8 AF O O (Sl.bs ‹_› c) 1 O (by omega)) O ?_
 refine As (fun d c=>Be (BD _) O (Sl.bs ‹_› c) (by omega)) O ?_
 refine Qw.done (fun t c=> ?_)
 have f:=f.bs c
 have j:=j.bs c
 have i:=i.bs c
 refine Ar (Ch (vs:=[a.getD 0 default,b.getD 1 default].map (Value.int .i64)) AF DL O O O O O) O ?_
 rintro x s ⟨p, -,k, -⟩
 have z:=f.size
 have f:=f.bs k
 have j:=j.bs k
 have i:=i.bs k
 exact Ab rfl<|Ab rfl<|Aq<|Bj rfl rfl rfl<|⟨f,x,by rw [e],fun h=>absurd e h,fun _=>CW p z⟩
-- DD STOPPED
end Go.Proofs.YtblbopcaflaldaaGreatDoor

namespace Go.Dd
open Go Go.RowKit
open List hiding get
def rnd (ro:Option Nat):Fence:={Fence.wide with round:=ro}
theorem HV {ro:Option Nat} {n:Nat} {P:Program} {f:FuncId} {args:Array Value} {w:World} {R:Ending→World→Prop}:CallsIn (rnd ro) n P f args w R↔Calls P f args w R:=
 (callsIn_wide (n:=n) (P:=P) (f:=f) (args:=args) (w:=w) (R:=R))
theorem L5 {ro:Option Nat} {n:Nat} {P:Program} {row:String} {args:Array Value} {w:World} {R:Value→World→Prop} (h:Rows P row args w R):RowsIn (rnd ro) n P row args w R:=
 fun c cs _=>let ⟨v,w',r,s⟩:=h c cs;⟨v,w',r,(stepsIn_wide (P:=P)).2 s⟩
def GX (D:List Deferred) (Q:BB):BB:=fun e a w=>match e with
 | .outgrown=>False
 |e=>Q e {a with defers:=a.defers++D} w
theorem JZ {D:List Deferred} {Q:BB}:¬LetsOut (GX D Q):=fun ⟨_,_,h⟩=>h
theorem FD (a:Act) (D:List Deferred) (d:Option Tmp) (v:Value):({a with defers:=a.defers++D}:Act).put d v={a.put d v with defers:=(a.put d v).defers++D}:=by
 cases d<;>rfl
theorem IW (a:Act) (D:List Deferred):({a with defers:=D}:Act).eval=a.eval:=by
 funext x;cases x<;>rfl
def GA (o:Oper):Bool:=match o.op with
 | .defer _=>true
 |_=>false
def FF (l:List Oper):Bool:=l.all fun o=> !GA o
theorem LJ {o:Oper} (h:GA o=false):∀c,o.op≠ .defer c:=fun c e=>by simp [GA,e] at h
theorem Jw {ro:Option Nat} {o:Oper} (h:GA o=false) (ρ:Operand→Value):o.semAt ro ρ=execOp ρ o:=by
 cases ro with
 |none=>exact Oper.semAt_none ρ o
 |some l=>exact Oper.semAt_some l ρ o (LJ h)
section
variable {P : Program} {Q : BB} {ro : Option Nat} {D : List Deferred} {m : Nat}
theorem Ov {t:BB} {o:Oper} {a:Act} {w:World} {K b:Act→World→Prop} (q:∀c a w,t (.panic c) a w→Q (.panic c) a w) (u:GA o=false) (k:∀a w,K a w→b {a with defers:=a.defers++D} w) (h:o.wp P a w K (GX D t)):
  o.wpIn (rnd ro) m P {a with defers:=a.defers++D} w b Q:=by
 refine ⟨fun _ _=>trivial, ?_⟩
 rw [show (rnd ro).round=ro from rfl,Jw u,IW]
 unfold Oper.wp at h
 generalize (execOp a.eval o).run P w=r at h
 cases r with
 |ok nx w' =>
  cases nx with
  |value v=>show b _ _;rw [FD];exact k _ _ h
  |skip=>show b _ _;rw [FD];exact k _ _ h
  |«defer» d=>
   have j:K (({a with defers:=d::a.defers}:Act).put o.dst undef) w' :=h
   have s:=k _ _ j
   show b (({tmps:=a.tmps,defers:=d::(a.defers++D)}:Act).put o.dst undef) w'
   rw [← FD] at s
   exact s
  |enter f args=>
   refine ⟨fun h=>by simp [rnd,Fence.wide] at h,HV.2 ?_⟩
   have j:Calls P f args w' _:=h
   refine j.mono fun e p i=> ?_
   cases e with
   |returned v=>show b _ _;rw [FD];exact k _ _ i
   |panicked chain=>exact q _ _ _ i
   |outgrown=>exact absurd i JZ
  |row row args=>
   refine ⟨fun h=>by simp [rnd,Fence.wide] at h,L5 ?_⟩
   have j:Rows P row args w' _:=h
   refine j.mono fun v p i=> ?_
   show b _ _;rw [FD];exact k _ _ i
  |_=>exact h.elim
 |halt x w' =>
  cases x with
  |panic v=>exact q _ _ _ h
  |_=>exact h.elim
theorem IF {ops:Array Oper} {K:Act→World→Prop} {l2:List Oper} (d:∀(a:Act) (w:World),K {a with defers:=a.defers++D} w→wpListIn (rnd ro) m P ops Q l2 {a with defers:=a.defers++D} w):
  ∀(l:List Oper) (a:Act) (w:World),FF l=true→wpList P ops (GX D (BN K Q)) l a w→wpListIn (rnd ro) m P ops Q (l++l2) {a with defers:=a.defers++D} w
 |[],a,w,_,h=>d a w h
 |o::l,a,w,hd,h=>by
  simp only [FF,all_cons,Bool.and_eq_true,Bool.not_eq_true'] at hd
  have c:∀a w,wpList P ops (GX D (BN K Q)) l a w→wpListIn (rnd ro) m P ops Q (l++l2) {a with defers:=a.defers++D} w:=fun a w h=>IF d l a w hd.2 h
  unfold wpList at h
  show wpListIn (rnd ro) m P ops Q (o::(l++l2)) {a with defers:=a.defers++D} w
  unfold wpListIn
  split at h
  ·rename_i b
   rw [if_pos b]
   rcases h with h|⟨_,h⟩
   ·exact Ov (fun _ _ _ h=>h) hd.1 c h
   ·exact absurd h JZ
  ·rename_i b
   rw [if_neg b]
   refine ⟨fun _ _=>trivial, ?_⟩
   rw [FD]
   exact c _ _ h
theorem Mo {ops:Array Oper} (f:FF ops.toList=true):∀(l:List Nat) (a:Act) (w:World),wpOps P ops (GX D Q) l a w→wpOpsIn (rnd ro) m P ops Q l {a with defers:=a.defers++D} w
 |[],a,w,h=>h
 |i::l,a,w,h=>by
  have d:=Mo f l
  unfold wpOps at h
  unfold wpOpsIn
  cases ho:ops[i]? with
  |none=>simp only [ho] at h ⊢;exact d _ _ h
  |some o=>
   simp only [ho] at h ⊢
   have e:GA o=false:=by
    have k:=List.all_eq_true.1 f o (by obtain ⟨c,j⟩:=Array.getElem?_eq_some_iff.1 ho;rw [← j];exact Array.getElem_mem_toList c)
    simpa using k
   split at h
   ·rename_i b
    rw [if_pos b]
    rcases h with h|⟨_,h⟩
    ·exact Ov (fun _ _ _ h=>h) e d h
    ·exact absurd h JZ
   ·rename_i b
    rw [if_neg b]
    refine ⟨fun _ _=>trivial, ?_⟩
    rw [FD]
    exact d _ _ h
end
structure BL (D:List Deferred) (n:Nat) (E:BM) (a:Act):Prop where
 dfr:a.defers=D
 size:a.tmps.size=n
 has:∀i v,get E i=some v→a.tmps[i]? =some v
theorem BL.fits {D:List Deferred} {n:Nat} {E:BM} {a:Act} (h:BL D n E a):BH n E {a with defers:=[]}:=⟨rfl,h.size,h.has⟩
theorem BL.back {D:List Deferred} {n:Nat} {E:BM} {a:Act} (h:BL D n E a):({({a with defers:=[]}:Act) with defers:=({a with defers:=[]}:Act).defers++D}:Act)=a:=by
 cases a;simp only [nil_append];rw [← h.dfr]
theorem BH.g {n:Nat} {E:BM} {a:Act} (h:BH n E a) (D:List Deferred):BL D n E {a with defers:=a.defers++D}:=⟨by simp [h.dfr],h.size,h.has⟩
theorem BH.g0 {n:Nat} {E:BM} {a:Act} (h:BH n E a):BL [] n E a:=⟨h.dfr,h.size,h.has⟩
theorem BL.ev {D:List Deferred} {n:Nat} {E:BM} {a:Act} (h:BL D n E a) {x:Operand} {v:Value} (b:Dd.ev E x=some v):a.eval x=v:=by
 have:=h.fits.ev b
 rwa [IW] at this
theorem BL.evs {D:List Deferred} {n:Nat} {E:BM} {a:Act} (h:BL D n E a) {l:List Operand} {vs:List Value} (b:Dd.evs E l=some vs):l.map a.eval=vs:=by
 have:=h.fits.evs b
 rwa [IW] at this
theorem BL.put {D:List Deferred} {n:Nat} {E:BM} {a:Act} (h:BL D n E a) {d:Nat} (v:Value) (b:Nat.blt d n=true):BL D n ((d,v)::E) (a.put (some d) v):=
 ⟨h.dfr,(h.fits.put v b).size,(h.fits.put v b).has⟩
theorem BL.sub {D:List Deferred} {n:Nat} {E F:BM} {a:Act} (h:BL D n E a) (b:N1 E F):BL D n F a:=⟨h.dfr,h.size,fun i v c=>h.has i v (b.get i v c)⟩
def Cg (ro:Option Nat) (D:List Deferred) (P:Program) (Q:BB) (n:Nat) (c:Code) (E:BM) (w:World):Prop:=∀a,BL D n E a→c.wpIn (rnd ro) 9 P Q a w
def Pg (D:List Deferred) (n:Nat) (E:BM) (R:Act→World→Prop) (w:World):Prop:=∀a,BL D n E a→R a w
def Lg (ro:Option Nat) (D:List Deferred) (P:Program) (l0:List Oper) (Q:BB) (n:Nat) (l:List Oper) (E:BM) (w:World):Prop:=∀a,BL D n E a→wpListIn (rnd ro) 9 P l0.toArray Q l a w
section
variable {P : Program} {Q : BB} {n : Nat} {E : BM} {w : World} {ro : Option Nat} {D : List Deferred}
theorem Dq {x y:Code} (h:Cg ro D P (BN (fun a w=>y.wpIn (rnd ro) 9 P Q a w) Q) n x E w):Cg ro D P Q n (.seq x y) E w:=fun a b=>wpIn_seq (by have:=h a b;rwa [Ia] at this)
theorem Cg.block {b:Nat} {c:Code} (h:Cg ro D P (G2 b Q) n c E w):Cg ro D P Q n (.block b c) E w:=fun a d=>wpIn_block (by have:=h a d;rwa [KS] at this)
theorem Cg.skip (h:Pg D n E (Q .normal) w):Cg ro D P Q n .skip E w:=fun a b=>wpIn_skip (h a b)
theorem Cg.exit {b:Nat} (h:Pg D n E (Q (.exit b)) w):Cg ro D P Q n (.exit b) E w:=fun a c=>wpIn_exit (h a c)
theorem Cg.ret (h:Pg D n E (Q .ret) w):Cg ro D P Q n .ret E w:=fun a b=>wpIn_ret (h a b)
theorem Cg.cond {c:Operand} {x y:Code} {t:Bool} (f:ev E c=some (.bool t)) (e:t=true→Cg ro D P Q n x E w) (d:t=false→Cg ro D P Q n y E w):Cg ro D P Q n (.cond c x y) E w:=
 fun a b=>wpIn_cond_split (b.ev f) (fun h=>e h a b) (fun h=>d h a b)
theorem Cg.condB {c:Operand} {x y:Code} {t:Bool} (f:ev E c=some (.bool t)) (b:Bool) (e:t=b) (h:Cg ro D P Q n (if b then x else y) E w):Cg ro D P Q n (.cond c x y) E w:=
 fun a d=>wpIn_cond (d.ev f) (by rw [e];exact h a d)
theorem Dr {c:Code} (h:Cg ro D P Q n c E w):Pg D n E (fun a w=>c.wpIn (rnd ro) 9 P Q a w) w:=h
theorem Cz {K:Act→World→Prop} (h:Pg D n E K w):Pg D n E (BN K Q .normal) w:=h
theorem Gg {K:Act→World→Prop} {a:Nat} (h:Pg D n E (Q (.exit a)) w):Pg D n E (BN K Q (.exit a)) w:=h
theorem F8 {a:Nat} (h:Pg D n E (Q .normal) w):Pg D n E (G2 a Q .normal) w:=h
theorem Pg.blkHit {b:Nat} (h:Pg D n E (Q .normal) w):Pg D n E (G2 b Q (.exit b)) w:=fun a c=>by
 show if b=b then Q .normal a w else Q (.exit b) a w
 rw [if_pos rfl];exact h a c
theorem Cg.loop {S:Type} (i:S→BM) (I:S→World→Prop) (m:S→Nat) {c:Code} (y:S) (T:N1 E (i y)) (L:I y w)
  (p:∀s w,I s w→Cg ro D P (BN (fun h w' =>∃f,BL D n (i f) h∧I f w' ∧m f<m s) Q) n c (i s) w):Cg ro D P Q n (.loop c) E w:=by
 intro a Z
 have key:∀k s a w,m s=k→BL D n (i s) a→I s w→(Code.loop c).wpIn (rnd ro) 9 P Q a w:=by
  intro k s a w hk u U
  refine wpIn_loop (fun h w' =>∃f,BL D n (i f) h∧I f w') (fun h w' =>Classical.epsilon fun k=>∃f,BL D n (i f) h∧I f w' ∧m f=k∧∀d,BL D n (i d) h→I d w' →k≤m d) ⟨s,u,U⟩ ?_
  have j:∀h w',(∃f,BL D n (i f) h∧I f w')→∃k,∃f,BL D n (i f) h∧I f w' ∧m f=k∧∀d,BL D n (i d) h→I d w' →k≤m d:=by
   intro h w' ⟨f,t,r⟩
   have:∀b f,BL D n (i f) h→I f w' →m f≤b→∃k,∃f,BL D n (i f) h∧I f w' ∧m f=k∧∀d,BL D n (i d) h→I d w' →k≤m d:=by
    intro b
    induction b with
    |zero=>intro f t r Y;exact ⟨m f,f,t,r,rfl,fun d _ _=>by omega⟩
    |succ b ih=>
     intro f t r Y
     by_cases hex:∃d,BL D n (i d) h∧I d w' ∧m d≤b
     ·obtain ⟨d,o,q,F⟩:=hex;exact ih d o q F
     ·refine ⟨m f,f,t,r,rfl,fun d o q=> ?_⟩
      rcases Nat.lt_or_ge (m d) (m f) with J|v
      ·exact absurd ⟨d,o,q,by omega⟩ hex
      ·exact v
   exact this (m f) f t r (AQ _)
  intro H A z
  obtain ⟨X,V,N,g3,g4⟩:=Classical.epsilon_spec (j H A z)
  have G:=p X A N H V
  rw [Ia] at G
  refine Code.wpIn_mono (fun e a2 w2 C=> ?_) G
  cases e with
  |normal=>
   obtain ⟨x,o,q,F⟩:=C
   refine ⟨⟨x,o,q⟩, ?_⟩
   obtain ⟨s3,r1,r2,r3,M⟩:=Classical.epsilon_spec (j a2 w2 ⟨x,o,q⟩)
   have:=M x o q
   rw [← g3]
   omega
  |_=>exact C
 exact key _ y a w rfl (Z.sub T) L
theorem Pg.next {S:Type} {b:S→BM} {I:S→World→Prop} {m:S→Nat} {k:Nat} (a:S) (c:N1 E (b a)) (e:I a w) (d:m a<k):Pg D n E (fun h w' =>∃a,BL D n (b a) h∧I a w' ∧m a<k) w:=
 fun _ f=>⟨a,f.sub c,e,d⟩
theorem Di (h:Pg D n E (Q .normal) w):Pw n E (GX D Q .normal) w:=fun a b=>h _ (b.g D)
theorem MZ {D:List Deferred} {Q:BB}:GX D Q=GX D (BN (fun a w=>Q .normal a w) Q):=by
 funext e a w;cases e<;>rfl
theorem C4 {e:Nat} {l:List Oper} (d:FF l=true) (h:Lw P l (GX D Q) n l E w):Cg ro D P Q n (.region e l.toArray false) E w:=fun a b=>by
 have c:=h _ b.fits
 rw [← b.back]
 rw [MZ] at c
 have:=IF (ro:=ro) (m:=9) (l2:=[]) (fun a w h=>h) l _ w d c
 rw [append_nil] at this
 exact wpIn_region_lit this
theorem K1 {d:Nat} {l:List Oper} {a:Act} (e:P.follows .mixedOrders=true) (c:FF l=true) (f:BL D n E a)
  (h:wpAny P .any l.toArray (GX D Q) l.length (Array.replicate l.length false) {a with defers:=[]} {w with drawn:=w.drawn+1}):(Code.region d l.toArray true).wpIn (rnd ro) 9 P Q a w:=
 wpIn_region_draw fun t=>by
  simp only [Region.schedule,e,Bool.true_or,if_true]
  have i:=wpAny_sound l.toArray.size t _ _ _ (by simpa using h)
  have b:=Mo (ro:=ro) (m:=9) (by simpa using c) _ _ _ i
  rw [f.back] at b
  exact b
theorem Cg.quiet {i:Nat} {l:List Oper} (j:P.follows .mixedOrders=true) (f:FF l=true) (d:Region.lexB .any l.toArray=true) (h:Qw P l (Below w.heap.size w) (fun c=>∀w',Below w.heap.size w w' →GX D Q .normal c w') n l E):
  Cg ro D P Q n (.region i l.toArray true) E w:=fun a e=>by
 refine K1 j f e ?_
 simp only [Region.lexB,Bool.and_eq_true] at d
 have:=wpAnyQ_lex (C:=Below w.heap.size w) (md:= .any) d.1 l.toArray.toList 0 (Array.replicate l.toArray.size false) _ (by simp) (by simpa using d.2) (by simpa using h _ e.fits)
 have k:=wpAny_of_quiet (Q:=fun c=>∀w',Below w.heap.size w w' →GX D Q .normal c w') (Q' :=GX D Q) (fun _ w' b h=>h w' b) _ _ _ _ (EE w) this
 simpa using k
theorem Fq {b:Nat} {l:List Oper} (h:Lg ro D P l Q n l E w):Cg ro D P Q n (.region b l.toArray false) E w:=fun a c=>wpIn_region_lit (h a c)
theorem Lg.plain {l0 l:List Oper} (k:Nat) (c:FF (l.take k)=true) (h:Lw P l0 (GX D (BN (fun a w=>wpListIn (rnd ro) 9 P l0.toArray Q (l.drop k) a w) Q)) n (l.take k) E w):Lg ro D P l0 Q n l E w:=fun a b=>by
 have:=IF (ro:=ro) (m:=9) (l2:=l.drop k) (fun a w h=>h) (l.take k) _ w c (h _ b.fits)
 rwa [b.back,take_append_drop] at this
theorem Lg.nil {l0:List Oper} (h:Pg D n E (Q .normal) w):Lg ro D P l0 Q n [] E w:=fun a b=>wpListIn_nil (h a b)
theorem Gw {l0 l:List Oper} (h:Lg ro D P l0 Q n l E w):Pg D n E (BN (fun a w=>wpListIn (rnd ro) 9 P l0.toArray Q l a w) Q .normal) w:=h
end
def Yd (P:Program) (l:Nat) (args:List Value) (W:World) (R:Bool→World→Prop):Prop:=YieldAt Fence.wide 9 P l args.toArray W fun e w' =>∃b,e= .returned (.bool b)∧R b w'
theorem Yd.mono {P:Program} {l:Nat} {args:List Value} {W:World} {R a:Bool→World→Prop} (h:Yd P l args W R) (f:∀b w',R b w' →a b w'):Yd P l args W a:=by
 obtain ⟨fn,tmps,assign,body,i,d⟩:=h
 exact ⟨fn,tmps,assign,body,i,d.mono fun e w' ⟨b,c,j⟩=>⟨b,c,f _ _ j⟩⟩
theorem MK {ro:Option Nat} {m a:Nat} {P:Program} {l:Nat} {f:FuncId} {tmps:Array Value} {assign body:Code} {w:World} {R:Ending→World→Prop} (h:RoundIn Fence.wide m P l f tmps assign body w R):RoundIn (rnd ro) a P l f tmps assign body w R:=
 ⟨trivial,fun c cs _=>h.2 c cs (room_wide _)⟩
section
variable {P : Program} {Q : BB} {n : Nat} {E : BM} {w : World} {ro : Option Nat} {D : List Deferred} {l0 rest : List Oper} {ty : TypeId} {pos : String} {af : Array Edge}
theorem Jl {a:Act} {y:Operand} {xs:List Operand} {vs:List Value} {ts:Array TypeId} {d:Option Nat} {g:Option (Nat×Bool)} {l:Nat} {r:Next} (c:a.eval y= .func (.yield l) #[] #[]) (f:xs.map a.eval=vs) (e:(Instr.yield l vs.toArray).run P w= .ok r w):
  (execOp a.eval ⟨d, .call {callee:= .value y,args:=xs.toArray,argTypes:=ts},ty,pos,af,g⟩).run P w= .ok r w:=by
 have b:xs.toArray.map a.eval=vs.toArray:=by rw [map_toArray,f]
 simp [execOp,resolve,b,c,Deferred.ofValue,invoke,e]
theorem Lg.yield {d l:Nat} {y:Operand} {xs:List Operand} {vs:List Value} {ts:Array TypeId} {R:Bool→World→Prop} (i:ev E y=some (.func (.yield l) #[] #[])) (s:evs E xs=some vs) (f:Nat.blt d n=true) (h:Yd P l vs w R)
  (k:∀b w',R b w' →Lg ro D P l0 Q n rest ((d, .bool b)::E) w'):Lg ro D P l0 Q n (⟨some d, .call {callee:= .value y,args:=xs.toArray,argTypes:=ts},ty,pos,af,none⟩::rest) E w:=
 fun a c=>wpListIn_plain rfl fun K q=>by
  obtain ⟨fn,tmps,assign,body,p,o⟩:=h
  refine ⟨fun _ _=>trivial, ?_⟩
  rw [show (rnd ro).round=ro from rfl,Jw rfl,Jl (c.ev i) (c.evs s) p]
  refine ⟨fun h=>by simp [rnd,Fence.wide] at h, ?_⟩
  refine (MK o).mono fun e w' ⟨b,j,r⟩=> ?_
  subst j
  exact q _ _ (k b w' r _ (c.put _ f))
end
section
variable {P : Program} {Q : BB} {ro : Option Nat} {D : List Deferred} {ops : Array Oper} {md : Region.Mode} {m : Nat}
end
def Nc (B:Nat) (A A' :World):Prop:=∃r,A.grownBy A' r∧∀b,r=some b→B≤b∧∃o:Obj,A.heap[b]? =some o∧o.isCells=false
def S5 (wr:Option Nat) (A A' :World):Prop:=∃r,A.grownBy A' r∧(r=none∨r=wr)
theorem L8 {B l:Nat} {A:World} {r:Loop} (o:Obj) (a:B≤l) (h:A.heap[l]? =some (.loop r)):Nc B A (A.putObj l o):=⟨some l,grownBy_putObj' A l o,fun b e=>by cases e;exact ⟨a,_,h,rfl⟩⟩
theorem KK (B:Nat) (A:World) (o:Obj):Nc B A (A.alloc o):=⟨none,World.grownBy_alloc A o none,fun b e=>by cases e⟩
theorem Nc.mono {B a:Nat} {A d:World} (h:Nc B A d) (i:a≤B):Nc a A d:=by
 obtain ⟨r,f,c⟩:=h
 exact ⟨r,f,fun b e=>⟨Nat.le_trans i (c b e).1,(c b e).2⟩⟩
theorem Nc.size {B:Nat} {A a:World} (h:Nc B A a):A.heap.size≤a.heap.size:=by obtain ⟨r,b,_⟩:=h;exact b.size
theorem Nc.blk {B:Nat} {A d:World} (h:Nc B A d) {k:Nat} {o:Obj} (c:A.heap[k]? =some o) (j:o.isCells=true):d.heap[k]? =A.heap[k]? :=by
 obtain ⟨r,i,f⟩:=h
 refine i.block k (Array.getElem?_eq_some_iff.1 c).1 fun e=> ?_
 obtain ⟨_,p,b,a⟩:=f k e.symm
 rw [c] at b;cases b
 rw [j] at a;cases a
theorem Nc.below {B:Nat} {A b:World} (h:Nc B A b) {a:Nat} (f:a≤B) (i:a≤A.heap.size):Below a A b:=by
 obtain ⟨r,d,c⟩:=h
 exact FW d i fun k e=>Nat.le_trans f (c k e).1
theorem _root_.Go.RowKit.Below.nc {B a:Nat} {W A b:World} (h:Below a W A) (k:Nc B A b) (c:a≤B) (d:a≤W.heap.size):Below a W b:=h.trans (k.below c (Nat.le_trans d h.size))
theorem AK.nc {B:Nat} {w w' :World} {b:Nat} {T:TypeId} {cs:List Value} (h:AK w b T cs) (k:Nc B w w'):AK w' b T cs:=h.keep (k.blk h rfl)
theorem EH.nc {B:Nat} {w w' :World} {e:Option Addr} {b:List Value} (h:EH w e b) (k:Nc B w w'):EH w' e b:=h.keep fun a f c=>by
 obtain ⟨u,b,rfl⟩:=exists_cons_of_ne_nil c
 have d:=h a f 0 u (by simp)
 unfold World.cell? at d
 rw [GD] at d
 cases ho:w.heap[a.block]? with
 |none=>simp [ho] at d
 |some o=>
  have i:o.isCells=true:=by cases o<;>simp_all [Obj.isCells]
  rw [k.blk ho i,ho]
theorem Sl.nc {B:Nat} {w w' :World} {sz:Nat} {v:Value} {n:Nat} {xs:List Value} (h:Sl w sz v n xs) (k:Nc B w w'):Sl w' sz v n xs:=by
 obtain ⟨d,a,cap,rfl,b,f,c,e⟩:=h
 exact ⟨d,a,cap,rfl,b,f,c,e.nc k⟩
theorem JY {B:Nat} {w w' :World} {base:Nat} {e:TypeId} {sz:Nat} {v:Value} {n:Nat} {xs:List Value} (h:w.ownsRow base e sz v n xs) (k:Nc B w w'):w'.ownsRow base e sz v n xs:=by
 obtain ⟨d,c⟩:=h
 rcases c with c|⟨b,cap,a,rfl,j,f,i⟩
 ·exact ⟨d, .inl c⟩
 ·exact ⟨d, .inr ⟨b,cap,a,rfl,j,(k.blk f rfl).trans f,i⟩⟩
theorem AW.nc {B:Nat} {w w' :World} {base:Nat} {e:TypeId} {sz:Nat} {v:Value} {n:Nat} {xs:List Value} (h:AW w base e sz v n xs) (k:Nc B w w'):AW w' base e sz v n xs:=by
 rcases h with h|⟨g,a,rfl,c,d,b⟩
 ·exact .inl (JY h k)
 ·exact .inr ⟨g,a,rfl,c,d.nc k,b⟩
theorem RP {B:Nat} {W w w' :World} (h:KeepsFrom B W w) (k:Below w.heap.size w w'):KeepsFrom B W w' :=h.trans ⟨k.size,fun i o _ a _=>(k.block i (Array.getElem?_eq_some_iff.1 a).1).trans a⟩
theorem _root_.Go.KeepsFrom.bs {B:Nat} {W w w' :World} (h:KeepsFrom B W w) (k:Below w.heap.size w w'):KeepsFrom B W w' :=RP h k
theorem _root_.Go.KeepsFrom.blk {B b:Nat} {W w w' :World} {T:TypeId} {cs:List Value} (h:KeepsFrom B W w) (c:AK w b T cs) (k:w.grownBy w' (some b)):KeepsFrom B W w' :=
 h.trans ⟨k.size,fun i o _ a d=>(k.block i (Array.getElem?_eq_some_iff.1 a).1 (fun e=>by cases e;rw [show w.heap[b]? =_ from c] at a;cases a;cases d)).trans a⟩
theorem _root_.Go.KeepsFrom.own {B base:Nat} {W w w' :World} {e:TypeId} {sz k:Nat} {v:Value} {xs:List Value} (h:KeepsFrom B W w) (d:w.ownsRow base e sz v k xs) (g:w.grownBy w' v.ownBlock):KeepsFrom B W w' :=
 h.trans ⟨g.size,fun i o _ a j=>(g.block i (Array.getElem?_eq_some_iff.1 a).1 (fun e=>by
  rcases d.2 with ⟨rfl,_⟩|⟨b,cap,c,rfl,_,f,_⟩
  ·simp [Value.ownBlock] at e
  ·simp only [Value.ownBlock,Option.some.injEq] at e
   subst e
   rw [f] at a;cases a;cases j)).trans a⟩
def Kp (Nd:Nat→Prop) (w w' :World):Prop:=w.heap.size≤w'.heap.size∧∀b,Nd b→b<w.heap.size→w'.heap[b]? =w.heap[b]?
theorem Kp.refl {Nd:Nat→Prop} {w:World}:Kp Nd w w:=⟨AQ _,fun _ _ _=>rfl⟩
theorem Kp.trans {Nd:Nat→Prop} {a b c:World} (h:Kp Nd a b) (k:Kp Nd b c):Kp Nd a c:=⟨Nat.le_trans h.1 k.1,fun i e d=>(k.2 i e (Nat.lt_of_lt_of_le d h.1)).trans (h.2 i e d)⟩
theorem Kp.grown {Nd:Nat→Prop} {a b c:World} (h:Kp Nd a b) {r:Option Nat} (g:b.grownBy c r) (f:∀i,r=some i→¬Nd i):Kp Nd a c:=h.trans ⟨g.size,fun i j d=>g.block i d fun e=>f i e.symm j⟩
theorem Kp.bs {Nd:Nat→Prop} {a b c:World} (h:Kp Nd a b) (g:Below b.heap.size b c):Kp Nd a c:=h.trans ⟨g.size,fun i _ d=>g.block i d⟩
theorem Kp.nc {Nd:Nat→Prop} {B:Nat} {a b c:World} (h:Kp Nd a b) (g:Nc B b c) (j:∀i,Nd i→i<B):Kp Nd a c:=by
 obtain ⟨r,f,d⟩:=g
 exact h.grown f fun i e k=>by have:=(d i e).1;have:=j i k;omega
theorem Kp.below {Nd:Nat→Prop} {B:Nat} {a b c:World} (h:Kp Nd a b) (g:Below B b c) (e:∀i,Nd i→i<B):Kp Nd a c:=h.trans ⟨g.size,fun i d _=>g.block i (e i d)⟩
def Sq {α:Type} (P:Program) (gf:FuncId) (lf lb:List Value) (encs:α→List Value) (Nd:Nat→Prop) (wr:Option Nat) (xs:List α) (w:World):Prop:=
 ∀(l:Nat) (J:List α→World→Prop) (W:World),Below w.heap.size w W→(∀pre A A',J pre A→S5 wr A A' →J pre A')→
  (∀pre x A,J pre A→pre++[x]<+:xs→Yd P l (encs x) A fun b A' =>b=true∧J (pre++[x]) A' ∧Kp Nd A A')→J [] W→
  AO P gf (lf++ .func (.yield l) #[] #[]::lb) W fun _ A=>J xs A
def S0 (B:Nat) (Nd:Nat→Prop) (W:World) (K:World→Prop):BB:=fun e _ w' =>match e with
 | .normal=>KeepsFrom B W w' ∧Kp Nd W w' ∧K w'
 |_=>False
def S3 (B:Nat) (Nd:Nat→Prop) (l:Nat) (P:Program) (body:Code) (W:World) (K:World→Prop):BB:=fun e a w=>match e with
 | .normal=>KeepsFrom B W w∧Kp Nd W w∧∀w2,Nc l w w2→w2.heap.size=w.heap.size→(∃r,w2.heap[l]? =some (.loop r))→body.wpIn (rnd (some l)) 9 P (S0 B Nd w2 K) a w2
 |_=>False
section
variable {P : Program} {n : Nat} {E : BM} {w W : World} {B l : Nat} {Nd : Nat → Prop} {body : Code} {K : World → Prop}
theorem Pg.asg (i:KeepsFrom B W w) (f:Kp Nd W w) (h:∀b,Nc l w b→b.heap.size=w.heap.size→(∃r,b.heap[l]? =some (.loop r))→Cg (some l) [] P (S0 B Nd b K) n body E b):Pg [] n E (S3 B Nd l P body W K .normal) w:=
 fun a c=>⟨i,f,fun b d e j=>h b d e j a c⟩
theorem Pg.rnd {D:List Deferred} (a:KeepsFrom B W w) (b:Kp Nd W w) (h:K w):Pg D n E (S0 B Nd W K .normal) w:=fun _ _=>⟨a,b,h⟩
end
abbrev Jn (fn:FuncId) (tmps:Array Value) (ps:Array Tmp) (assign body:Code) (dD:Nat) (st:LoopState):Loop:={state:=st,pending:=none,fn,tmps,params:=ps,assign,body,defers:=dD}
theorem Rz {α:Type} {P:Program} {l j:Nat} {fn:FuncId} {tmps:Array Value} {ps:Array Tmp} {assign body:Code} {B:Nat} {Nd:Nat→Prop} {xs:List α} {encs:α→List Value} (X:∀x,(encs x).length=ps.size) {I:List α→World→Prop} {Ex:World→Prop} (i:B≤l) (G:∀b,Nd b→b<l)
  (hI:∀a A z,I a A→Nc B A z→I a z) (s:∀A z,Ex A→KeepsFrom B A z→Ex z) (L:∀A o,Ex A→Ex (A.putObj l o))
  (c:∀a x W,I a W→a++[x]<+:xs→(∃r,W.heap[l]? =some (.loop r))→assign.wpIn (rnd (some l)) 9 P (S3 B Nd l P body W (I (a++[x]))) {tmps:=(ps.zip (encs x).toArray).foldl (fun t (p,v)=>t.setIfInBounds p v) tmps,defers:=[]} W)
  (a:List α) (x:α) (W:World) (h:I a W∧W.heap[l]? =some (.loop (Jn fn tmps ps assign body j .ready))∧Ex W) (y:a++[x]<+:xs):
  Yd P l (encs x) W fun b S=>b=true∧(I (a++[x]) S∧S.heap[l]? =some (.loop (Jn fn tmps ps assign body j .ready))∧Ex S)∧Kp Nd W S:=by
 obtain ⟨hi,U,V⟩:=h
 refine ⟨fn,_,assign,body,run_yield U (by simpa using X x),roundIn_of_wpIn (F:=Fence.wide) trivial ?_⟩
 refine wpIn_mono (c a x W hi y ⟨_,U⟩) ?_
 rintro e a1 T N
 cases e with
 |normal=>
  obtain ⟨k,Z,N⟩:=N
  have f:=k.same l _ i U rfl
  have q:=(Array.getElem?_eq_some_iff.1 f).1
  refine ⟨_,run_beginRound f O, ?_⟩
  have u:(T.putObj l (.loop (Jn fn tmps ps assign body j .busy))).heap[l]? =some (.loop (Jn fn tmps ps assign body j .busy)):=World.putObj_heap_same q
  have H:Nc l T (T.putObj l (.loop (Jn fn tmps ps assign body j .busy))):=L8 _ (AQ _) f
  refine wpIn_mono (N _ H (by simp) ⟨_,u⟩) ?_
  rintro e a3 W3 hp
  cases e with
  |normal=>
   obtain ⟨J,hb3,Y⟩:=hp
   have d:=J.same l _ i u rfl
   have M:=(Array.getElem?_eq_some_iff.1 d).1
   have C:Nc l W3 (W3.putObj l (.loop (Jn fn tmps ps assign body j .ready))):=L8 _ (AQ _) d
   refine ⟨_,_,run_endRound none d,true,rfl,rfl,⟨hI _ _ _ Y (C.mono i),World.putObj_heap_same M,L _ _ (s _ _ (L _ _ (s _ _ V k)) J)⟩, ?_⟩
   exact (((Z.nc H G).trans hb3).nc C G)
  |_=>exact hp.elim
 |_=>exact N.elim
def binds:List Nat→List Value→BM→BM
 |p::ps,v::vs,E=>binds ps vs ((p,v)::E)
 |_,_,E=>E
theorem IV {n:Nat}:∀(pl:List Nat) (vs:List Value) (E:BM) (a:Act),pl.all (Nat.blt · n)=true→BH n E a→BH n (binds pl vs E) {a with tmps:=(pl.zip vs).foldl (fun t (p,v)=>t.setIfInBounds p v) a.tmps}
 |[],_,_,_,_,h=>h
 |_::_,[],_,_,_,h=>h
 |p::ps,v::vs,E,a,hp,h=>by
  simp only [all_cons,Bool.and_eq_true] at hp
  exact IV ps vs ((p,v)::E) (a.put (some p) v) hp.2 (h.put v hp.1)
section
variable {P : Program} {Q : BB} {n : Nat} {E : BM} {w : World} {D : List Deferred} {α : Type} {g : Operand} {pl : List Nat} {assign body : Code} {gf : FuncId} {lf lb : List Value} {encs : α → List Value} {Nd : Nat → Prop} {wr : Option Nat} {xs : List α}
theorem Jk {a : Act} {l : Nat} {W : World} (e : ∃ fn, P.funcs[gf]? = some fn ∧ (fn.name == "runtime.NumGoroutine") = false ∧ fn.body.isSome = true) (c : a.eval g = .func (.func gf) lf.toArray lb.toArray) :
  ∃d:Deferred,(resolve a.eval (rangeCall g l) 0).run P W= .ok d W∧(∀b,Target.leads P W d.target d.args=some b→(rnd none).fn b)∧(invoke d.target d.args).run P W= .ok (.enter gf (lf++ .func (.yield l) #[] #[]::lb).toArray) W:=by
 refine ⟨_,by simp only [resolve,c];simp [go_sem];rfl,fun _ _=>trivial, ?_⟩
 simp [invoke,go_sem,CU (P:=P) (w:=W) e]
theorem Cg.range (hg:ev E g=some (.func (.func gf) lf.toArray lb.toArray)) (M:Sq P gf lf lb encs Nd wr xs w) (Z:∀b,Nd b→b<w.heap.size) (Y:∀x,(encs x).length=pl.length) (N:pl.all (Nat.blt · n)=true) (I:List α→World→Prop)
  (G:∀b,wr=some b→b<w.heap.size) (h0:I [] w) (H:∀c A s,I c A→Nc w.heap.size A s→I c s) (hW:∀c A s,I c A→S5 wr A s→I c s)
  (q:∀l c x W,w.heap.size≤l→I c W→c++[x]<+:xs→(∃r,W.heap[l]? =some (.loop r))→Cg (some l) [] P (S3 w.heap.size Nd l P body W (I (c++[x]))) n assign (binds pl (encs x) E) W)
  (u:∀d W,w.heap.size≤d→I xs W→W.heap[d]? =some (.deferred (some []))→Pg ({target:= .collected d,args:= #[]}::D) n E (Q .normal) W):Cg none D P Q n (.rangeFunc g pl.toArray assign body) E w:=fun a F=>by
 refine wpIn_rangeFunc ?_
 intro fn hfn
 rw [show (rnd none).round=none from rfl]
 obtain ⟨j,i⟩:∃j,(w.alloc (.deferred (some []))).alloc (.loop (Jn fn a.tmps pl.toArray assign body w.heap.size .ready))=j:=⟨_,rfl⟩
 have T:j.heap[w.heap.size+1]? =some (.loop (Jn fn a.tmps pl.toArray assign body w.heap.size .ready)):=by
  rw [← i];have:=World.alloc_heap_new (w.alloc (.deferred (some []))) (.loop (Jn fn a.tmps pl.toArray assign body w.heap.size .ready));rwa [World.size_alloc] at this
 have hK1:j.heap[w.heap.size]? =some (.deferred (some [])):=by
  rw [← i];exact (Below.heap_alloc _ _ _ (by simp)).trans (World.alloc_heap_new w _)
 have U:I [] j:=by rw [← i];exact H _ _ _ (H _ _ _ h0 (KK _ _ _)) (KK _ _ _)
 have hb1:Below w.heap.size w j:=by
  rw [← i];exact ((Below.refl _ w).alloc (AQ _) _).alloc (by simp) _
 have p:=M (w.heap.size+1) (fun c W=>I c W∧W.heap[w.heap.size+1]? =some (.loop (Jn fn a.tmps pl.toArray assign body w.heap.size .ready))∧W.heap[w.heap.size]? =some (.deferred (some []))) j hb1
  (fun c A s ⟨h1,h2,h3⟩ t=>by
   refine ⟨hW c A s h1 t, ?_, ?_⟩
   ·obtain ⟨r,y,f⟩:=t
    refine (y.block _ (Array.getElem?_eq_some_iff.1 h2).1 fun e=> ?_).trans h2
    rcases f with f|f
    ·rw [f] at e;cases e
    ·have:=G _ (f ▸ e.symm);omega
   ·obtain ⟨r,y,f⟩:=t
    refine (y.block _ (Array.getElem?_eq_some_iff.1 h3).1 fun e=> ?_).trans h3
    rcases f with f|f
    ·rw [f] at e;cases e
    ·have:=G _ (f ▸ e.symm);omega)
  (fun c x A h z=>Rz (by simpa using Y) (by omega) (fun b hb=>by have:=Z b hb;omega) H (fun A s h k=>k.same _ _ (AQ _) h rfl) (fun A o h=>(World.putObj_heap_other (by omega)).trans h)
   (fun c x W X J f=>by
    have C:=IV pl (encs x) E _ N F.fits
    have:=q (w.heap.size+1) c x W (by omega) X J f _ C.g0
    simpa using this) c x A h z)
  ⟨U,T,hK1⟩
 obtain ⟨d,V,L,S⟩:=Jk (P:=P) (l:=w.heap.size+1) (W:=j) (lf:=lf) (lb:=lb) p.1 (F.ev hg)
 refine ⟨w.heap.size+1,[{target:= .collected w.heap.size,args:= #[]}],j,d,j,gf,_,j, ?_,V,L,S,fun h=>by simp [rnd,Fence.wide] at h,HV.2 (p.2.mono ?_)⟩
 ·rw [← i];exact run_enterLoop_outer _ _ _ _ _
 ·rintro e W2 ⟨v,rfl,X,J,hk⟩
  refine ⟨none,_,run_endLoop J (by simp), ?_⟩
  refine u w.heap.size _ (AQ _) (H _ _ _ X (L8 _ (by omega) J)) ((World.putObj_heap_other (by omega)).trans hk) _ ⟨?_,F.size,F.has⟩
  show _++_=_
  rw [F.dfr];rfl
end
section
variable {P : Program} {n : Nat} {E : BM} {w : World} {ro : Option Nat} {D : List Deferred}
end
def Rt (P:Program) (fn:Func) (R:Value→World→Prop):BB:=fun e a w=>match e with
 | .panic _=>False
 |e=>bodyPostM Fence.wide 9 P fn (fun e w' =>∃v,e= .returned v∧R v w') e a w
section
variable {P : Program} {n : Nat} {E : BM} {w : World} {fn : Func} {R : Value → World → Prop}
theorem Fm {f : FuncId} {c : Code} {args : List Value} (k : P.funcs[f]? = some fn) (b : (fn.name == "runtime.NumGoroutine") = false) (p : fn.body = some c)
  (s:fn.ntmps=n) (r:Nat.ble args.length n=true) (h:Cg none [] P (Rt P fn R) n c (params 0 args) w):AO P f args w R:=by
 refine ⟨⟨fn,k,b,by simp [p]⟩,callsIn_wide.1 (callsIn_of_wp_marks (n:=9) (F:=Fence.wide) k p trivial (wpIn_mono (h _ ⟨rfl, ?_,fun i v q=> ?_⟩) fun e a w o=> ?_) O)⟩
 ·have:args.length≤n:=Nat.le_of_ble_eq_true r
  simp [s];omega
 ·have j:=(CO args 0 i v q).2
  simp only [Nat.sub_zero] at j
  have d:i<args.length:=by
   rcases Nat.lt_or_ge i args.length with h|h
   ·exact h
   ·simp [getElem?_eq_none h] at j
  rw [Array.getElem?_append]
  simp only [size_toArray,d,if_true,getElem?_toArray]
  exact j
 ·cases e<;>first|exact o|exact o.elim
theorem Pg.close {d:Nat} (c:w.heap[d]? =some (.deferred (some []))) (h:∀w',Nc d w w' →w'.heap.size=w.heap.size→Pw n E (N4 P fn R .ret) w'):Pg [{target:= .collected d,args:= #[]}] n E (Rt P fn R .ret) w:=fun a f=>by
 have k:Nc d w (w.putObj d (.deferred none)):=⟨some d,grownBy_putObj' w d _,fun b e=>by cases e;exact ⟨AQ _,_,c,rfl⟩⟩
 obtain ⟨_,v,j,i⟩:=h _ k (by simp) _ f.fits
 show LeavesInM _ _ _ _ _ _ a.defers _ _
 rw [f.dfr]
 exact ⟨by simp, .inl ⟨d,_,rfl,run_takeDeferred c,v,j,i⟩⟩
theorem Pg.closeE (h:Pw n E (N4 P fn R .normal) w):Pg [] n E (Rt P fn R .normal) w:=fun a b=>by
 obtain ⟨_,v,d,c⟩:=h _ b.fits
 show LeavesInM _ _ _ _ _ _ a.defers _ _
 rw [b.dfr]
 exact ⟨v,d,c⟩
end
end Go.Dd

namespace Go.Dd
open Go Go.RowKit List
section
variable {P : Program} {Q : BB} {n : Nat} {E : BM} {w : World} {l : List Oper}
theorem Aw.invG {St:Type} (val:St→Nat→Value) (I:St→(Nat→Bool)→World→Prop) (t:St) (C:L6 l n=true) (y:I t (fun _=>false) w)
  (b:AM (fun i o=>∀s L w,I s L w→L i=false→(∀e ∈ BC o,L e=true)→(∀j q,CC l j=some q→L j=true→∀e ∈ BC q,L e=true)→(∀j g,o.guard=some (j,g)→val s j= .bool g)∧
   Ow P n (Hy l (val s) (BC o)++HF l E) o w (fun v w' =>∃m,I m (K3 L i) w' ∧(∀j,L j=true→val m j=val s j)∧(o.dst.isSome=true→v=val m i))) 0 l)
  (p:∀s L w,I s L w→(∀i,i<l.length→L i=true)→Pw n (Hy l (val s) (List.range l.length)++HF l E) (Q .normal) w):Aw P l Q n l.length (Array.replicate l.length false) E w:=fun a f=>by
 obtain ⟨z,x,A⟩:=J9 C
 have k:∀i,(Array.replicate l.length false).getD i false=false:=fun i=>getD_replicate_false _ _
 have f:BH n (HF l E) a:=⟨f.dfr,f.size,fun i v h=>f.has i v (by
  rw [Hv] at h
  split at h
  ·cases h
  ·exact h)⟩
 refine KQ (val:=val) (I:=I) z x A (fun i o d r u=> ?_) (fun i o r=>by have:=Je _ _ _ b r;rwa [Nat.zero_add] at this) p _ t _ a _ ⟨by simp,f,fun j o d _ c=> ?_,fun j o _ c=> ?_, ?_⟩ ?_
 ·have B:d ∈ BS l:=List.mem_filterMap.2 ⟨o,G8 r,u⟩
  rw [Hv,if_pos (by simpa using B)]
 ·have:=k j;rw [this] at c;cases c
 ·have:=k j;rw [this] at c;cases c
 ·have:(fun i=>(Array.replicate l.length false).getD i false)=fun _=>false:=funext fun i=>by simpa using k i
  rw [this];exact y
 ·have:((List.range l.length).filter fun i=> !(Array.replicate l.length false).getD i false)=List.range l.length:=List.filter_eq_self.2 fun i _=>by
   have:=k i;rw [this];rfl
  rw [this];simp
inductive Kd where
 |val
 |alloc (T:TypeId) (zs:List Value)
 |st (j k:Nat)
 |stc (j:Nat) (cs:List Value)
def Kd.cells (s:Nat→Value):Kd→List Value
 | .st _ k=>(s k).cells.toList
 | .stc _ cs=>cs
 |_=>[]
end

abbrev S2:=Nat×List Nat×(Value→World→Prop)
def IE:List S2→Nat→Value→World→Prop
 |[],_=>fun _ _=>True
 |(j,_,p)::r,i=>match Nat.beq j i with
  |true=>p
  |false=>IE r i
section
variable {P : Program} {Q : BB} {n : Nat} {E : BM} {w : World} {l0 : List Oper}
variable {C : World → Prop}
end

def L3 (rows IE step:Int):Int:=if rows<IE then 0 else (rows - IE) / step+1
def Lr (t w:List Int) (step pad:Int):List Int:=[w.getD 0 default,L3 (t.getD 1 default+2*pad) (w.getD 2 default) step,L3 (t.getD 2 default+2*pad) (w.getD 3 default) step]
def GS (t w:List Int) (step pad:Int):Bool:= !Shapes.ok t|| !Shapes.ok w||decide (step<1)||decide (8<step)||decide (pad<0)||decide (8<pad)
def JP (t w:List Int):Bool:=decide (t.length=3) && decide (w.length=4) && decide (t.getD 0 default=w.getD 1 default)
def DF (t w:List Int) (step pad:Int):Int:=if GS t w step pad then 1 else if JP t w && Shapes.ok (Lr t w step pad) then 0 else 10
def Oi (t:List Int) (wide:Int):List Int:=[t.getD 0 default,L3 (t.getD 1 default) wide wide,L3 (t.getD 2 default) wide wide]
def JW (t:List Int) (wide:Int):Bool:= !Shapes.ok t||decide (wide<1)||decide (64<wide)
def MM (t:List Int) (wide:Int):Bool:=decide (t.length=3) && decide (wide≤t.getD 1 default) && decide (wide≤t.getD 2 default)
def DP (t:List Int) (wide:Int):Int:=if JW t wide then 1 else if MM t wide then 0 else 10
theorem EM {s:List Int} (h:Shapes.good s) {k:Nat} (a:k<s.length):1≤s.getD k default∧s.getD k default≤64:=by
 have:s.getD k default ∈ s:=by simp [a]
 exact h _ this
end Go.Dd

namespace Go.Proofs.YtblbopcaflaldaaGreatDoor
open Go Go.Dd Go.RowKit List Go.Proofs.Tryz
set_option maxRecDepth 100000
theorem He (a IE b:Int) (w:World) (e:0≤a∧a≤1000000) (c:0≤IE∧IE≤1000000) (h:1≤b∧b≤1000000):
  AO prog 276 [.int .i64 a, .int .i64 IE, .int .i64 b] w (fun r w' =>r= .int .i64 (L3 a IE b)∧Below w.heap.size w w'):=by
 refine A5 (n:=16) func276 O<|Ah<|Ab O<|Ba<|Ad O<|Ad O<|B9 O<|Ak<|Al O ?_ ?_
 ·intro g
  have g:=AE g
  exact Ah<|Ab rfl<|Bl<|Am rfl rfl<|⟨by rw [L3,if_pos g],Below.refl _ _⟩
 intro g
 have g:=AC g
 have d:=Int.ediv_le_self b (show 0≤a - IE by omega)
 have f:=Int.ediv_nonneg (show 0≤a - IE by omega) (show 0≤b by omega)
 refine Ca<|Ad O<|Ad O<|Aa (Ej O O (by omega)) O<|Ad O<|Aa (Ex.quoI O O (by omega) (by omega)) O<|Cn O (by omega)<|Ab O<|Aq<|Am O O ?_
 exact ⟨by rw [L3,if_neg g],Below.refl _ _⟩
def Ry (W w:World) (r:Value) (e:Int) (l:List Int):Prop:=
 ∃(x:Value) (m:List Int),r= .tuple #[x, .int .i64 e]∧w.ownsRow W.heap.size 3 1 x m.length (m.map (Value.int .i64))∧(e≠0→x= .slice none 0 0∧m=[])∧(e=0→m=l)
theorem CB {W w:World} {e:Int} {l:List Int} (h:e≠0):Ry W w (.tuple #[.slice none 0 0, .int .i64 e]) e l:=⟨_,[],rfl,World.ownsRow_nil _ _ _ _,fun _=>⟨rfl,rfl⟩,fun a=>absurd a h⟩
theorem Q4 {t s:List Int} (h:¬t.length=3):JP t s=false:=by simp only [JP,decide_eq_false h,Bool.false_and]
theorem Q3 {t s:List Int} (h:¬s.length=4):JP t s=false:=by simp only [JP,decide_eq_false h,Bool.false_and,Bool.and_false]
theorem Q2 {t s:List Int} (h:¬t.getD 0 default=s.getD 1 default):JP t s=false:=by simp only [JP,decide_eq_false h,Bool.and_false]
theorem NA (t s:List Int) (a c:Int) (u v:Value) (W:World) (f:BG (Value.int .i64) W u t) (e:BG (Value.int .i64) W v s):
  AO prog 251 [u,v, .int .i64 a, .int .i64 c] W (fun r w' =>Below W.heap.size W w' ∧Ry W w' r (DF t s a c) (Lr t s a c)):=by
 have i:=Below.refl W.heap.size W
 refine A5 (n:=84) func251 O<|Ah<|Ab O<|Ab O<|Ak<|Ap<|Av<|Ah<|Ad O<|Ai O O (DD u t _ f) ?_
 rintro _ w ⟨rfl,j⟩
 have i:=i.bs j
 have f:=f.bs j
 have e:=e.bs j
 refine Aa (Cq O) O<|Ad O ?_
 refine Bw 15 O ?_ ?_
 ·intro q
  refine Ae (dj:=15) O O O O<|Ae (dj:=15) O O O O<|Ae (dj:=15) O O O O<|Bi O<|Ad O<|Ae (dj:=20) O O O O<|Ae (dj:=20) O O O O<|Bi O<|Ad O<|Ae (dj:=24) O O O O<|Ae (dj:=24) O O O O<|Bi O<|Ad O<|Ae (dj:=28) O O O O<|Ae (dj:=28) O O O O<|Bi O<|Ad O<|Ae (dj:=32) O O O O<|Ae (dj:=32) O O O O<|Bi O<|Ab O<|Ak<|Bn O<|Ah<|Ab O<|Ab O<|Aq<|Bd<|Ao<|Bj O O O ?_
  rw [show DF t s a c=1 by simp [DF,show GS t s a c=true by simp_all [GS]]]
  exact ⟨i,CB (by decide)⟩
 intro q
 refine Af (dj:=15) O O<|Ad O<|Af (dj:=15) O O<|Ai O O (DD v s _ e) ?_
 rintro _ w ⟨rfl,j⟩
 have i:=i.bs j
 have f:=f.bs j
 have e:=e.bs j
 refine Af (dj:=15) O O<|Aa (Cq O) O<|B6 O<|Ad O ?_
 refine Bw 20 O ?_ ?_
 ·intro o
  refine Ae (dj:=20) O O O O<|Ae (dj:=20) O O O O<|Bi O<|Ad O<|Ae (dj:=24) O O O O<|Ae (dj:=24) O O O O<|Bi O<|Ad O<|Ae (dj:=28) O O O O<|Ae (dj:=28) O O O O<|Bi O<|Ad O<|Ae (dj:=32) O O O O<|Ae (dj:=32) O O O O<|Bi O<|Ab O<|Ak<|Bn O<|Ah<|Ab O<|Ab O<|Aq<|Bd<|Ao<|Bj O O O ?_
  rw [show DF t s a c=1 by simp [DF,show GS t s a c=true by simp_all [GS]]]
  exact ⟨i,CB (by decide)⟩
 intro o
 refine Af (dj:=20) O O<|Ad O<|Af (dj:=20) O O<|B9 O<|B6 O<|Ad O ?_
 refine Bw 24 O ?_ ?_
 ·intro B
  refine Ae (dj:=24) O O O O<|Ae (dj:=24) O O O O<|Bi O<|Ad O<|Ae (dj:=28) O O O O<|Ae (dj:=28) O O O O<|Bi O<|Ad O<|Ae (dj:=32) O O O O<|Ae (dj:=32) O O O O<|Bi O<|Ab O<|Ak<|Bn O<|Ah<|Ab O<|Ab O<|Aq<|Bd<|Ao<|Bj O O O ?_
  rw [show DF t s a c=1 by simp [DF,show GS t s a c=true by simp_all [GS]]]
  exact ⟨i,CB (by decide)⟩
 intro B
 refine Af (dj:=24) O O<|Ad O<|Af (dj:=24) O O<|Aa (C1 O O) O<|B6 O<|Ad O ?_
 refine Bw 28 O ?_ ?_
 ·intro p
  refine Ae (dj:=28) O O O O<|Ae (dj:=28) O O O O<|Bi O<|Ad O<|Ae (dj:=32) O O O O<|Ae (dj:=32) O O O O<|Bi O<|Ab O<|Ak<|Bn O<|Ah<|Ab O<|Ab O<|Aq<|Bd<|Ao<|Bj O O O ?_
  rw [show DF t s a c=1 by simp [DF,show GS t s a c=true by simp_all [GS]]]
  exact ⟨i,CB (by decide)⟩
 intro p
 refine Af (dj:=28) O O<|Ad O<|Af (dj:=28) O O<|B9 O<|B6 O<|Ad O ?_
 refine Bw 32 O ?_ ?_
 ·intro z
  refine Ae (dj:=32) O O O O<|Ae (dj:=32) O O O O<|Bi O<|Ab O<|Ak<|Bn O<|Ah<|Ab O<|Ab O<|Aq<|Bd<|Ao<|Bj O O O ?_
  rw [show DF t s a c=1 by simp [DF,show GS t s a c=true by simp_all [GS]]]
  exact ⟨i,CB (by decide)⟩
 intro z
 have K:Shapes.ok t=true:=by simpa using q
 have H:Shapes.ok s=true:=by simpa using o
 have I:1≤a:=by simpa using B
 have E:a≤8:=by simpa using p
 have N:0≤c:=by simpa using z
 refine Af (dj:=32) O O<|Ad O<|Af (dj:=32) O O<|Aa (C1 O O) O<|B6 O<|Ab O<|Ak<|Al O ?_ ?_
 ·intro m
  refine Ah<|Ab O<|Ab O<|Aq<|Bd<|Ao<|Bj O O O ?_
  rw [show DF t s a c=1 by simp [DF,show GS t s a c=true by simp_all [GS]]]
  exact ⟨i,CB (by decide)⟩
 intro m
 have L:c≤8:=by simpa using m
 have y:GS t s a c=false:=by simp_all [GS]
 clear q o B p z m
 have D:=(Shapes.ok_iff t).1 K
 have A:=(Shapes.ok_iff s).1 H
 refine Ap<|D3 mixed (by kernel_rfl)<|Bz O<|As (fun d b=>Ay AF O (Sl.bs ‹_› b)) O ?_
 refine As (fun d b=>Ct O O) O<|Bz O ?_
 refine Em 40 O ?_ ?_
 ·intro g
  refine Bf (dj:=40) O O O O<|Bf (dj:=40) O O O O<|Bf (dj:=40) O O O O<|As (fun d b=>Dg O O) O<|Bz O<|Bf (dj:=45) O O O O<|Bf (dj:=45) O O O O<|Bf (dj:=45) O O O O<|Bf (dj:=45) O O O O<|Bf (dj:=45) O O O O<|Bf (dj:=45) O O O O<|Bf (dj:=45) O O O O<|As (fun d b=>Dg O O) O<|Ea O ?_
  refine Dp (fun d b=> ?_)
  refine A3<|Cc<|Bn O<|Ah<|Ab O<|Ab O<|Aq<|Bd<|Ao<|Bj O O O ?_
  rw [show DF t s a c=10 by rw [DF,y,Q4 (fun h=>by simp [h] at g)];rfl]
  exact ⟨bt i b,CB (by decide)⟩
 intro F
 have lt:t.length=3:=by have:=F;simp at this;omega
 refine Bq (dj:=40) O O<|Bz O<|Bq (dj:=40) O O<|As (fun d b=>Ay AF O (Sl.bs ‹_› b)) O ?_
 refine Bq (dj:=40) O O<|As (fun d b=>Ct O O) O<|As (fun d b=>Dw O O) O<|Bz O ?_
 refine Em 45 O ?_ ?_
 ·intro g
  refine Bf (dj:=45) O O O O<|Bf (dj:=45) O O O O<|Bf (dj:=45) O O O O<|Bf (dj:=45) O O O O<|Bf (dj:=45) O O O O<|Bf (dj:=45) O O O O<|Bf (dj:=45) O O O O<|As (fun d b=>Dg O O) O<|Ea O ?_
  refine Dp (fun d b=> ?_)
  refine A3<|Cc<|Bn O<|Ah<|Ab O<|Ab O<|Aq<|Bd<|Ao<|Bj O O O ?_
  rw [show DF t s a c=10 by rw [DF,y,Q3 (fun h=>by simp [h] at g)];rfl]
  exact ⟨bt i b,CB (by decide)⟩
 intro G
 have ls:s.length=4:=by have:=G;simp at this;omega
 refine Bq (dj:=45) O O<|Bz O<|Bq (dj:=45) O O<|As (fun d b=>A8 AF O O (Sl.bs ‹_› b) 0 O (by omega)) O ?_
 refine Bq (dj:=45) O O<|As (fun d b=>Be (BD _) O (Sl.bs ‹_› b) (by omega)) O ?_
 refine Bq (dj:=45) O O<|Bz O<|Bq (dj:=45) O O<|As (fun d b=>A8 AF O O (Sl.bs ‹_› b) 1 O (by omega)) O ?_
 refine Bq (dj:=45) O O<|As (fun d b=>Be (BD _) O (Sl.bs ‹_› b) (by omega)) O ?_
 refine Bq (dj:=45) O O<|As (fun d b=>Ct O O) O<|As (fun d b=>Dw O O) O<|Ea O ?_
 refine Dp (fun d b=> ?_)
 refine A3<|Cc<|Al O ?_ ?_
 ·intro g
  refine Ah<|Ab O<|Ab O<|Aq<|Bd<|Ao<|Bj O O O ?_
  rw [show DF t s a c=10 by rw [DF,y,Q2 (fun h=>by rw [decide_eq_true h] at g;cases g)];rfl]
  exact ⟨bt i b,CB (by decide)⟩
 intro C
 have S:JP t s=true:=by
  have:t.getD 0 default=s.getD 1 default:=by simpa only [Bool.not_eq_false',decide_eq_true_eq] using C
  rw [JP,decide_eq_true lt,decide_eq_true ls,decide_eq_true this];rfl
 have i:=i.bs b
 have f:=f.bs b
 have e:=e.bs b
 clear b F G C
 have T:=EM D.2.1 (k:=1) (by omega)
 have M:=EM D.2.1 (k:=2) (by omega)
 have R:=EM A.2.1 (k:=0) (by omega)
 have Q:=EM A.2.1 (k:=2) (by omega)
 have U:=EM A.2.1 (k:=3) (by omega)
 refine B7<|Bb<|A3<|Cc<|Ap<|Cw.tail 25 mixed (by kernel_rfl)<|Bz O<|As (fun d b=>A8 AF O O (Sl.bs ‹_› b) 0 O (by omega)) O ?_
 refine As (fun d b=>Be (BD _) O (Sl.bs ‹_› b) (by omega)) O ?_
 refine Bz O<|As (fun d b=>A8 AF O O (Sl.bs ‹_› b) 1 O (by omega)) O ?_
 refine As (fun d b=>Be (BD _) O (Sl.bs ‹_› b) (by omega)) O ?_
 refine Bz O<|As (fun d b=>Eo O O (by omega)) O<|As (fun d b=>D7 O O (by omega)) O<|Bz O<|As (fun d b=>A8 AF O O (Sl.bs ‹_› b) 2 O (by omega)) O ?_
 refine As (fun d b=>Be (BD _) O (Sl.bs ‹_› b) (by omega)) O ?_
 refine Bz O<|Ee O O (fun d b=>(He (t.getD 1 default+2*c) (s.getD 2 default) a d (by omega) (by omega) (by omega)).q b)<|Bz O<|As (fun d b=>A8 AF O O (Sl.bs ‹_› b) 2 O (by omega)) O ?_
 refine As (fun d b=>Be (BD _) O (Sl.bs ‹_› b) (by omega)) O ?_
 refine Bz O<|As (fun d b=>Eo O O (by omega)) O<|As (fun d b=>D7 O O (by omega)) O<|Bz O<|As (fun d b=>A8 AF O O (Sl.bs ‹_› b) 3 O (by omega)) O ?_
 refine As (fun d b=>Be (BD _) O (Sl.bs ‹_› b) (by omega)) O ?_
 refine Bz O<|Ee O O (fun d b=>(He (t.getD 2 default+2*c) (s.getD 3 default) a d (by omega) (by omega) (by omega)).q b) ?_
 refine Qw.done (fun V b=> ?_)
 have i:=i.bs b
 have f:=f.bs b
 have e:=e.bs b
 have J:=AA i
 refine Ar (Ch (vs:=(Lr t s a c).map (Value.int .i64)) AF DL O O O O O) O ?_
 rintro x w ⟨l, -,j, -⟩
 have l:=CW l J
 have i:=i.bs j
 have f:=f.bs j
 have e:=e.bs j
 refine Ab O<|Ba<|Ad O<|Ai O O (DD x (Lr t s a c) _ (AN l)) ?_
 rintro _ w ⟨rfl,j⟩
 have i:=i.bs j
 have f:=f.bs j
 have e:=e.bs j
 have l:=l.bs j
 refine Aa (Cq O) O<|Ak<|Al O ?_ ?_
 ·intro g
  refine Ah<|Ab O<|Ab O<|Bl<|Bj O O O ?_
  rw [show DF t s a c=10 by simp_all [DF]]
  exact ⟨i,CB (by decide)⟩
 intro g
 refine Ca<|Ad O<|Ab O<|Ab O<|Aq<|Bj O O O ?_
 rw [show DF t s a c=0 by simp_all [DF]]
 exact ⟨i,x,_,rfl,l,fun h=>absurd rfl h,fun _=>rfl⟩
theorem MD (t:List Int) (a:Int) (u:Value) (W:World) (d:BG (Value.int .i64) W u t):
  AO prog 252 [u, .int .i64 a] W (fun r w' =>Below W.heap.size W w' ∧Ry W w' r (DP t a) (Oi t a)):=by
 have e:=Below.refl W.heap.size W
 refine A5 (n:=47) func252 O<|Ah<|Ab O<|Ab O<|Ba<|Ad O<|Ai O O (DD u t _ d) ?_
 rintro _ w ⟨rfl,f⟩
 have e:=e.bs f
 have d:=d.bs f
 refine Aa (Cq O) O<|Ad O ?_
 refine Bw 9 O ?_ ?_
 ·intro p
  refine Ae (dj:=9) O O O O<|Ae (dj:=9) O O O O<|Bi O<|Ad O<|Ae (dj:=13) O O O O<|Ae (dj:=13) O O O O<|Bi O<|Ak<|Bn O<|Ah<|Ab O<|Ab O<|Bl<|Bj O O O ?_
  rw [show DP t a=1 by simp [DP,show JW t a=true by simp_all [JW]]]
  exact ⟨e,CB (by decide)⟩
 intro p
 refine Af (dj:=9) O O<|Ad O<|Af (dj:=9) O O<|B9 O<|B6 O<|Ad O ?_
 refine Bw 13 O ?_ ?_
 ·intro j
  refine Ae (dj:=13) O O O O<|Ae (dj:=13) O O O O<|Bi O<|Ak<|Bn O<|Ah<|Ab O<|Ab O<|Bl<|Bj O O O ?_
  rw [show DP t a=1 by simp [DP,show JW t a=true by simp_all [JW]]]
  exact ⟨e,CB (by decide)⟩
 intro j
 refine Af (dj:=13) O O<|Ad O<|Af (dj:=13) O O<|Aa (C1 O O) O<|B6 O<|Ak<|Al O ?_ ?_
 ·intro s
  refine Ah<|Ab O<|Ab O<|Bl<|Bj O O O ?_
  rw [show DP t a=1 by simp [DP,show JW t a=true by simp_all [JW]]]
  exact ⟨e,CB (by decide)⟩
 intro s
 have q:JW t a=false:=by simp_all [JW]
 have B:Shapes.ok t=true:=by simpa using p
 have c:1≤a:=by simpa using j
 have G:a≤64:=by simpa using s
 have l:=(Shapes.ok_iff t).1 B
 clear p j s
 refine B2<|Ap<|Ap<|D3 mixed (by kernel_rfl)<|Bz O<|As (fun c b=>Ay AF O (Sl.bs ‹_› b)) O ?_
 refine As (fun c b=>Ct O O) O<|Bz O ?_
 refine Em 20 O ?_ ?_
 ·intro g
  refine Bf (dj:=20) O O O O<|Bf (dj:=20) O O O O<|Bf (dj:=20) O O O O<|Bf (dj:=20) O O O O<|Bf (dj:=20) O O O O<|Bf (dj:=20) O O O O<|Bf (dj:=20) O O O O<|Bf (dj:=20) O O O O<|Bf (dj:=20) O O O O<|As (fun c b=>Dg O O) O ?_
  refine Dp (fun y b=> ?_)
  refine A3<|Cc<|Bn O<|Ah<|Ab O<|Ab O<|Bl<|Bj O O O ?_
  rw [show DP t a=10 by rw [DP,q,MM,decide_eq_false (show ¬t.length=3 from fun h=>by simp [h] at g)];rfl]
  exact ⟨bt e b,CB (by decide)⟩
 intro v
 have lt:t.length=3:=by have:=v;simp at this;omega
 have E:=EM l.2.1 (k:=0) (by omega)
 have F:=EM l.2.1 (k:=1) (by omega)
 have C:=EM l.2.1 (k:=2) (by omega)
 refine Bq (dj:=20) O O<|Bz O<|Bq (dj:=20) O O<|As (fun c b=>A8 AF O O (Sl.bs ‹_› b) 1 O (by omega)) O ?_
 refine Bq (dj:=20) O O<|As (fun c b=>Be (BD _) O (Sl.bs ‹_› b) (by omega)) O ?_
 refine Bq (dj:=20) O O<|Bz O<|Bq (dj:=20) O O<|As (fun c b=>A8 AF O O (Sl.bs ‹_› b) 2 O (by omega)) O ?_
 refine Bq (dj:=20) O O<|As (fun c b=>Be (BD _) O (Sl.bs ‹_› b) (by omega)) O ?_
 refine Bq (dj:=20) O O<|As (fun c b=>Ex.min2 O O) O<|Bq (dj:=20) O O<|Bz O<|Bq (dj:=20) O O<|As (fun c b=>Ex.lss O O) O<|As (fun c b=>Dw O O) O ?_
 refine Dp (fun y b=> ?_)
 refine A3<|Cc<|Al O ?_ ?_
 ·intro g
  have g:=AE g
  refine Ah<|Ab O<|Ab O<|Bl<|Bj O O O ?_
  rw [show DP t a=10 by
   have:MM t a=false:=by
    unfold MM
    by_cases m:a≤t.getD 1 default
    ·have i:¬a≤t.getD 2 default:=fun i=>by split at g<;>omega
     simp only [decide_eq_false i,Bool.and_false]
    ·simp only [decide_eq_false m,Bool.and_false,Bool.false_and]
   simp [DP,q,this]]
  exact ⟨bt e b,CB (by decide)⟩
 intro g
 have g:=AC g
 have z:MM t a=true:=by
  have m:a≤t.getD 1 default:=by split at g<;>omega
  have i:a≤t.getD 2 default:=by split at g<;>omega
  rw [MM,decide_eq_true lt,decide_eq_true m,decide_eq_true i];rfl
 have e:=e.bs b
 have d:=d.bs b
 clear b v g
 refine B2<|Ap<|Cw.tail 15 mixed (by kernel_rfl)<|Bz O<|As (fun c b=>A8 AF O O (Sl.bs ‹_› b) 0 O (by omega)) O ?_
 refine As (fun c b=>Be (BD _) O (Sl.bs ‹_› b) (by omega)) O ?_
 refine Bz O<|As (fun c b=>A8 AF O O (Sl.bs ‹_› b) 1 O (by omega)) O ?_
 refine As (fun c b=>Be (BD _) O (Sl.bs ‹_› b) (by omega)) O ?_
 refine Bz O<|Bz O<|Ee O O (fun c b=>(He (t.getD 1 default) a a c (by omega) (by omega) (by omega)).q b)<|Bz O<|As (fun c b=>A8 AF O O (Sl.bs ‹_› b) 2 O (by omega)) O ?_
 refine As (fun c b=>Be (BD _) O (Sl.bs ‹_› b) (by omega)) O ?_
 refine Bz O<|Bz O<|Ee O O (fun c b=>(He (t.getD 2 default) a a c (by omega) (by omega) (by omega)).q b) ?_
 refine Qw.done (fun D b=> ?_)
 have e:=e.bs b
 have d:=d.bs b
 have A:=AA e
 refine Ar (Ch (vs:=(Oi t a).map (Value.int .i64)) AF DL O O O O O) O ?_
 rintro x w ⟨o, -,f, -⟩
 have o:=CW o A
 have e:=e.bs f
 have d:=d.bs f
 refine Ab O<|Ab O<|Aq<|Bj O O O ?_
 rw [show DP t a=0 by simp [DP,q,z]]
 exact ⟨e,x,_,rfl,o,fun h=>absurd rfl h,fun _=>rfl⟩
-- DD STOPPED

def CI (k:BitVec 8):Option (List Int):=(Ks.find? (fun p=>decide (p.2.1=(k.toNat:Int)))).map (·.2.2)
def DQ (k:BitVec 8) (i s:List Int) (n p:Int):Bool:=match CI k with
 |some [a,b,c,d,e,f]=>EY a b c d e f i s n p
 |_=>false
theorem HG {l m c d b sh:Int} {i s:List Int} {n p:Int}:EY l m c d b sh i s n p=true↔(l≤(i.length:Int)∧(i.length:Int)≤m∧c≤n∧n≤d∧0≤p∧p≤b)∧(if sh=0 then decide (s.length=0) else if sh=1 then Shapes.ok s else IP s)=true:=by
 unfold EY
 rw [Bool.and_eq_true,Bool.not_eq_true',Bool.or_eq_false_iff,Bool.or_eq_false_iff,Bool.or_eq_false_iff,Bool.or_eq_false_iff,Bool.or_eq_false_iff]
 simp only [decide_eq_false_iff_not]
 constructor
 ·rintro ⟨⟨⟨⟨⟨⟨h,f⟩,k⟩,g⟩,j⟩,e⟩,a⟩
  exact ⟨⟨by omega,by omega,by omega,by omega,by omega,by omega⟩,a⟩
 ·rintro ⟨⟨h,f,k,g,j,e⟩,a⟩
  exact ⟨⟨⟨⟨⟨⟨by omega,by omega⟩,by omega⟩,by omega⟩,by omega⟩,by omega⟩,a⟩
def FV (k:BitVec 8) (s:List Int) (n p:Int) (ins:List (List Int)):List Int:=
 let a:=ins.getD 0 []
 let b:=ins.getD 1 []
 if k=1#8∨k=2#8 then s else if k=5#8∨k=6#8 then a else if k=3#8∨k=4#8 then (if a=b then a else [])
 else if k=10#8 then (if Shapes.size a=Shapes.size s then s else []) else if k=7#8 then (if GF a b=0 then [a.getD 0 default,b.getD 1 default] else [])
 else if k=8#8 then (if DF a b n p=0 then Lr a b n p else []) else if k=9#8 then (if DP a n=0 then Oi a n else [])
 else if k=11#8 then Lv a s else if k=12#8 then Qq ins n.toNat else if k=13#8 then Q5 a n else []
theorem Q7 (v:Value) (ps:List (Value×List Int)) (j:Int) (w:World) (h:LI w v ps) (g:0≤j∧j<(ps.length:Int)):
  AO prog 221 [.agg [v].toArray, .int .i64 j] w (fun r w' =>r=(ps.getD j.toNat default).1∧Below w.heap.size w w'):=by
 have b:=Below.refl w.heap.size w
 have a:=h.sl
 refine A5 (n:=10) func221 O<|Ah<|Cv (cs:=[v]) O O O ?_
 rintro f w c e d -
 have b:=b.bs d
 have a:=a.bs d
 refine Ab O<|Au<|A6 underlying273 O (Iu _)<|Aa (An (LZ _) O ‹_› rfl) O ?_
 refine Ad O<|Aa (A8 BI O O a j.toNat (show j=((j.toNat:Nat):Int) by omega) (show j.toNat<ps.length by omega)) O<|Aa (Ex.as (Be (BA _) O a (show j.toNat<ps.length by omega)) O) O<|Ab O<|Aq<|Am O O ?_
 exact ⟨rfl,b⟩
theorem EO {s:List Int} (h:Shapes.ok s=true):1≤s.length∧s.length≤4:=((Shapes.ok_iff s).1 h).1
theorem RK {s:List Int} (h:Shapes.ok s=true):∀x ∈ s,1≤x∧x≤64:=((Shapes.ok_iff s).1 h).2.1
theorem Mv {k:Nat}:∀(l:List (List Int)) (s a:List Int),Nj k s l=some a→a.length=s.length
 |[],s,a,h=>by cases h;rfl
 |x::l,s,a,h=>by
  unfold Nj at h
  cases e:Pr k s x with
  |none=>rw [e] at h;cases h
  |some t=>
   rw [e] at h
   have b:=Mv l t a h
   unfold Pr at e
   split at e
   ·cases e;rw [b,length_set]
   ·cases e
theorem PR {l:List (List Int)} {k:Nat} (h:(l.headD []).length≤4):(Qq l k).length≤4:=by
 unfold Qq
 cases e:Nj k (l.headD []) l.tail with
 |none=>simp
 |some s=>
  have:=Mv _ _ _ e
  simp only
  split
  ·omega
  ·simp
theorem Rk {l:List Int} (h:Qv l=true) (n:l.length≤4):∀k ∈ l,0≤k∧k<(l.length:Int):=by
 rw [H1] at h
 have m:∀j,j<l.length→(j:Int) ∈ l:=fun j p=>by simpa using h j p
 match l,n with
 |[],_=>intro k o;cases o
 |[a],_=>
  have:=m 0 (by simp)
  simp at this ⊢;omega
 |[a,b],_=>
  have g:=m 0 (by simp);have f:=m 1 (by simp)
  simp at g f ⊢;omega
 |[a,b,c],_=>
  have g:=m 0 (by simp);have f:=m 1 (by simp);have i:=m 2 (by simp)
  simp at g f i ⊢;omega
 |[a,b,c,d],_=>
  have g:=m 0 (by simp);have f:=m 1 (by simp);have i:=m 2 (by simp);have q:=m 3 (by simp)
  simp at g f i q ⊢;omega
 |a::b::c::d::e::l,n=>simp at n
theorem AZ {k:BitVec 8} {i s:List Int} {n p:Int} (h:DQ k i s n p=true) {a b c d e f:Int} (g:CI k=some [a,b,c,d,e,f]):(a≤(i.length:Int)∧(i.length:Int)≤b∧c≤n∧n≤d∧0≤p∧p≤e)∧(if f=0 then decide (s.length=0) else if f=1 then Shapes.ok s else IP s)=true:=by
 unfold DQ at h
 rw [g] at h
 exact HG.1 h
theorem Sx:CI 1#8=some [0,0,0,0,0,1]:=by decide
theorem Sw:CI 2#8=some [0,0,0,0,0,1]:=by decide
theorem RT:CI 3#8=some [2,2,0,0,0,0]:=by decide
theorem RS:CI 4#8=some [2,2,0,0,0,0]:=by decide
theorem Sv:CI 5#8=some [1,1,0,0,0,0]:=by decide
theorem Su:CI 6#8=some [1,1,0,31,0,0]:=by decide
theorem RR:CI 7#8=some [2,2,0,0,0,0]:=by decide
theorem RQ:CI 8#8=some [2,2,1,8,8,0]:=by decide
theorem Ss:CI 9#8=some [1,1,1,64,0,0]:=by decide
theorem Qp:CI 10#8=some [1,1,0,0,0,1]:=by decide
theorem Qo:CI 11#8=some [1,1,0,0,0,2]:=by decide
theorem Qn:CI 12#8=some [1,4,0,3,0,0]:=by decide
theorem Qm:CI 13#8=some [1,1,0,3,0,0]:=by decide
theorem PQ:∀k:BitVec 8,(CI k).isSome=true→(k=1#8∨k=2#8∨k=3#8∨k=4#8∨k=5#8∨k=6#8∨k=7#8∨k=8#8∨k=9#8∨k=10#8∨k=11#8∨k=12#8∨k=13#8):=by decide+kernel
theorem RV (n:Int) (h:0≤n):(n.toNat:Int)=n:=by omega
set_option maxHeartbeats 1000000 in
theorem OJ (x:N5) (v:Value) (ps:List (Value×List Int)) (w:World) (hx:N5.at w x) (h:LI w v ps) (E:DQ x.k x.i x.s x.n x.p=true) (hi:∀j ∈ x.i,0≤j∧j<(ps.length:Int)) (M:∀p ∈ ps,Shapes.ok p.2=true):
  AO prog 220 [x.v, .func (.func 221) #[.agg [v].toArray] #[]] w (fun r w' =>BG (Value.int .i64) w' r (FV x.k x.s x.n x.p (x.i.map fun j=>(ps.getD j.toNat default).2))∧Below w.heap.size w w' ∧∀b,r.ownBlock=some b→w.heap.size≤b∧b<w'.heap.size):=by
 obtain ⟨G,hG⟩:∃G,G=FV x.k x.s x.n x.p (x.i.map fun j=>(ps.getD j.toNat default).2):=⟨_,rfl⟩
 rw [← hG]
 obtain ⟨W,hW⟩:∃W,W=w:=⟨_,rfl⟩
 have N:=Below.refl W.heap.size W
 have h_i:=hx.i
 have V:=hx.s
 have hli:=h_i.le
 obtain ⟨s,hqs⟩:∃s,s=x.i.map fun j=>ps.getD j.toNat default:=⟨_,rfl⟩
 have hq2:AS s=x.i.map fun j=>(ps.getD j.toNat default).2:=by rw [hqs];simp [AS]
 have lq:s.length=x.i.length:=by rw [hqs,length_map]
 have K:∀p ∈ s,p ∈ ps:=fun p hp=>by
  rw [hqs] at hp
  obtain ⟨j,hj,rfl⟩:=List.mem_map.1 hp
  have:=hi j hj
  rw [getD_eq_getElem?_getD,getElem?_eq_getElem (by omega)]
  exact getElem_mem _
 have li4:x.i.length≤4:=by
  unfold DQ at E
  split at E
  ·rename_i a b c d e f he
   have h1:=(HG.1 E).1
   have h2:∀p ∈ Ks,p.2.2.getD 1 0≤4:=by decide
   unfold CI at he
   cases hf:Ks.find? (fun p=>decide (p.2.1=(x.k.toNat:Int))) with
   |none=>rw [hf] at he;cases he
   |some p=>
    rw [hf] at he
    have h3:=h2 p (mem_of_find?_eq_some hf)
    have h4:p.2.2=[a,b,c,d,e,f]:=by simpa using he
    rw [h4] at h3
    simp at h3
    omega
  ·cases E
 rw [← hW] at hx h h_i V
 rw [← hW]
 refine A5 (n:=124) func220 O<|Ah<|Cv (cs:=x.cells) O O O ?_
 rintro A_x w eA_x X hn -
 have N:=N.bs hn
 have h_i:=h_i.bs hn
 have V:=V.bs hn
 refine Ab O<|Au<|Ab O<|Ba<|A6 underlying79 O (BQ _)<|Aa (An (BA _) O ‹_› rfl) O ?_
 refine Aa (Ay AF O ‹_›) O ?_
 refine Ad O<|Ak<|Av ?_
 have zx:=AY X
 have zW:=AA N
 obtain ⟨B,hBd⟩:∃B,B=w.heap.size:=⟨_,rfl⟩
 rw [← hBd] at zx zW
 refine B4 (S:=(Nat×Value)) (fun z=>[(1, .func (.func 221) #[.agg [v].toArray] #[]),(2, .pointer (some ⟨A_x,0,none⟩)),(4, .slice none 0 0),(5,z.2),(9,x.x),(10, .int .i64 (x.i.length:Int)),(11, .int .i64 (z.1:Int))]) (fun z w' =>z.1≤x.i.length∧Below W.heap.size W w' ∧AK w' A_x 79 x.cells∧w'.ownsRow B 70 1 z.2 z.1 ((s.take z.1).map (·.1))∧B≤w'.heap.size) (fun z=>x.i.length - z.1) ((0, .slice none 0 0)) ⟨rfl,rfl,rfl,rfl,rfl,rfl,rfl,trivial⟩ ?_ ?_
 ·exact ⟨Nat.zero_le _,N,X,⟨rfl, .inl ⟨rfl,rfl⟩⟩,by omega⟩
 rintro ⟨i,u⟩ k ⟨hi1,N,X,o_u,hAx⟩
 dsimp only at hi1 N X o_u ⊢
 have h1:=h.bs N
 have h_i:=hx.i.bs N
 have V:=hx.s.bs N
 have zB:=AA N
 refine Ah<|B9 O<|Ak<|Ap<|Al O ?_ ?_
 ·intro g
  have hi' :i<x.i.length:=by have:=AE g;omega
  obtain ⟨j,hj⟩:∃j,j=x.i.getD i default:=⟨_,rfl⟩
  have hjm:j ∈ x.i:=by rw [hj];exact IQ hi'
  obtain ⟨q,hq⟩:∃q,q=ps.getD j.toNat default:=⟨_,rfl⟩
  have hqi:s[i]'(by omega)=q:=by
   have ej:x.i[i]=j:=by rw [hj,getD_eq_getElem?_getD,getElem?_eq_getElem hi'];rfl
   simp only [hqs,getElem_map,ej];exact hq.symm
  refine B2<|Ap<|Av<|Ah<|Aa (A8 AF O O ‹_› _ O (by omega)) O ?_
  refine Aa (Ex.as (Be (BD _) O h_i hi') (cngA (Value.int .i64) hj.symm)) O<|Ab O<|Ak<|A4<|Ad O<|Ad O<|Ad O<|Eg (p:=[.agg [v].toArray]) (q:=[]) O O O (Q7 v ps j k h1 (hi j hjm)) ?_
  rintro _ w2 ⟨rfl,hn⟩
  rw [← hq]
  have s_q:BG (Value.int .i64) w2 q.1 q.2:=(h1.bs hn).each q (K q (hqi ▸ getElem_mem _))
  have o_u:=AG o_u hn
  have X:=X.bs hn
  have z2:=hn.size
  refine Ar (Ch (vs:=[q.1]) BI Mx O O O (by rw [all_cons,s_q.one'];rfl) O) O ?_
  rintro r Y ⟨o_r, -,o, -⟩
  have o_u:=AG o_u o
  have X:=X.bs o
  have z3:=o.size
  refine Ar (Co (base:=B) BI Mx O (by decide) O O o_u (AH o_r) (by rw [all_cons,s_q.one'];rfl) (by omega) (by omega) (by omega)) O ?_
  rintro u' w4 ⟨o_u',hn4,hg4, -⟩
  have ub:=AD o_u
  have X:=X.by hg4 (fun e=>by have:=ub _ e.symm;omega)
  have e1:(s.take i).map (·.1)++[q.1]=(s.take (i+1)).map (·.1):=by
   rw [take_succ_eq_append_getElem (by omega),map_append,hqi];rfl
  rw [e1] at o_u'
  refine Ab O<|A7<|Bb<|Cx<|Cn O (by omega)<|Ad O<|A7 ?_
  exact A3 (B1 ((i+1,u')) ⟨rfl,rfl,rfl,rfl,rfl,rfl,rfl,trivial⟩ (⟨hi',((N.trans (hn.mono zB)).trans (o.mono (by omega))).trans (hn4.mono zW),X,o_u',by have:=hn4.size;omega⟩) (by simp only;omega))
 intro g
 have hi' :i=x.i.length:=by have:=AC g;omega
 subst hi'
 rw [← lq,take_length] at o_u
 have Q:LI k u s:=⟨AN o_u,fun p hp=>h1.each p (K p hp)⟩
 have hq4:∀p ∈ s,p.2.length≤4∧∀y ∈ p.2,0≤y∧y≤64:=fun p hp=>⟨(EO (M p (K p hp))).2,fun y hy=>by have:=RK (M p (K p hp)) y hy;omega⟩
 have h0:∀(hl:0<s.length),∃q,s.getD 0 default=q∧(AS s).getD 0 []=q.2∧q ∈ s:=fun hl=>⟨s[0],by rw [getD_eq_getElem?_getD,getElem?_eq_getElem hl];rfl,by rw [getD_eq_getElem?_getD,getElem?_map,getElem?_eq_getElem hl];rfl,getElem_mem hl⟩
 have h1q:∀(hl:1<s.length),∃q,s.getD 1 default=q∧(AS s).getD 1 []=q.2∧q ∈ s:=fun hl=>⟨s[1],by rw [getD_eq_getElem?_getD,getElem?_eq_getElem hl];rfl,by rw [getD_eq_getElem?_getD,getElem?_map,getElem?_eq_getElem hl];rfl,getElem_mem hl⟩
 have A:=Q.sl
 rw [← hq2] at hG
 refine Bx<|A0<|A0<|Bh<|A3<|Cc<|Ap<|Ah<|A6 underlying79 O (FJ _)<|Aa (An (GO _) O ‹_› rfl) O ?_
 refine Ak ?_
 refine D8 (St:=Value) (fun y=>[(4,y)]) (fun y w' =>Below W.heap.size W w' ∧BG (Value.int .i64) w' y G∧G.length≤4) ?_ ?_
 ·refine Av<|Ap<|Ah<|Aa (C3 O (show _=some (b8 (1#8)) from rfl)) O<|Ab O<|Ak<|Al O ?_ ?_
  ·intro g
   have g:x.k=1#8:=AE g
   refine Fa 24 (v' := .bool true) O (cngA Value.bool (decide_eq_true g))<|B2<|Bn O<|A4<|A6 underlying79 O (BQ _)<|Aa (An (BA _) O ‹_› rfl) O ?_
   refine Ab O<|A7<|Bb ?_
   have k_s:Shapes.ok x.s=true:=(AZ (by rw [g] at E;exact E) Sx).2
   have F:G=x.s:=by rw [hG,g];rfl
   exact Bv (x.y) ⟨rfl,trivial⟩ (⟨N,by rw [F];exact V,by rw [F];exact (EO k_s).2⟩)
  intro g1
  have g1:¬x.k=1#8:=AC g1
  refine A4<|Aa (C3 O (show _=some (b8 (2#8)) from rfl)) O<|Ab O<|Ak<|Al O ?_ ?_
  ·intro g
   have g:x.k=2#8:=AE g
   refine A4<|A6 underlying79 O (BQ _)<|Aa (An (BA _) O ‹_› rfl) O ?_
   refine Ab O<|A7<|Bb ?_
   have k_s:Shapes.ok x.s=true:=(AZ (by rw [g] at E;exact E) Sw).2
   have F:G=x.s:=by rw [hG,g];rfl
   exact Bv (x.y) ⟨rfl,trivial⟩ (⟨N,by rw [F];exact V,by rw [F];exact (EO k_s).2⟩)
  intro g2
  have g2:¬x.k=2#8:=AC g2
  refine Ap<|Ah<|Aa (C3 O (show _=some (b8 (5#8)) from rfl)) O<|Ab O<|Ak<|Al O ?_ ?_
  ·intro g
   have g:x.k=5#8:=AE g
   have H:0<s.length:=by have:=(AZ (by rw [g] at E;exact E) Sv).1;omega
   obtain ⟨a,ea,ga,U⟩:=h0 H
   have J:=Q.each a U
   have T:=M a (K a U)
   have I:(s.getD 0 default).1=a.1:=by rw [ea]
   have F:G=a.2:=by rw [hG,g];exact ga
   refine Fa 29 (v' := .bool true) O (cngA Value.bool (decide_eq_true g))<|B2<|Bn O<|A4<|Ad O<|Aa (A8 BI O O A 0 O H) O<|Aa (Ex.as (Be (BA _) O A H) I) O<|Ab O<|A7<|Bb ?_
   exact Bv (a.1) ⟨rfl,trivial⟩ (⟨N,by rw [F];exact J,by rw [F];exact (EO T).2⟩)
  intro g5
  have g5:¬x.k=5#8:=AC g5
  refine A4<|Aa (C3 O (show _=some (b8 (6#8)) from rfl)) O<|Ab O<|Ak<|Al O ?_ ?_
  ·intro g
   have g:x.k=6#8:=AE g
   have H:0<s.length:=by have:=(AZ (by rw [g] at E;exact E) Su).1;omega
   obtain ⟨a,ea,ga,U⟩:=h0 H
   have J:=Q.each a U
   have T:=M a (K a U)
   have I:(s.getD 0 default).1=a.1:=by rw [ea]
   have F:G=a.2:=by rw [hG,g];exact ga
   refine A4<|Ad O<|Aa (A8 BI O O A 0 O H) O<|Aa (Ex.as (Be (BA _) O A H) I) O<|Ab O<|A7<|Bb ?_
   exact Bv (a.1) ⟨rfl,trivial⟩ (⟨N,by rw [F];exact J,by rw [F];exact (EO T).2⟩)
  intro g6
  have g6:¬x.k=6#8:=AC g6
  refine Ap<|Ah<|Aa (C3 O (show _=some (b8 (3#8)) from rfl)) O<|Ab O<|Ak<|Al O ?_ ?_
  ·intro g
   have g:x.k=3#8:=AE g
   refine Fa 35 (v' := .bool true) O (cngA Value.bool (decide_eq_true g))<|B2<|Bn O<|Ap ?_
   have H:0<s.length:=by have:=(AZ (by rw [g] at E;exact E) RT).1;omega
   obtain ⟨a,ea,ga,U⟩:=h0 H
   have J:=Q.each a U
   have T:=M a (K a U)
   have I:(s.getD 0 default).1=a.1:=by rw [ea]
   have l2:1<s.length:=by have:=(AZ (by rw [g] at E;exact E) RT).1;omega
   obtain ⟨b,eb,gb,mb⟩:=h1q l2
   have s_b:=Q.each b mb
   have k_b:=M b (K b mb)
   have eb' :(s.getD 1 default).1=b.1:=by rw [eb]
   have F:G=if a.2=b.2 then a.2 else []:=by rw [hG,g,← ga,← gb];rfl
   refine Cw.any mixed (fun w2 t _=> ?_)
   refine Dc (fun w' =>Below k.heap.size k w') (fun hC=> ?_) (t)
   have C:=N.trans (t.mono (AA N))
   have R:=V.bs t
   have D:=J.bs t
   have Z:=s_b.bs t
   refine B8 (Az (Bo Ck))<|Aj 0 O (fun k l=>Bt O) O<|Aj 1 O (fun k l=>A8 BI O O (A.bs l) 0 O H) O<|Aj 2 O (fun k l=>Ex.as (Be (BA _) O (A.bs l) H) I) O<|Aj 3 O (fun k l=>Bt O) O<|Aj 4 O (fun k l=>A8 BI O O (A.bs l) 1 O l2) O<|Aj 5 O (fun k l=>Ex.as (Be (BA _) O (A.bs l) l2) eb') O<|Br<|AR.only ‹_› (i:=6) (by kernel_rfl) O ?_
   refine Ai O O (FX a.1 b.1 a.2 b.2 w2 D Z) ?_
   rintro _ Y ⟨rfl,o⟩
   have hd3:Below k.heap.size k Y:=t.trans (o.mono t.size)
   have L:=C.trans (o.mono (AA C))
   have hql3:=(A.bs t).bs o
   refine AR.back<|AR.done ‹_› (by kernel_rfl) ?_
   refine A3<|Cc<|Al O ?_ ?_
   ·intro e
    have e:a.2=b.2:=AE e
    refine A4<|Ad O<|Aa (A8 BI O O hql3 0 O H) O<|Aa (Ex.as (Be (BA _) O hql3 H) I) O<|Ab O<|A7<|Bb ?_
    exact Bv (a.1) ⟨rfl,trivial⟩ (⟨L,by rw [F,if_pos e];exact D.bs o,by rw [F,if_pos e];exact (EO T).2⟩)
   intro e
   have e:¬a.2=b.2:=AC e
   refine B7<|Bb ?_
   exact Bv ((.slice none 0 0)) ⟨rfl,trivial⟩ (⟨L,by rw [F,if_neg e];exact Cs _ _,by rw [F,if_neg e];exact Nat.zero_le _⟩)
  intro g3
  have g3:¬x.k=3#8:=AC g3
  refine A4<|Aa (C3 O (show _=some (b8 (4#8)) from rfl)) O<|Ab O<|Ak<|Al O ?_ ?_
  ·intro g
   have g:x.k=4#8:=AE g
   refine Ap ?_
   have H:0<s.length:=by have:=(AZ (by rw [g] at E;exact E) RS).1;omega
   obtain ⟨a,ea,ga,U⟩:=h0 H
   have J:=Q.each a U
   have T:=M a (K a U)
   have I:(s.getD 0 default).1=a.1:=by rw [ea]
   have l2:1<s.length:=by have:=(AZ (by rw [g] at E;exact E) RS).1;omega
   obtain ⟨b,eb,gb,mb⟩:=h1q l2
   have s_b:=Q.each b mb
   have k_b:=M b (K b mb)
   have eb' :(s.getD 1 default).1=b.1:=by rw [eb]
   have F:G=if a.2=b.2 then a.2 else []:=by rw [hG,g,← ga,← gb];rfl
   refine Cw.any mixed (fun w2 t _=> ?_)
   refine Dc (fun w' =>Below k.heap.size k w') (fun hC=> ?_) (t)
   have C:=N.trans (t.mono (AA N))
   have R:=V.bs t
   have D:=J.bs t
   have Z:=s_b.bs t
   refine B8 (Az (Bo Ck))<|Aj 0 O (fun k l=>Bt O) O<|Aj 1 O (fun k l=>A8 BI O O (A.bs l) 0 O H) O<|Aj 2 O (fun k l=>Ex.as (Be (BA _) O (A.bs l) H) I) O<|Aj 3 O (fun k l=>Bt O) O<|Aj 4 O (fun k l=>A8 BI O O (A.bs l) 1 O l2) O<|Aj 5 O (fun k l=>Ex.as (Be (BA _) O (A.bs l) l2) eb') O<|Br<|AR.only ‹_› (i:=6) (by kernel_rfl) O ?_
   refine Ai O O (FX a.1 b.1 a.2 b.2 w2 D Z) ?_
   rintro _ Y ⟨rfl,o⟩
   have hd3:Below k.heap.size k Y:=t.trans (o.mono t.size)
   have L:=C.trans (o.mono (AA C))
   have hql3:=(A.bs t).bs o
   refine AR.back<|AR.done ‹_› (by kernel_rfl) ?_
   refine A3<|Cc<|Al O ?_ ?_
   ·intro e
    have e:a.2=b.2:=AE e
    refine A4<|Ad O<|Aa (A8 BI O O hql3 0 O H) O<|Aa (Ex.as (Be (BA _) O hql3 H) I) O<|Ab O<|A7<|Bb ?_
    exact Bv (a.1) ⟨rfl,trivial⟩ (⟨L,by rw [F,if_pos e];exact D.bs o,by rw [F,if_pos e];exact (EO T).2⟩)
   intro e
   have e:¬a.2=b.2:=AC e
   refine B7<|Bb ?_
   exact Bv ((.slice none 0 0)) ⟨rfl,trivial⟩ (⟨L,by rw [F,if_neg e];exact Cs _ _,by rw [F,if_neg e];exact Nat.zero_le _⟩)
  intro g4
  have g4:¬x.k=4#8:=AC g4
  refine Ah<|Aa (C3 O (show _=some (b8 (10#8)) from rfl)) O<|Ab O<|Ak<|Al O ?_ ?_
  ·intro g
   have g:x.k=10#8:=AE g
   refine Ap ?_
   have H:0<s.length:=by have:=(AZ (by rw [g] at E;exact E) Qp).1;omega
   obtain ⟨a,ea,ga,U⟩:=h0 H
   have J:=Q.each a U
   have T:=M a (K a U)
   have I:(s.getD 0 default).1=a.1:=by rw [ea]
   have k_s:Shapes.ok x.s=true:=(AZ (by rw [g] at E;exact E) Qp).2
   have F:G=if Shapes.size a.2=Shapes.size x.s then x.s else []:=by rw [hG,g,← ga];rfl
   refine Cw.any mixed (fun w2 t _=> ?_)
   refine Dc (fun w' =>Below k.heap.size k w') (fun hC=> ?_) (t)
   have C:=N.trans (t.mono (AA N))
   have R:=V.bs t
   have D:=J.bs t
   refine B8 (Az (Bo Ck))<|Aj 0 O (fun k l=>Bt O) O<|Aj 1 O (fun k l=>A8 BI O O (A.bs l) 0 O H) O<|Aj 2 O (fun k l=>Ex.as (Be (BA _) O (A.bs l) H) I) O<|Aj 4 O (fun k l=>Cr underlying79 O (BQ _)) O<|Aj 5 O (fun k l=>An (BA _) O (AK.bs ‹_› l) O) O<|Br ?_
   refine AR.only ‹_› (i:=3) (by kernel_rfl) O ?_
   refine Ai O O (Iy a.1 a.2 w2 D) ?_
   rintro _ Y ⟨rfl,o⟩
   have hd3:Below k.heap.size k Y:=t.trans (o.mono t.size)
   refine AR.back<|AR.only ‹_› (i:=6) (by kernel_rfl) O ?_
   refine Ai O O (Iy x.y x.s Y (R.bs o)) ?_
   rintro _ w4 ⟨rfl,hn4⟩
   have hn34:=o.trans (hn4.mono o.size)
   have hB4:=C.trans (hn34.mono (AA C))
   have hd4:Below k.heap.size k w4:=t.trans (hn34.mono t.size)
   have X:=(X.bs t).bs hn34
   refine AR.back<|B8 (Az (Bo Ck))<|Aj 7 O (fun k l=>Ce O O) O<|Br<|AR.done ‹_› (by kernel_rfl) ?_
   refine A3<|Cc<|Al O ?_ ?_
   ·intro e
    have e:Shapes.size a.2=Shapes.size x.s:=by have:=AE e;omega
    refine A4<|A6 underlying79 O (BQ _)<|Aa (An (BA _) O ‹_› rfl) O ?_
    refine Ab O<|A7<|Bb ?_
    exact Bv (x.y) ⟨rfl,trivial⟩ (⟨hB4,by rw [F,if_pos e];exact R.bs hn34,by rw [F,if_pos e];exact (EO k_s).2⟩)
   intro e
   have e:¬Shapes.size a.2=Shapes.size x.s:=by have:=AC e;omega
   refine B7<|Bb ?_
   exact Bv ((.slice none 0 0)) ⟨rfl,trivial⟩ (⟨hB4,by rw [F,if_neg e];exact Cs _ _,by rw [F,if_neg e];exact Nat.zero_le _⟩)
  intro g10
  have g10:¬x.k=10#8:=AC g10
  refine Ah<|Aa (C3 O (show _=some (b8 (7#8)) from rfl)) O<|Ab O<|Ak<|Al O ?_ ?_
  ·intro g
   have g:x.k=7#8:=AE g
   have F:G=if GF ((AS s).getD 0 []) ((AS s).getD 1 [])=0 then [((AS s).getD 0 []).getD 0 default,((AS s).getD 1 []).getD 1 default] else []:=by rw [hG,g];rfl
   have H:0<s.length:=by have:=(AZ (by rw [g] at E;exact E) RR).1;omega
   obtain ⟨a,ea,ga,U⟩:=h0 H
   have J:=Q.each a U
   have T:=M a (K a U)
   have I:(s.getD 0 default).1=a.1:=by rw [ea]
   have l2:1<s.length:=by have:=(AZ (by rw [g] at E;exact E) RR).1;omega
   obtain ⟨b,eb,gb,mb⟩:=h1q l2
   have s_b:=Q.each b mb
   have k_b:=M b (K b mb)
   have eb' :(s.getD 1 default).1=b.1:=by rw [eb]
   refine Cw.any mixed (fun w2 t _=> ?_)
   refine Dc (fun w' =>Below k.heap.size k w') (fun hC=> ?_) (t)
   have C:=N.trans (t.mono (AA N))
   have R:=V.bs t
   have D:=J.bs t
   have Z:=s_b.bs t
   refine B8 (Bo Ck)<|Aj 0 O (fun k l=>Bt O) O<|Aj 1 O (fun k l=>A8 BI O O (A.bs l) 0 O H) O<|Aj 2 O (fun k l=>Ex.as (Be (BA _) O (A.bs l) H) I) O<|Aj 3 O (fun k l=>Bt O) O<|Aj 4 O (fun k l=>A8 BI O O (A.bs l) 1 O l2) O<|Aj 5 O (fun k l=>Ex.as (Be (BA _) O (A.bs l) l2) eb') O<|Br<|AR.only ‹_› (i:=6) (by kernel_rfl) O ?_
   rw [ga,gb] at F
   refine Ai O O (Oh a.1 b.1 a.2 b.2 w2 D Z) ?_
   rintro _ Y ⟨o,y,rfl,hy0,hy1⟩
   have hd3:Below k.heap.size k Y:=t.trans (o.mono t.size)
   have L:=C.trans (o.mono (AA C))
   have hy:BG (Value.int .i64) Y y G∧G.length≤4:=by
    by_cases e:GF a.2 b.2=0
    ·rw [F,if_pos e];exact ⟨AN (hy1 e),by simp⟩
    ·rw [F,if_neg e,hy0 e];exact ⟨Cs _ _,by simp⟩
   refine AR.back<|B8 (Bo Ck)<|Aj 7 O (fun k l=>Bt O) O<|Aj 8 O (fun k l=>Ex.extract (i:=0) O O) O<|Aj 9 O (fun k l=>Ex.extract (i:=1) O O) O<|Aj 10 O (fun k l=>B0 O) O<|Br<|AR.done ‹_› (by kernel_rfl) ?_
   exact Bb<|Bv (y) ⟨rfl,trivial⟩ (⟨L,hy.1,hy.2⟩)
  intro g7
  have g7:¬x.k=7#8:=AC g7
  refine Ah<|Aa (C3 O (show _=some (b8 (8#8)) from rfl)) O<|Ab O<|Ak<|Al O ?_ ?_
  ·intro g
   have g:x.k=8#8:=AE g
   have F:G=if DF ((AS s).getD 0 []) ((AS s).getD 1 []) x.n x.p=0 then Lr ((AS s).getD 0 []) ((AS s).getD 1 []) x.n x.p else []:=by rw [hG,g];rfl
   have H:0<s.length:=by have:=(AZ (by rw [g] at E;exact E) RQ).1;omega
   obtain ⟨a,ea,ga,U⟩:=h0 H
   have J:=Q.each a U
   have T:=M a (K a U)
   have I:(s.getD 0 default).1=a.1:=by rw [ea]
   have l2:1<s.length:=by have:=(AZ (by rw [g] at E;exact E) RQ).1;omega
   obtain ⟨b,eb,gb,mb⟩:=h1q l2
   have s_b:=Q.each b mb
   have k_b:=M b (K b mb)
   have eb' :(s.getD 1 default).1=b.1:=by rw [eb]
   refine Cw.any mixed (fun w2 t _=> ?_)
   refine Dc (fun w' =>Below k.heap.size k w') (fun hC=> ?_) (t)
   have C:=N.trans (t.mono (AA N))
   have R:=V.bs t
   have D:=J.bs t
   have Z:=s_b.bs t
   refine B8 (Bo Ck)<|Aj 0 O (fun k l=>Bt O) O<|Aj 1 O (fun k l=>A8 BI O O (A.bs l) 0 O H) O<|Aj 2 O (fun k l=>Ex.as (Be (BA _) O (A.bs l) H) I) O<|Aj 3 O (fun k l=>Bt O) O<|Aj 4 O (fun k l=>A8 BI O O (A.bs l) 1 O l2) O<|Aj 5 O (fun k l=>Ex.as (Be (BA _) O (A.bs l) l2) eb') O<|Aj 6 O (fun k l=>Cr underlying79 O (BU _)) O<|Aj 7 O (fun k l=>An (BD _) O (AK.bs ‹_› l) O) O<|Aj 8 O (fun k l=>Cr underlying79 O (BU _)) O<|Aj 9 O (fun k l=>An (BD _) O (AK.bs ‹_› l) O) O<|Br ?_
   refine AR.only ‹_› (i:=10) (by kernel_rfl) O ?_
   rw [ga,gb] at F
   refine Ai O O (NA a.2 b.2 x.n x.p a.1 b.1 w2 D Z) ?_
   rintro _ Y ⟨o,y,m,rfl,o_y,hy0,hy1⟩
   have hd3:Below k.heap.size k Y:=t.trans (o.mono t.size)
   have L:=C.trans (o.mono (AA C))
   have hy:BG (Value.int .i64) Y y G∧G.length≤4:=by
    by_cases e:DF a.2 b.2 x.n x.p=0
    ·rw [F,if_pos e,← hy1 e];exact ⟨AN o_y,by rw [hy1 e];simp [Lr]⟩
    ·rw [F,if_neg e,(hy0 e).1];exact ⟨Cs _ _,by simp⟩
   refine AR.back<|B8 (Bo Ck)<|Aj 11 O (fun k l=>Bt O) O<|Aj 12 O (fun k l=>Ex.extract (i:=0) O O) O<|Aj 13 O (fun k l=>Ex.extract (i:=1) O O) O<|Aj 14 O (fun k l=>B0 O) O<|Br<|AR.done ‹_› (by kernel_rfl) ?_
   exact Bb<|Bv (y) ⟨rfl,trivial⟩ (⟨L,hy.1,hy.2⟩)
  intro g8
  have g8:¬x.k=8#8:=AC g8
  refine Ah<|Aa (C3 O (show _=some (b8 (9#8)) from rfl)) O<|Ab O<|Ak<|Al O ?_ ?_
  ·intro g
   have g:x.k=9#8:=AE g
   have F:G=if DP ((AS s).getD 0 []) x.n=0 then Oi ((AS s).getD 0 []) x.n else []:=by rw [hG,g];rfl
   have H:0<s.length:=by have:=(AZ (by rw [g] at E;exact E) Ss).1;omega
   obtain ⟨a,ea,ga,U⟩:=h0 H
   have J:=Q.each a U
   have T:=M a (K a U)
   have I:(s.getD 0 default).1=a.1:=by rw [ea]
   refine Cw.any mixed (fun w2 t _=> ?_)
   refine Dc (fun w' =>Below k.heap.size k w') (fun hC=> ?_) (t)
   have C:=N.trans (t.mono (AA N))
   have R:=V.bs t
   have D:=J.bs t
   refine B8 (Bo Ck)<|Aj 0 O (fun k l=>Bt O) O<|Aj 1 O (fun k l=>A8 BI O O (A.bs l) 0 O H) O<|Aj 2 O (fun k l=>Ex.as (Be (BA _) O (A.bs l) H) I) O<|Aj 3 O (fun k l=>Cr underlying79 O (BU _)) O<|Aj 4 O (fun k l=>An (BD _) O (AK.bs ‹_› l) O) O<|Br ?_
   refine AR.only ‹_› (i:=5) (by kernel_rfl) O ?_
   rw [ga] at F
   refine Ai O O (MD a.2 x.n a.1 w2 D) ?_
   rintro _ Y ⟨o,y,m,rfl,o_y,hy0,hy1⟩
   have hd3:Below k.heap.size k Y:=t.trans (o.mono t.size)
   have L:=C.trans (o.mono (AA C))
   have hy:BG (Value.int .i64) Y y G∧G.length≤4:=by
    by_cases e:DP a.2 x.n=0
    ·rw [F,if_pos e,← hy1 e];exact ⟨AN o_y,by rw [hy1 e];simp [Oi]⟩
    ·rw [F,if_neg e,(hy0 e).1];exact ⟨Cs _ _,by simp⟩
   refine AR.back<|B8 (Bo Ck)<|Aj 6 O (fun k l=>Bt O) O<|Aj 7 O (fun k l=>Ex.extract (i:=0) O O) O<|Aj 8 O (fun k l=>Ex.extract (i:=1) O O) O<|Aj 9 O (fun k l=>B0 O) O<|Br<|AR.done ‹_› (by kernel_rfl) ?_
   exact Bb<|Bv (y) ⟨rfl,trivial⟩ (⟨L,hy.1,hy.2⟩)
  intro g9
  have g9:¬x.k=9#8:=AC g9
  refine Ah<|Aa (C3 O (show _=some (b8 (11#8)) from rfl)) O<|Ab O<|Ak<|Al O ?_ ?_
  ·intro g
   have g:x.k=11#8:=AE g
   have k_s:IP x.s=true:=(AZ (by rw [g] at E;exact E) Qo).2
   have k_c:Qv x.s=true∧x.s.length≤4:=by unfold IP at k_s;rw [Bool.and_eq_true] at k_s;exact ⟨k_s.1,AE k_s.2⟩
   have F:G=Lv ((AS s).getD 0 []) x.s:=by rw [hG,g];rfl
   have H:0<s.length:=by have:=(AZ (by rw [g] at E;exact E) Qo).1;omega
   obtain ⟨a,ea,ga,U⟩:=h0 H
   have J:=Q.each a U
   have T:=M a (K a U)
   have I:(s.getD 0 default).1=a.1:=by rw [ea]
   refine Cw.any mixed (fun w2 t _=> ?_)
   refine Dc (fun w' =>Below k.heap.size k w') (fun hC=> ?_) (t)
   have C:=N.trans (t.mono (AA N))
   have R:=V.bs t
   have D:=J.bs t
   refine B8 (Bo Ck)<|Aj 0 O (fun k l=>Bt O) O<|Aj 1 O (fun k l=>A8 BI O O (A.bs l) 0 O H) O<|Aj 2 O (fun k l=>Ex.as (Be (BA _) O (A.bs l) H) I) O<|Aj 3 O (fun k l=>Cr underlying79 O (BQ _)) O<|Aj 4 O (fun k l=>An (BA _) O (AK.bs ‹_› l) O) O<|Br ?_
   refine AR.only ‹_› (i:=5) (by kernel_rfl) O ?_
   rw [ga] at F
   refine Ai O O (No a.1 x.y a.2 x.s w2 D R (Rk k_c.1 k_c.2) (by omega)) ?_
   rintro y Y ⟨s_y,o⟩
   have hd3:Below k.heap.size k Y:=t.trans (o.mono t.size)
   have L:=C.trans (o.mono (AA C))
   have lG:G.length≤4:=by rw [F];unfold Lv;split;rw [length_map];exact k_c.2;simp
   refine AR.back<|B8 (Bo Ck)<|Aj 6 O (fun k l=>B0 O) O<|Br<|AR.done ‹_› (by kernel_rfl) ?_
   refine Bb ?_
   exact Bv (y) ⟨rfl,trivial⟩ (⟨L,by rw [F];exact s_y,lG⟩)
  intro g11
  have g11:¬x.k=11#8:=AC g11
  refine Ah<|Aa (C3 O (show _=some (b8 (12#8)) from rfl)) O<|Ab O<|Ak<|Al O ?_ ?_
  ·intro g
   have g:x.k=12#8:=AE g
   refine A4<|Ad O<|A6 underlying79 O (BU _)<|Aa (An (BD _) O ‹_› rfl) O ?_
   have H:0<s.length:=by have:=(AZ (by rw [g] at E;exact E) Qn).1;omega
   have n0:0≤x.n:=by have:=(AZ (by rw [g] at E;exact E) Qn).1;omega
   have F:G=Qq (AS s) x.n.toNat:=by rw [hG,g];rfl
   have hj:=Ns u s x.n.toNat k Q H (by omega) hq4
   rw [RV x.n n0] at hj
   have lG:G.length≤4:=by
    rw [F]
    obtain ⟨a, -,ga,U⟩:=h0 H
    refine PR ?_
    have:(AS s).headD []=(AS s).getD 0 []:=by cases AS s<;>rfl
    rw [this,ga];exact (hq4 a U).1
   refine Ai O O (hj) ?_
   rintro y Y ⟨s_y,o⟩
   have L:=N.trans (o.mono (AA N))
   refine Ab O<|A7<|Bb ?_
   exact Bv (y) ⟨rfl,trivial⟩ (⟨L,by rw [F];exact s_y,lG⟩)
  intro g12
  have g12:¬x.k=12#8:=AC g12
  refine Ah<|Aa (C3 O (show _=some (b8 (13#8)) from rfl)) O<|Ab O<|Ak<|Al O ?_ ?_
  ·intro g
   have g:x.k=13#8:=AE g
   have n0:0≤x.n:=by have:=(AZ (by rw [g] at E;exact E) Qm).1;omega
   have F:G=Q5 ((AS s).getD 0 []) x.n:=by rw [hG,g];rfl
   have H:0<s.length:=by have:=(AZ (by rw [g] at E;exact E) Qm).1;omega
   obtain ⟨a,ea,ga,U⟩:=h0 H
   have J:=Q.each a U
   have T:=M a (K a U)
   have I:(s.getD 0 default).1=a.1:=by rw [ea]
   refine Cw.any mixed (fun w2 t _=> ?_)
   refine Dc (fun w' =>Below k.heap.size k w') (fun hC=> ?_) (t)
   have C:=N.trans (t.mono (AA N))
   have R:=V.bs t
   have D:=J.bs t
   refine B8 (Bo Ck)<|Aj 0 O (fun k l=>Bt O) O<|Aj 1 O (fun k l=>A8 BI O O (A.bs l) 0 O H) O<|Aj 2 O (fun k l=>Ex.as (Be (BA _) O (A.bs l) H) I) O<|Aj 3 O (fun k l=>Cr underlying79 O (BU _)) O<|Aj 4 O (fun k l=>An (BD _) O (AK.bs ‹_› l) O) O<|Br ?_
   refine AR.only ‹_› (i:=5) (by kernel_rfl) O ?_
   rw [ga] at F
   refine Ai O O (LL a.1 a.2 x.n w2 D n0 (by have:=(EO T).2;omega)) ?_
   rintro y Y ⟨s_y,o⟩
   have hd3:Below k.heap.size k Y:=t.trans (o.mono t.size)
   have L:=C.trans (o.mono (AA C))
   have lG:G.length≤4:=by
    have:=(EO T).2
    rw [F];unfold Q5
    split
    ·simp
    ·split
     ·simp
     ·rw [length_eraseIdx];split<;>omega
   refine AR.back<|B8 (Bo Ck)<|Aj 6 O (fun k l=>B0 O) O<|Br<|AR.done ‹_› (by kernel_rfl) ?_
   refine Bb ?_
   exact Bv (y) ⟨rfl,trivial⟩ (⟨L,by rw [F];exact s_y,lG⟩)
  intro g13
  have g13:¬x.k=13#8:=AC g13
  exfalso
  have hs:(CI x.k).isSome=true:=by
   cases e:CI x.k with
   |some _=>rfl
   |none=>unfold DQ at E;rw [e] at E;cases E
  rcases PQ x.k hs with e|e|e|e|e|e|e|e|e|e|e|e|e
  ·exact g1 e
  ·exact g2 e
  ·exact g3 e
  ·exact g4 e
  ·exact g5 e
  ·exact g6 e
  ·exact g7 e
  ·exact g8 e
  ·exact g9 e
  ·exact g10 e
  ·exact g11 e
  ·exact g12 e
  ·exact g13 e
 rintro y w2 ⟨C,s_y,hG4⟩
 refine Ah<|Ad O<|Ai O O (Ii y G w2 s_y (by omega)) ?_
 rintro r Y ⟨o_r,o⟩
 refine Ai O O (Ja r G Y (AN o_r)) ?_
 rintro _ w4 ⟨rfl,hn4⟩
 refine Ab O<|Aq<|Am O O ?_
 have kr:=(AW.clip o_r).bs hn4
 have z2:=AA C
 exact ⟨kr.slT,(C.trans (o.mono (AA C))).trans (hn4.mono (by have:=o.size;omega)),fun b e=>by have:=kr.lt b e;omega⟩

instance:Inhabited N5:=⟨⟨0#8, .slice none 0 0, .slice none 0 0,[],[],0,0⟩⟩
theorem Dz (a:N5):a.cells.length=5:=rfl
structure GN (w:World) (v:Value) (ls:List N5):Prop where
 sl:Sl w 5 v ls.length (HT N5.cells ls)
 each:∀a ∈ ls,N5.at w a
theorem GN.bs {w w' :World} {v:Value} {ls:List N5} (h:GN w v ls) (g:Below w.heap.size w w'):GN w' v ls:=⟨h.sl.bs g,fun a b=>(h.each a b).bs g⟩
theorem GN.cells {w:World} {v:Value} {ls:List N5} (_h:GN w v ls) {i:Nat} (c:i<ls.length):∀k,k<5→∃q,(ls[i]).cells[k]? =some q∧(HT N5.cells ls)[i*5+k]? =some q:=fun k b=>by
 rw [Kh (fun a _=>Dz a) c b]
 exact ⟨_,getElem?_eq_getElem (by rw [Dz];exact b),getElem?_eq_getElem _⟩
def N3 (m:Nat) (l:List Int):Bool:=l.any fun n=>decide (n<0)||decide ((m:Int)≤n)
def Kq (acc:List (List Int)) (x:N5):Option (List Int):=
 if DQ x.k x.i x.s x.n x.p && !N3 acc.length x.i && Shapes.ok (FV x.k x.s x.n x.p (x.i.map fun j=>acc.getD j.toNat [])) then some (FV x.k x.s x.n x.p (x.i.map fun j=>acc.getD j.toNat [])) else none
def ED:List (List Int)→List N5→Option (List (List Int))
 |acc,[]=>some acc
 |acc,x::l=>match Kq acc x with
  |some s=>ED (acc++[s]) l
  |none=>none
def KN (k:BitVec 8):Bool:=match CI k with
 |some r=>decide (r.getD 1 0≠0)
 |none=>false
def EP (ls:List N5):Nat:=(ls.filter fun a=>decide (a.k=1#8)).length
def EU (ls:List N5):Option (List (List Int)):=
 if ls.length<1∨32<ls.length then none else match ED [] ls with
 |some ss=>if EP ls=1∧KN (ls.getD (ls.length - 1) default).k=true then some ss else none
 |none=>none
theorem RA (n:Int) (A m:Nat) (w:World) (a:AK w A 3 [.int .i64 (m:Int)]):AO prog 219 [.int .i64 n, .pointer (some ⟨A,0,none⟩)] w (fun r w' =>r= .bool (decide (n<0)||decide ((m:Int)≤n))∧w' =w):=by
 refine A5 (n:=11) func219 O<|Ah<|Ab O<|Au<|Ad O<|B9 O<|Ad O ?_
 refine Bw 6 O ?_ ?_
 ·intro g
  refine Ae (dj:=6) O O O O<|Ae (dj:=6) O O O O<|Ae (dj:=6) O O O O<|Bi O<|Ab O<|Aq<|Am O O ?_
  rw [g]
  exact ⟨rfl,rfl⟩
 intro g
 refine Af (dj:=6) O O<|Ad O<|Af (dj:=6) O O<|Aa (An (BD _) O ‹_› rfl) O ?_
 refine Af (dj:=6) O O<|Aa (Eu O O) O<|B6 O<|Ab O<|Aq<|Am O O ?_
 rw [g]
 exact ⟨rfl,rfl⟩
theorem Rf (v:Value) (l:List Int) (A m:Nat) (w:World) (o:BG (Value.int .i64) w v l) (d:AK w A 3 [.int .i64 (m:Int)]):AO prog 249 [v, .func (.func 219) #[] [.pointer (some ⟨A,0,none⟩)].toArray] w (fun r w' =>(∃j,r= .int .i64 j∧decide (0≤j)=N3 m l)∧w' =w):=by
 have s:=o.le
 refine A5 (n:=19) func249 O<|Ah<|Ab O<|Ba<|Ad O<|Aa (Ay AF O ‹_›) O ?_
 refine Ad O<|Ak<|Av ?_
 refine B4 (S:=Nat) (fun i=>[(0,v),(1, .func (.func 219) #[] [.pointer (some ⟨A,0,none⟩)].toArray),(7, .int .i64 (l.length:Int)),(8, .int .i64 (i:Int))]) (fun i w' =>i≤l.length∧N3 m (l.take i)=false∧w' =w) (fun i=>l.length - i) (0) ⟨rfl,rfl,rfl,rfl,trivial⟩ ?_ ?_
 ·exact ⟨Nat.zero_le _,rfl,rfl⟩
 rintro i h ⟨t,e,rfl⟩
 refine Ah<|B9 O<|Ak<|Ap<|Al O ?_ ?_
 ·intro c
  have a:i<l.length:=by have:=AE c;omega
  have k:N3 m (l.take (i+1))=(N3 m (l.take i)||(decide (l.getD i default<0)||decide ((m:Int)≤l.getD i default))):=by
   unfold N3
   rw [take_succ_eq_append_getElem a,any_append]
   simp [a]
  refine B2<|Ap<|Av<|Ah<|Ad O<|Ab O<|Au<|Ad O<|Ad O<|Ad O<|Aa (A8 AF O O ‹_› _ O (by omega)) O ?_
  refine Aa (Be (BD _) O ‹_› (by omega)) O ?_
  refine Eg (p:=[]) (q:=[.pointer (some ⟨A,0,none⟩)]) O O O (RA (l.getD i default) A m h d) ?_
  rintro _ _ ⟨rfl,rfl⟩
  refine Ak<|Al O ?_ ?_
  ·intro g
   refine Ah<|Ad O<|Ab O<|Aq<|Bd<|Ao<|Ao<|Bd<|Ao<|Am O O ?_
   refine ⟨⟨(i:Int),rfl, ?_⟩,rfl⟩
   have f:l.getD i default ∈ l:=IQ a
   have:N3 m l=true:=by unfold N3;exact List.any_eq_true.2 ⟨_,f,g⟩
   rw [this,decide_eq_true (by omega)]
  intro g
  refine B7<|Bb<|Cx<|Cn O (by omega)<|Ad O<|A7 ?_
  exact A3 (B1 (i+1) ⟨rfl,rfl,rfl,rfl,trivial⟩ (⟨a,by rw [k,e,g];rfl,rfl⟩) (by omega))
 intro b
 have a:i=l.length:=by have:=AC b;omega
 subst a
 rw [take_length] at e
 refine Bx<|A0<|A0<|Bh<|Cl<|Ab O<|Aq<|Am O O ?_
 exact ⟨⟨-1,rfl,by rw [e];rfl⟩,rfl⟩
theorem Rg (v:Value) (l:List Int) (A m:Nat) (w:World) (c:BG (Value.int .i64) w v l) (a:AK w A 3 [.int .i64 (m:Int)]):AO prog 218 [v, .func (.func 219) #[] [.pointer (some ⟨A,0,none⟩)].toArray] w (fun r w' =>r= .bool (N3 m l)∧Below w.heap.size w w'):=by
 refine A5 (n:=9) func218 O<|Ah<|Ab O<|Au<|Ad O<|Ad O<|Ai O O (Rf v l A m w c a) ?_
 rintro _ _ ⟨⟨j,rfl,b⟩,rfl⟩
 exact Aa (Eu rfl rfl) rfl<|Ab rfl<|Aq<|Am rfl rfl<|⟨cngA Value.bool b,Below.refl _ _⟩
theorem Qb (u:Value) (ps:List (Value×List Int)) (w:World) (a:BG (fun p:Value×List Int=>p.1) w u ps):AO prog 222 [u] w (fun r w' =>r=clip u∧Below w.heap.size w w'):=by
 refine A5 (n:=9) func222 O<|Ah<|Ab O<|Au<|Ad O<|Ad O<|Aa (Ay BI O ‹_›) O ?_
 refine Ad O<|Aa (Ay BI O ‹_›) O ?_
 exact Aa (Fj BI rfl rfl rfl a.shp) rfl<|Ab rfl<|Aq<|Am rfl rfl<|⟨rfl,Below.refl _ _⟩
theorem Kc {k:BitVec 8} {r:List Int} (h:CI k=some r):KD (b8 k) (kv r)∧(∀v,KD (b8 k) v→v=kv r)∧r.length=6:=by
 unfold CI at h
 cases hf:Ks.find? (fun p=>decide (p.2.1=(k.toNat:Int))) with
 |none=>rw [hf] at h;cases h
 |some p=>
  rw [hf] at h
  obtain rfl:p.2.2=r:=by simpa using h
  have a:=mem_of_find?_eq_some hf
  have b:p.2.1=(k.toNat:Int):=by have:=find?_some hf;simpa using this
  have g:∀p ∈ Ks,∀q ∈ Ks,p.2.1=q.2.1→p=q:=by decide
  have c:∀p ∈ Ks,p.2.2.length=6:=by decide
  refine ⟨⟨p,a,by rw [b],rfl⟩,fun v ⟨q,d,f,e⟩=> ?_,c p a⟩
  have:(k.toNat:Int)=q.2.1:=by injection f
  rw [e,g p a q d (b.trans this)]
theorem LG {k:BitVec 8} (h:CI k=none):∀v,¬KD (b8 k) v:=fun v ⟨q,b,c,_⟩=>by
 unfold CI at h
 have a:Ks.find? (fun p=>decide (p.2.1=(k.toNat:Int)))=none:=by simpa using h
 have:=List.find?_eq_none.1 a q b
 have e:(k.toNat:Int)=q.2.1:=by injection c
 simp [e] at this
theorem NW {l:List Int} (h:l.length=6):∃a b c d e f,l=[a,b,c,d,e,f]:=by
 match l,h with
 |[a,b,c,d,e,f],_=>exact ⟨a,b,c,d,e,f,rfl⟩
theorem EX {w w' :World} {M:Nat} {d:TypeDesc} {S:Value→Value→Prop} {r:Option Nat} (h:BF w M d S) (g:w.grownBy w' r) (a:some M≠r):BF w' M d S:=by
 have b:=h.lt
 obtain ⟨f,c,h,e⟩:=h
 exact ⟨f,c,by rw [g.block M b a];exact h,e⟩
abbrev J3:TypeId:=79
abbrev OB:TypeId:=275
def I7 (B:Nat) (w:World) (u:Value) (ps:List (Value×List Int)):Prop:=∀p ∈ ps,BG (Value.int .i64) w p.1 p.2∧∀b,p.1.ownBlock=some b→(B≤b∧b<w.heap.size)∧u.ownBlock≠some b
theorem I7.bs {B:Nat} {w w' :World} {u:Value} {ps:List (Value×List Int)} (h:I7 B w u ps) (g:Below w.heap.size w w'):I7 B w' u ps:=fun p a=>⟨(h p a).1.bs g,fun b e=>⟨⟨((h p a).2 b e).1.1,Nat.lt_of_lt_of_le ((h p a).2 b e).1.2 g.size⟩,((h p a).2 b e).2⟩⟩
theorem I7.by {B A:Nat} {w w' :World} {u:Value} {ps:List (Value×List Int)} (h:I7 B w u ps) (g:w.grownBy w' (some A)) (f:A<B):I7 B w' u ps:=fun p a=>
 ⟨(h p a).1.keep (fun b c e=>g.block b c (fun d=>by have:=((h p a).2 b e).1.1;cases d;omega)),fun b e=>⟨⟨((h p a).2 b e).1.1,Nat.lt_of_lt_of_le ((h p a).2 b e).1.2 g.size⟩,((h p a).2 b e).2⟩⟩
theorem I7.grow {B:Nat} {w w' :World} {u f:Value} {ps:List (Value×List Int)} (h:I7 B w u ps) (g:w.grownBy w' u.ownBlock) (c:f.ownBlock=u.ownBlock∨f.ownBlock=some w.heap.size):I7 B w' f ps:=fun p a=>
 ⟨(h p a).1.keep (fun b i e=>g.block b i (fun d=>((h p a).2 b e).2 d.symm)),fun b e=>⟨⟨((h p a).2 b e).1.1,Nat.lt_of_lt_of_le ((h p a).2 b e).1.2 g.size⟩,fun d=>by
  rcases c with c|c
  ·exact ((h p a).2 b e).2 (c ▸ d)
  ·rw [c] at d;have:=((h p a).2 b e).1.2;cases d;omega⟩⟩
theorem KU:∀(ls:List N5) (a c:List (List Int)),ED a ls=some c→∀x ∈ ls,DQ x.k x.i x.s x.n x.p=true
 |[],_,_,_,x,b=>by cases b
 |y::ls,a,c,h,x,b=>by
  unfold ED at h
  cases e:Kq a y with
  |none=>rw [e] at h;cases h
  |some s=>
   rw [e] at h
   rcases List.mem_cons.1 b with rfl|b
   ·unfold Kq at e
    split at e
    ·rename_i d
     simp only [Bool.and_eq_true] at d
     exact d.1.1
    ·cases e
   ·exact KU ls _ _ h x b
theorem Ni {k:BitVec 8} {i s:List Int} {n p:Int} (h:DQ k i s n p=true):∃a b c d e f,CI k=some [a,b,c,d,e,f]:=by
 unfold DQ at h
 split at h
 ·rename_i a b c d e f g;exact ⟨a,b,c,d,e,f,g⟩
 ·cases h
set_option maxHeartbeats 1000000 in
theorem Np (v:Value) (ls:List N5) (W:World) (h:GN W v ls):
  AO prog 135 [.agg [v].toArray] W (fun r w' =>Below W.heap.size W w' ∧match EU ls with
   |none=>r= .tuple #[.slice none 0 0, .int .i64 1]
   |some ss=>∃u ps,r= .tuple #[u, .int .i64 0]∧LI w' u ps∧AS ps=ss):=by
 obtain ⟨R,hR⟩:∃R,R=EU ls:=⟨_,rfl⟩
 rw [← hR]
 have o:=Below.refl W.heap.size W
 have L:=h.sl
 have hle:=h.sl.le
 refine A5 (n:=92) func135 O<|Ah<|Cv (cs:=[v]) O O O ?_
 rintro A_g w eA_g f hn -
 have o:=o.bs hn
 have L:=L.bs hn
 refine Ab O<|Ab O<|Au<|A6 underlying24 O (BW _)<|Aa (An (DH _) O ‹_› rfl) O ?_
 refine Aa (Ay BX O ‹_›) O ?_
 refine Ab O<|Ba<|Ad O<|B9 O<|Ad O ?_
 refine Bw 19 O ?_ ?_
 ·intro g
  have g:=AE g
  refine Ae (dj:=19) O O O O<|Ae (dj:=19) O O O O<|Bi O<|Ak<|Bn O<|Ah<|Ab O<|Ab O<|Bl<|Bj O O O ?_
  have hN:R=none:=by rw [hR,EU,if_pos (by omega)]
  rw [hN]
  exact ⟨o,rfl⟩
 intro g1
 have g1:=AC g1
 refine Af (dj:=19) O O<|Ad O<|Af (dj:=19) O O<|Aa (C1 O O) O<|B6 O<|Ak<|Al O ?_ ?_
 ·intro g
  have g:=AE g
  refine Ah<|Ab O<|Ab O<|Bl<|Bj O O O ?_
  have hN:R=none:=by rw [hR,EU,if_pos (by omega)]
  rw [hN]
  exact ⟨o,rfl⟩
 intro g2
 have g2:=AC g2
 have hgs:EU ls=match ED [] ls with|some ss=>if EP ls=1∧KN (ls.getD (ls.length - 1) default).k=true then some ss else none|none=>none:=by rw [EU,if_neg (by omega)]
 have hRn:ED [] ls=none→R=none:=fun e=>by rw [hR,hgs,e]
 have z1:=AA o
 have y_g:=AY f
 refine Ca<|Ai O O (PP w) ?_
 rintro _ w1 ⟨hn1,M,rfl,hMl,C⟩
 have yM:=C.lt
 have f:=f.bs hn1
 have o:=o.trans (hn1.mono z1)
 have z2:=hn1.size
 refine Aa (Bg (vs:=[]) (cs:=[.slice none 0 0]) O (by kernel_rfl)) O<|Ar (Dt QX) O ?_
 rintro _ w2 ⟨rfl,l,hn2,hz2⟩
 have f:=f.bs hn2
 have C:=C.bs hn2
 have o:=o.trans (hn2.mono (by omega))
 obtain ⟨A_t,hAt⟩:∃A_t,A_t=w1.heap.size:=⟨_,rfl⟩
 rw [← hAt] at l
 rw [← hAt]
 refine Ab O<|Ax (Ci (cs:=[.slice none 0 0]) (k:=1) (by kernel_rfl) O O O O l O) ?_
 rintro w3 ⟨l,hg3,hz3⟩
 have f:=f.by hg3 (by rintro ⟨⟩;omega)
 have C:=EX C hg3 (by rintro ⟨⟩;omega)
 have o:=o.grown hg3 (by omega) (by rintro _ ⟨⟩;omega)
 obtain ⟨B,hBd⟩:∃B,B=w3.heap.size:=⟨_,rfl⟩
 have yB:A_g<B∧M<B∧A_t<B∧W.heap.size≤B:=by omega
 clear L
 have L:=h.sl.bs o
 refine Ab O<|Ba<|A6 underlying24 O (BW _)<|Aa (An (DH _) O ‹_› rfl) O ?_
 refine Aa (Ay BX O ‹_›) O ?_
 refine Ad O<|Ak<|Av ?_
 refine B4 (S:=(Nat×Nat×Value×List (Value×List Int))) (fun z=>[(1, .pointer (some ⟨A_g,0,none⟩)),(4, .int .i64 (ls.length:Int)),(5, .map (some M)),(6, .pointer (some ⟨A_t,0,none⟩)),(7, .int .i64 (z.2.1:Int)),(26,v),(27, .int .i64 (ls.length:Int)),(28, .int .i64 (z.1:Int))]) (fun z w' =>z.1≤ls.length∧Below W.heap.size W w' ∧B≤w'.heap.size∧BF w' M (.int .u8) KD∧AK w' A_g 24 [v]∧AK w' A_t 273 [z.2.2.1]∧w'.ownsRow B 70 1 z.2.2.1 z.1 (z.2.2.2.map (·.1))∧I7 B w' z.2.2.1 z.2.2.2∧(∀p ∈ z.2.2.2,Shapes.ok p.2=true)∧ED (AS z.2.2.2) (ls.drop z.1)=ED [] ls∧z.2.1=EP (ls.take z.1)∧z.2.2.2.length=z.1∧z.2.1≤z.1) (fun z=>ls.length - z.1) ((0,0, .slice none 0 0,[])) ⟨rfl,rfl,rfl,rfl,rfl,rfl,rfl,rfl,trivial⟩ ?_ ?_
 ·exact ⟨Nat.zero_le _,o,by omega,C,f,l,⟨rfl, .inl ⟨rfl,rfl⟩⟩,(fun p hp=>by cases hp),(fun p hp=>by cases hp),rfl,rfl,rfl,AQ _⟩
 clear f l C L
 rintro ⟨i,c,u,ps⟩ w4 ⟨hi,o,zB,C,f,l,m,d,hok,hrec,hc,lps,hci⟩
 dsimp only at hi o zB C f l m d hok hrec hc lps hci ⊢
 have L:=h.sl.bs o
 have z4:=AA o
 have ub:=AD m
 have lps2:(AS ps).length=ps.length:=length_map _
 refine Ah<|B9 O<|Ak<|Ap<|Al O ?_ ?_
 ·intro g
  have U:i<ls.length:=by have:=AE g;omega
  obtain ⟨x,Y⟩:∃x,x=ls[i]:=⟨_,rfl⟩
  have hx:=(h.each x (Y ▸ getElem_mem U)).bs o
  have hcl:=h.cells U
  rw [← Y] at hcl
  have ed:ls.drop i=x::ls.drop (i+1):=by rw [drop_eq_getElem_cons U,← Y]
  have hstep:ED [] ls=match Kq (AS ps) x with|some s=>ED (AS ps++[s]) (ls.drop (i+1))|none=>none:=by rw [← hrec,ed];rfl
  have hno:Kq (AS ps) x=none→R=none:=fun e=>hRn (by rw [hstep,e])
  refine B2<|Ap<|Av<|Ah<|Ad O<|Aa (Dx BX O O L i O U) O<|Aa (Et (cs:=x.cells) (GM _) (GI _) O L O (by decide) hcl) O<|Ar (Dt DL) O ?_
  rintro _ w5 ⟨rfl,E,hn5,hz5⟩
  refine Ar (Dt GK) O ?_
  rintro _ w6 ⟨rfl,J,hn6,hz6⟩
  have E:=E.bs hn6
  obtain ⟨A_i,eAi⟩:∃A_i,A_i=w4.heap.size:=⟨_,rfl⟩
  obtain ⟨A_x,eAx⟩:∃A_x,A_x=w5.heap.size:=⟨_,rfl⟩
  rw [← eAi] at E
  rw [← eAx] at J
  rw [← eAi,← eAx]
  refine Ax (B5 (u:= .int .i64 (i:Int)) (BU _) O O O E Nat.zero_lt_one) ?_
  rintro w7 ⟨E,hg7,hz7⟩
  have J:=J.by hg7 (by rintro ⟨⟩;omega)
  refine Ax (Ci (cs:=x.cells) (k:=5) (by kernel_rfl) O O O hx.ones J O) ?_
  rintro w8 ⟨J,hg8,hz8⟩
  have E:=E.by hg8 (by rintro ⟨⟩;omega)
  have E:AK w8 A_i 3 [.int .i64 (i:Int)]:=E
  have H:Below w4.heap.size w4 w8:=((hn5.trans (hn6.mono (by omega))).grown hg7 (by omega) (by rintro _ ⟨⟩;omega)).grown hg8 (by omega) (by rintro _ ⟨⟩;omega)
  clear L
  have o:=o.trans (H.mono z4)
  have C:=C.bs H
  have f:=f.bs H
  have l:=l.bs H
  have m:=AG m H
  have d:=d.bs H
  have hx:=hx.bs H
  have h_i:=hx.i
  have z8:=H.size
  cases Z:CI x.k with
  |none=>
   refine Au<|Ad O<|A6 underlying79 O (FJ _)<|Aa (An (GO _) O ‹_› rfl) O ?_
   refine Aa (Ex.look2n underlying270 BO O O O C (show Tryz.prog.info? OB=some Tryz.t275 by kernel_rfl) O (LG Z)) O<|Ad O<|Aa (Ex.extract (i:=0) O O) O<|Aa (Ex.extract (i:=1) O O) O<|Ar (Dt FU) O ?_
   rintro _ w9 ⟨rfl,N,hn9,hz9⟩
   refine Ax (Ci (cs:=[0,0,0,0,0,0].map (Value.int .i64)) (k:=6) (by kernel_rfl) O O O O N O) ?_
   rintro w10 ⟨N,hg10,hz10⟩
   have o:=(o.trans (hn9.mono (by omega))).grown hg10 (by omega) (by rintro _ ⟨⟩;omega)
   refine Ab O<|Ba<|Ad O<|Aa (Cq O) O<|Ad O<|Cd 42 (v' := .bool true) O (cngA Value.bool (rfl))<|Ae (dj:=42) O O O O<|Ae (dj:=42) O O O O<|Ae (dj:=42) O O O O<|Ae (dj:=42) O O O O<|Bi O<|Ad O<|Ae (dj:=48) O O O O<|Ae (dj:=48) O O O O<|Ae (dj:=48) O O O O<|Ae (dj:=48) O O O O<|Bi O<|Ak<|Bn O<|Ah<|Ab O<|Ab O<|Bl<|Bd<|Ao<|Ao<|Bd<|Ao<|Bj O O O ?_
   have hN:R=none:=hno (by unfold Kq;rw [if_neg];unfold DQ;rw [Z];simp)
   rw [hN]
   exact ⟨o,rfl⟩
  |some row=>
   obtain ⟨k1,k2,k6⟩:=Kc Z
   obtain ⟨ra,rb,rc,rd,re,rf,rfl⟩:=NW k6
   refine Au<|Ad O<|A6 underlying79 O (FJ _)<|Aa (An (GO _) O ‹_› rfl) O ?_
   refine Aa (Ex.look2 underlying270 BO O O O C ⟨_,_,(show Tryz.prog.info? OB=some Tryz.t275 by kernel_rfl),rfl⟩ k1 k2) O<|Ad O<|Aa (Ex.extract (i:=0) O O) O<|Aa (Ex.extract (i:=1) O O) O<|Ar (Dt FU) O ?_
   rintro _ w9 ⟨rfl,N,hn9,hz9⟩
   refine Ax (Ci (cs:=[ra,rb,rc,rd,re,rf].map (Value.int .i64)) (k:=6) (by kernel_rfl) O O O O N O) ?_
   rintro w10 ⟨N,hg10,hz10⟩
   have t:Below w8.heap.size w8 w10:=hn9.grown hg10 hn9.size (by rintro _ ⟨⟩;omega)
   have o:=o.trans (t.mono (by omega))
   have C:=C.bs t
   have f:=f.bs t
   have l:=l.bs t
   have J:=J.bs t
   have E:=E.bs t
   have m:=AG m t
   have d:=d.bs t
   have hx:=hx.bs t
   have h_i:=hx.i
   have z10:=t.size
   refine Ab O<|Ba<|Ad O<|Aa (Cq O) O<|Ad O<|Cd 42 (v' := .bool false) O (cngA Value.bool (rfl))<|Af (dj:=42) O O<|Aa (Bu (k:=6) (DC _) (CZ _) O O N) O<|Af (dj:=42) O O<|Aa (Bu (k:=5) (GM _) (GI _) O O J) O<|Af (dj:=42) O O<|Ai O O (OC ra rb rc rd re rf x w10 hx) ?_
   rintro _ w11 ⟨rfl,A⟩
   have ekF:DQ x.k x.i x.s x.n x.p=EY ra rb rc rd re rf x.i x.s x.n x.p:=by unfold DQ;rw [Z]
   have o:=o.trans (A.mono (by omega))
   have C:=C.bs A
   have f:=f.bs A
   have l:=l.bs A
   have J:=J.bs A
   have E:=E.bs A
   have m:=AG m A
   have d:=d.bs A
   have hx:=hx.bs A
   have h_i:=hx.i
   have z11:=A.size
   rw [← ekF]
   refine Af (dj:=42) O O<|Aa (Cq O) O<|B6 O<|Ad O ?_
   refine Bw 48 O ?_ ?_
   ·intro gk
    have gk:DQ x.k x.i x.s x.n x.p=false:=by simpa using gk
    refine Ae (dj:=48) O O O O<|Ae (dj:=48) O O O O<|Ae (dj:=48) O O O O<|Ae (dj:=48) O O O O<|Bi O<|Ak<|Bn O<|Ah<|Ab O<|Ab O<|Bl<|Bd<|Ao<|Ao<|Bd<|Ao<|Bj O O O ?_
    have hN:R=none:=hno (by unfold Kq;rw [gk];rfl)
    rw [hN]
    exact ⟨o,rfl⟩
   intro gk
   have gk:DQ x.k x.i x.s x.n x.p=true:=by simpa using gk
   refine Af (dj:=48) O O<|A6 underlying79 O (BQ _)<|Af (dj:=48) O O<|Aa (An (BA _) O ‹_› rfl) O ?_
   refine Af (dj:=48) O O<|Aa (Ek (vs:=[]) (us:=[.pointer (some ⟨A_i,0,none⟩)]) O O) O<|Af (dj:=48) O O<|Ai O O (Rg x.x x.i A_i i w11 h_i E) ?_
   rintro _ w12 ⟨rfl,D⟩
   have o:=o.trans (D.mono (by omega))
   have C:=C.bs D
   have f:=f.bs D
   have l:=l.bs D
   have J:=J.bs D
   have m:=AG m D
   have d:=d.bs D
   have hx:=hx.bs D
   have z12:=D.size
   refine B6 O<|Ak<|Al O ?_ ?_
   ·intro gb
    refine Ah<|Ab O<|Ab O<|Bl<|Bd<|Ao<|Ao<|Bd<|Ao<|Bj O O O ?_
    have hN:R=none:=hno (by unfold Kq;rw [lps2,lps,gb,Bool.not_true,Bool.and_false];rfl)
    rw [hN]
    exact ⟨o,rfl⟩
   intro gb
   have hji:∀j ∈ x.i,0≤j∧j<(ps.length:Int):=fun j hj=>by
    unfold N3 at gb
    have:=List.any_eq_false.1 gb j hj
    simp at this
    omega
   have hps:LI w12 u ps:=⟨by have:=AN m;exact this,fun p hp=>(d p hp).1⟩
   refine B2<|Ap<|Ah<|A6 underlying79 O (FJ _)<|Aa (An (GO _) O ‹_› rfl) O ?_
   refine Aa (C3 O (show _=some (b8 (1#8)) from rfl)) O<|Ak ?_
   refine D8 (St:=Nat) (fun c' =>[(1, .pointer (some ⟨A_g,0,none⟩)),(4, .int .i64 (ls.length:Int)),(5, .map (some M)),(6, .pointer (some ⟨A_t,0,none⟩)),(7, .int .i64 (c' :Int)),(9, .pointer (some ⟨A_x,0,none⟩)),(26,v),(27, .int .i64 (ls.length:Int)),(28, .int .i64 (i:Int))]) (fun c' w' =>w' =w12∧c' =c+(if x.k=1#8 then 1 else 0)) ?_ ?_
   ·refine Al O ?_ ?_
    ·intro g1
     have g1:x.k=1#8:=AE g1
     refine A4<|Ad O<|Cn O (by omega)<|Ab O<|A7 ?_
     exact Bv ((c+1)) ⟨rfl,rfl,rfl,rfl,(cngA (fun z=>some (Value.int .i64 z)) (by omega)),rfl,rfl,rfl,rfl,trivial⟩ (⟨rfl,by rw [if_pos g1]⟩)
    intro g1
    have g1:¬x.k=1#8:=AC g1
    exact B7<|Bv (c) ⟨rfl,rfl,rfl,rfl,rfl,rfl,rfl,rfl,rfl,trivial⟩ (⟨rfl,by rw [if_neg g1,Nat.add_zero]⟩)
   rintro c' w12 ⟨rfl,hc'⟩
   refine Ah<|Aa (Bu (GM _) (GI _) O O ‹_›) O ?_
   refine Aa (Bu (Rp _) (QB _) O O ‹_›) O ?_
   refine Aa (Ek (vs:=[.agg [u].toArray]) (us:=[]) O O) O ?_
   have ub12:=AD m
   refine Ai O O (OJ x u ps w12 hx hps gk hji hok) ?_
   rintro y w13 ⟨T,K,y_own⟩
   obtain ⟨G,hGd⟩:∃G,G=FV x.k x.s x.n x.p (x.i.map fun j=>(AS ps).getD j.toNat []):=⟨_,rfl⟩
   have eG:FV x.k x.s x.n x.p (x.i.map fun j=>(ps.getD j.toNat default).2)=G:=by
    rw [hGd]
    congr 1
    refine map_congr_left fun j hj=> ?_
    have:=hji j hj
    rw [getD_eq_getElem?_getD,getD_eq_getElem?_getD,getElem?_map,getElem?_eq_getElem (by omega)];rfl
   rw [eG] at T
   have o:=o.trans (K.mono (by omega))
   have C:=C.bs K
   have f:=f.bs K
   have l:=l.bs K
   have m:=AG m K
   have d:=d.bs K
   have z13:=K.size
   refine Ab O<|Ba<|Ad O<|Ai O O (DD y G w13 T) ?_
   rintro _ w14 ⟨rfl,I⟩
   have o:=o.trans (I.mono (by omega))
   have C:=C.bs I
   have f:=f.bs I
   have l:=l.bs I
   have m:=AG m I
   have d:=d.bs I
   have T:=T.bs I
   have z14:=I.size
   refine Aa (Cq O) O<|Ak<|Al O ?_ ?_
   ·intro go
    have go:Shapes.ok G=false:=by simpa using go
    refine Ah<|Ab O<|Ab O<|Bl<|Bd<|Ao<|Ao<|Bd<|Ao<|Bj O O O ?_
    have hN:R=none:=hno (by unfold Kq;rw [← hGd,go,Bool.and_false];rfl)
    rw [hN]
    exact ⟨o,rfl⟩
   intro go
   have go:Shapes.ok G=true:=by simpa using go
   have e_st:Kq (AS ps) x=some G:=by
    unfold Kq;rw [← hGd,go,gk,lps2,lps]
    have:N3 i x.i=false:=by simpa using gb
    rw [this];rfl
   refine B2<|A4<|A6 underlying273 O (Iu _)<|Aa (An (LZ _) O ‹_› rfl) O ?_
   refine Ad O<|Ar (Ch (vs:=[y]) BI Mx O O O (by rw [all_cons,T.one'];rfl) O) O ?_
   rintro q w15 ⟨o_q, -,F, -⟩
   have o:=o.trans (F.mono (by omega))
   have C:=C.bs F
   have f:=f.bs F
   have l:=l.bs F
   have m:=AG m F
   have d:=d.bs F
   have T:=T.bs F
   have z15:=F.size
   have ub:=AD m
   refine Ar (Co (base:=B) BI Mx O (by decide) O O m (AH o_q) (by rw [all_cons,T.one'];rfl) (by omega) (by omega) (by omega)) O ?_
   rintro u' w16 ⟨Q,hn16,X,hcs⟩
   have C:=EX C X (fun e=>by have:=ub _ e.symm;omega)
   have f:=f.by X (fun e=>by have:=ub _ e.symm;omega)
   have l:=l.by X (fun e=>by have:=ub _ e.symm;omega)
   have hoff2:I7 B w15 u (ps++[(y,G)]):=fun p hp=>(List.mem_append.1 hp).elim (d p) (fun e=>by
    rw [List.mem_singleton.1 e]
    refine ⟨T,fun b e=> ?_⟩
    have h1:=y_own b e
    exact ⟨⟨by omega,by omega⟩,fun e2=>by have:=ub12 b e2;omega⟩)
   have d:=hoff2.grow X hcs
   have z16:=X.size
   have ub' :=AD Q
   have e1:ps.map (·.1)++[y]=(ps++[(y,G)]).map (·.1):=by rw [map_append];rfl
   rw [e1] at Q
   refine A6 underlying273 O (Iu _)<|Ax (B5 (u:=u') (Iu _) O O (AH Q).one' l Nat.zero_lt_one) ?_
   rintro w17 ⟨l,V,hz17⟩
   have C:=EX C V (fun e=>by have:=Option.some.inj e;omega)
   have f:=f.by V (fun e=>by have:=Option.some.inj e;omega)
   have d:=d.by V (by omega)
   have Q:=BE Q (fun k e=>V.block k (ub' k e).2 (fun e2=>by have:=ub' k e;have:=Option.some.inj e2;omega))
   have hBF:=(o.trans (hn16.mono (by omega))).grown V (by have:=hn16.size;omega) (by rintro _ e;have:=Option.some.inj e;omega)
   have hok' :∀p ∈ ps++[(y,G)],Shapes.ok p.2=true:=fun p hp=>(List.mem_append.1 hp).elim (hok p) (fun e=>by rw [List.mem_singleton.1 e];exact go)
   have hrec' :ED (AS (ps++[(y,G)])) (ls.drop (i+1))=ED [] ls:=by
    rw [hstep,e_st]
    have:AS (ps++[(y,G)])=AS ps++[G]:=by unfold AS;rw [map_append];rfl
    rw [this]
   have hcc:c' =EP (ls.take (i+1)):=by
    rw [hc',hc,take_succ_eq_append_getElem U,← Y]
    unfold EP
    rw [filter_append,length_append]
    by_cases e:x.k=1#8
    ·rw [if_pos e,filter_cons,decide_eq_true e];rfl
    ·rw [if_neg e,filter_cons,decide_eq_false e];rfl
   have hci' :c' ≤i+1:=by rw [hc'];split<;>omega
   refine A7<|Bb<|Cx<|Cn O (by omega)<|Ad O<|A7 ?_
   exact A3 (B1 ((i+1,c',u',ps++[(y,G)])) ⟨rfl,rfl,rfl,rfl,rfl,rfl,rfl,rfl,trivial⟩ (⟨U,hBF,by have:=hn16.size;omega,C,f,l,Q,d,hok',hrec',hcc,by rw [length_append,lps];rfl,hci'⟩) (by simp only;omega))
 intro g
 have U:i=ls.length:=by have:=AC g;omega
 subst U
 rw [drop_length] at hrec
 rw [take_length] at hc
 have hgr:ED [] ls=some (AS ps):=by rw [← hrec];rfl
 have hgf:R=if EP ls=1∧KN (ls.getD (ls.length - 1) default).k=true then some (AS ps) else none:=by rw [hR,hgs,hgr]
 obtain ⟨x,Y⟩:∃x,x=ls.getD (ls.length - 1) default:=⟨_,rfl⟩
 rw [← Y] at hgf
 have hl1:ls.length - 1<ls.length:=by omega
 have hxm:x=ls[ls.length - 1]:=by rw [Y,getD_eq_getElem?_getD,getElem?_eq_getElem hl1];rfl
 have hkx:=KU ls [] _ hgr x (hxm ▸ getElem_mem hl1)
 obtain ⟨ra,rb,rc,rd,re,rf,Z⟩:=Ni hkx
 obtain ⟨k1,k2, -⟩:=Kc Z
 have hlast:KN x.k=decide (rb≠0):=by unfold KN;rw [Z];rfl
 have ad:∃ad c k,v= .slice (some ad) c k:=by
  obtain ⟨_,ao,cap,e,d1,d2,d3,_⟩:=h.sl
  cases ao with
  |none=>have:=d3 rfl;omega
  |some ad=>exact ⟨ad,_,_,e⟩
 have ck:(HT N5.cells ls)[(ls.length - 1)*5+0]? =some (b8 x.k):=by
  rw [Kh (fun a _=>Dz a) hl1 (by decide),← hxm];rfl
 refine Bx<|A0<|A0<|Bh<|A3<|Cc<|Ap<|Ah<|Ad O<|A6 underlying24 O (BW _)<|Aa (An (DH _) O ‹_› rfl) O ?_
 refine Ad O<|Aa (Ex.as (Ej O O (by omega)) (cngA (Value.int .i64) (show (ls.length:Int) - 1=((ls.length - 1:Nat):Int) by omega))) O<|Aa (Dx BX O O L (ls.length - 1) O hl1) O<|Aa (Eb (q:=0) underlying79 O (FJ _) O ad) O<|Aa (Ex.ld (GO _) O L ck) O<|Aa (E5 underlying270 BO O O O C ⟨_,_,(show Tryz.prog.info? OB=some Tryz.t275 by kernel_rfl),rfl⟩ k1 k2) O<|Ar (Dt FU) O ?_
 rintro _ w5 ⟨rfl,N,hn5,hz5⟩
 have l:=l.bs hn5
 refine Ax (Ci (cs:=[ra,rb,rc,rd,re,rf].map (Value.int .i64)) (k:=6) (by kernel_rfl) O O O O N O) ?_
 rintro w6 ⟨N,hg6,hz6⟩
 have hn46:Below w4.heap.size w4 w6:=hn5.grown hg6 hn5.size (by rintro _ ⟨⟩;omega)
 have l:=l.by hg6 (by rintro ⟨⟩;omega)
 have o:=o.trans (hn46.mono z4)
 have m:=AG m hn46
 have d:=d.bs hn46
 refine Au<|Ad O<|Aa (Ct O O) O<|Ad O ?_
 refine Bw 84 O ?_ ?_
 ·intro gc
  have gc:¬EP ls=1:=fun e=>by rw [← hc] at e;subst e;simp at gc
  refine Ae (dj:=84) O O O O<|Ae (dj:=84) O O O O<|Ae (dj:=84) O O O O<|Bi O<|Ak<|Bn O<|Ah<|Ab O<|Ab O<|Bl<|Bj O O O ?_
  rw [hgf,if_neg (fun h=>gc h.1)]
  exact ⟨o,rfl⟩
 intro gc
 have gc:EP ls=1:=by rw [← hc];simp at gc;omega
 refine Af (dj:=84) O O<|A6 underlying275 O (BU _)<|Af (dj:=84) O O<|Aa (An (BD _) O N O) O<|Af (dj:=84) O O<|Aa (Ce O O) O<|B6 O<|Ak<|Al O ?_ ?_
 ·intro gm
  have gm:rb=0:=AE gm
  refine Ah<|Ab O<|Ab O<|Bl<|Bj O O O ?_
  rw [hgf,if_neg (fun h=>by rw [hlast,gm] at h;simp at h)]
  exact ⟨o,rfl⟩
 intro gm
 have gm:rb≠0:=AC gm
 refine Ca<|A6 underlying273 O (Iu _)<|Aa (An (LZ _) O ‹_› rfl) O ?_
 refine Ai O O (Qb u ps w6 (AN m)) ?_
 rintro _ w7 ⟨rfl,hn7⟩
 refine Ab O<|Ab O<|Aq<|Bj O O O ?_
 rw [hgf,if_pos ⟨gc,by rw [hlast];exact decide_eq_true gm⟩]
 exact ⟨o.trans (hn7.mono (AA o)),_,ps,rfl,⟨(Sl.clip (AN m)).bs hn7,fun p hp=>(d p hp).1.bs hn7⟩,rfl⟩
theorem Hw (v:Value) (ls:List N5) (W:World) (h:GN W v ls):
  AO prog 33 [.agg [v].toArray] W (fun r w' =>Below W.heap.size W w' ∧r= .bool (EU ls).isSome):=by
 have a:=Below.refl W.heap.size W
 refine A5 (n:=12) func33 O<|Ah<|Cv (cs:=[v]) O O O ?_
 rintro f w d g j -
 have a:=a.bs j
 refine Ab O<|Au<|Aa (Bu (DR _) (BZ _) O O ‹_›) O ?_
 refine Ai O O (Np v ls w (h.bs a)) ?_
 rintro r k ⟨c,b⟩
 have a:=a.trans (c.mono (AA a))
 cases e:EU ls with
 |none=>
  rw [e] at b
  obtain rfl:=b
  exact Ad rfl<|Aa (Ex.extract (i:=0) rfl rfl) rfl<|Aa (Ex.extract (i:=1) rfl rfl) rfl<|Ab rfl<|Ab rfl<|Au<|Ad rfl<|Aa (Ce rfl rfl) rfl<|Ab rfl<|Aq<|Am rfl rfl<|⟨a,rfl⟩
 |some ss=>
  rw [e] at b
  obtain ⟨u,ps,rfl, -, -⟩:=b
  exact Ad rfl<|Aa (Ex.extract (i:=0) rfl rfl) rfl<|Aa (Ex.extract (i:=1) rfl rfl) rfl<|Ab rfl<|Ab rfl<|Au<|Ad rfl<|Aa (Ce rfl rfl) rfl<|Ab rfl<|Aq<|Am rfl rfl<|⟨a,rfl⟩
def CT (ls:List N5):List Int:=((List.range ls.length).filter fun i=>decide ((ls.getD i default).k=2#8)).map fun i:Nat=>(i:Int)
theorem MC (ls:List N5) (i:Nat) (b:i<ls.length):CT (ls.take (i+1))=CT (ls.take i)++(if (ls.getD i default).k=2#8 then [(i:Int)] else []):=by
 have a:∀m,m≤ls.length→CT (ls.take m)=((List.range m).filter fun i=>decide ((ls.getD i default).k=2#8)).map fun i:Nat=>(i:Int):=fun m d=>by
  unfold CT
  rw [length_take,Nat.min_eq_left d]
  congr 1
  refine filter_congr fun j c=> ?_
  have:=List.mem_range.1 c
  have:(ls.take m).getD j default=ls.getD j default:=by rw [getD_eq_getElem?_getD,getElem?_take,if_pos this,← getD_eq_getElem?_getD]
  rw [this]
 rw [a _ b,a _ (Nat.le_of_lt b),range_succ,filter_append,map_append]
 congr 1
 by_cases e:(ls.getD i default).k=2#8
 ·rw [if_pos e,filter_cons,decide_eq_true e];rfl
 ·rw [if_neg e,filter_cons,decide_eq_false e];rfl
theorem IN (v:Value) (ls:List N5) (W:World) (h:GN W v ls) (hm:ls.length≤1000000):
  AO prog 34 [.agg [v].toArray] W (fun r w' =>Below W.heap.size W w' ∧AW w' W.heap.size 3 1 r (CT ls).length ((CT ls).map (Value.int .i64))):=by
 have c:=Below.refl W.heap.size W
 have e:=h.sl
 refine A5 (n:=23) func34 O<|Ah<|Cv (cs:=[v]) O O O ?_
 rintro J w G E H -
 have c:=c.bs H
 have e:=e.bs H
 refine Ab O<|Ba<|A6 underlying24 O (BW _)<|Aa (An (DH _) O ‹_› rfl) O ?_
 refine Aa (Ay BX O ‹_›) O ?_
 refine Ad O<|Ak<|Av ?_
 have Z:=AA c
 refine B4 (S:=(Nat×Value)) (fun z=>[(2,z.2),(6,v),(7, .int .i64 (ls.length:Int)),(8, .int .i64 (z.1:Int))]) (fun z w' =>z.1≤ls.length∧Below W.heap.size W w' ∧w'.ownsRow W.heap.size 3 1 z.2 (CT (ls.take z.1)).length ((CT (ls.take z.1)).map (Value.int .i64))) (fun z=>ls.length - z.1) ((0, .slice none 0 0)) ⟨rfl,rfl,rfl,rfl,trivial⟩ ?_ ?_
 ·exact ⟨Nat.zero_le _,c,⟨rfl, .inl ⟨rfl,rfl⟩⟩⟩
 clear E
 rintro ⟨i,u⟩ y ⟨N,c,a⟩
 dsimp only at N c a ⊢
 have e:=h.sl.bs c
 have F:=AA c
 refine Ah<|B9 O<|Ak<|Ap<|Al O ?_ ?_
 ·intro g
  have b:i<ls.length:=by have:=AE g;omega
  obtain ⟨x,o⟩:∃x,x=ls[i]:=⟨_,rfl⟩
  have B:ls.getD i default=x:=by rw [getD_eq_getElem?_getD,getElem?_eq_getElem b,o];rfl
  have Q:=(h.each x (o ▸ getElem_mem b)).bs c
  have t:=h.cells b
  rw [← o] at t
  have d:=MC ls i b
  rw [B] at d
  have X:(CT (ls.take i)).length≤i:=by
   unfold CT
   rw [length_map]
   refine Nat.le_trans (length_filter_le _ _) ?_
   rw [length_range,length_take];omega
  refine B2<|Ap<|Av<|Ah<|Ad O<|Aa (Dx BX O O e i O b) O<|Aa (Et (cs:=x.cells) (GM _) (GI _) O e O (by decide) t) O<|Ar (Dt GK) O ?_
  rintro _ T ⟨rfl,s,f,M⟩
  refine Ab O<|Ax (Ci (cs:=x.cells) (k:=5) (by kernel_rfl) O O O Q.ones s O) ?_
  rintro I ⟨s,C,R⟩
  have j:Below y.heap.size y I:=f.grown C f.size (by rintro _ ⟨⟩;omega)
  have c:=c.trans (j.mono F)
  have a:=AG a j
  have Y:=j.size
  refine Au<|A6 underlying79 O (FJ _)<|Aa (An (GO _) O ‹_› rfl) O ?_
  refine Aa (C3 O (show _=some (b8 (2#8)) from rfl)) O<|Ak<|Al O ?_ ?_
  ·intro p
   have p:x.k=2#8:=AE p
   rw [if_pos p] at d
   refine A4<|Ad O<|Ad O<|Ar (Ch (vs:=[(i:Int)].map (Value.int .i64)) AF DL O O O O O) O ?_
   rintro q U ⟨D, -,m, -⟩
   have a:=AG a m
   have V:=m.size
   refine Ar (Dj (base:=W.heap.size) AF DL O (by decide) O O a (AH D) (CH (fun _=>rfl) _) (by omega) (by omega) (by omega)) O ?_
   rintro L w5 ⟨l,A, -⟩
   have K:(CT (ls.take i)).length+1=(CT (ls.take (i+1))).length:=by rw [d,length_append];rfl
   rw [← map_append,← d,K] at l
   refine Ab O<|A7<|Bb<|Cx<|Cn O (by omega)<|Ad O<|A7 ?_
   exact A3 (B1 ((i+1,L)) ⟨rfl,rfl,rfl,rfl,trivial⟩ (⟨b,(c.trans (m.mono (by omega))).trans A,l⟩) (by simp only;omega))
  intro p
  have p:¬x.k=2#8:=AC p
  rw [if_neg p,append_nil] at d
  refine B7<|Bb<|Cx<|Cn O (by omega)<|Ad O<|A7 ?_
  exact A3 (B1 ((i+1,u)) ⟨rfl,rfl,rfl,rfl,trivial⟩ (⟨b,c,by rw [d];exact a⟩) (by simp only;omega))
 intro g
 have b:i=ls.length:=by have:=AC g;omega
 subst b
 rw [take_length] at a
 refine Bx<|A0<|A0<|Bh<|Cl<|Ad O<|Ai O O (Ja u (CT ls) y (AN a)) ?_
 rintro _ T ⟨rfl,f⟩
 exact Ab rfl<|Aq<|Am rfl rfl<|⟨c.trans (f.mono F),(AW.clip a).bs f⟩
theorem LM (v:Value) (ls:List N5) (W:World) (h:GN W v ls) (a:ls.length≤1000000):
  AO prog 34 [.agg [v].toArray] W (fun r w' =>Below W.heap.size W w' ∧BG (Value.int .i64) w' r (CT ls)):=(IN v ls W h a).mono fun _ _ ⟨c,b⟩=>⟨c,b.slT⟩
end Go.Proofs.YtblbopcaflaldaaGreatDoor

namespace Go.Proofs.YtblbopcaflaldaaGreatDoor
open Go Go.Dd Go.RowKit List
set_option maxRecDepth 100000
abbrev PV:=List Int×List (BitVec 32)
def pv (t:T4):PV:=(t.s,t.l)
def La (t:PV) (s:List Int):Bool:=Px t.1 t.2 && decide (t.1=s)
def N7:List PV→List N5→Bool
 |_,[]=>true
 |[],_::_=>false
 |t::ts,x::xs=>La t x.s && N7 ts xs
abbrev F2 (ls:List N5):List N5:=ls.filter fun a=>decide (a.k=2#8)
theorem JO (ls:List N5):(CT ls).map (fun j=>ls.getD j.toNat default)=F2 ls:=by
 unfold CT
 rw [map_map]
 have e:ls=(List.range ls.length).map fun i=>ls.getD i default:=by
  refine ext_getElem (by simp) fun i a c=> ?_
  simp [a]
 conv=>rhs;unfold F2;rw [e,filter_map]
 have b:((fun j:Int=>ls.getD j.toNat default)∘fun i:Nat=>(i:Int))=fun i=>ls.getD i default:=by funext i;simp
 rw [b];rfl
theorem N8 {ls:List N5} {j:Nat} (a:j<(CT ls).length):∃i:Nat,i<ls.length∧(CT ls).getD j default=(i:Int)∧∃b:j<(F2 ls).length,(F2 ls)[j]=ls.getD i default:=by
 have d:(CT ls)[j] ∈ CT ls:=getElem_mem a
 obtain ⟨i,c,e⟩:=List.mem_map.1 (show (CT ls)[j] ∈ ((List.range ls.length).filter fun i=>decide ((ls.getD i default).k=2#8)).map fun i:Nat=>(i:Int) from d)
 have c:=List.mem_range.1 (List.mem_filter.1 c).1
 have b:j<(F2 ls).length:=by rw [← JO,length_map];exact a
 refine ⟨i,c,by rw [getD_eq_getElem?_getD,getElem?_eq_getElem a];exact e.symm,b, ?_⟩
 have:(F2 ls)[j]? =some (ls.getD i default):=by
  rw [← JO,getElem?_map,getElem?_eq_getElem a,← e];simp
 rw [getElem?_eq_getElem b] at this
 exact Option.some.inj this
theorem Im:∀{ws:List PV} {xs:List N5},ws.length=xs.length→(N7 ws xs=true↔∀i (h:i<xs.length),La (ws.getD i ([],[])) xs[i].s=true)
 |[],[],_=>⟨fun _ i h=>absurd h (by simp),fun _=>rfl⟩
 |t::ws,x::xs,hl=>by
  have b:=Im (ws:=ws) (xs:=xs) (by simpa using hl)
  show (La t x.s && N7 ws xs)=true↔_
  rw [Bool.and_eq_true,b]
  constructor
  ·rintro ⟨d,c⟩ i a
   cases i with
   |zero=>exact d
   |succ i=>exact c i (by simpa using a)
  ·intro h
   exact ⟨h 0 (by simp),fun i a=>h (i+1) (by simpa using a)⟩
theorem Mz {ls:List N5} {a:List (List Int)} (h:EU ls=some a):ls.length≤32:=by
 unfold EU at h
 split at h
 ·cases h
 ·omega
end Go.Proofs.YtblbopcaflaldaaGreatDoor

namespace Go.Proofs.YtblbopcaflaldaaGreatDoor
open Go Go.Dd Go.RowKit List Go.Proofs.Tryz
set_option maxRecDepth 100000
def gf (l:List (BitVec 8)):BitVec 32:=PM (l.getD 0 default) (l.getD 1 default) (l.getD 2 default) (l.getD 3 default)
theorem M1 {l:List (BitVec 8)} (h:4≤l.length):EA l=gf l::EA (l.drop 4):=by
 have:=MS l 0 (by omega)
 simpa [gf] using this
theorem OO (v:Value) (l:List (BitVec 8)) (w:World) (c:BG b8 w v l) (d:4≤l.length):AO prog 153 [v] w (fun r w' =>r=u32 (gf l)∧Below w.heap.size w w'):=by
 refine A5 (n:=25) func153 O<|Ah<|Aa (B0 (show _=some (u32 (0#32)) from rfl)) O<|Ak<|Ap<|D3 mixed (by kernel_rfl)<|Bz O<|As (fun b a=>A8 AV O O (Sl.bs ‹_› a) 0 O (by omega)) O ?_
 refine As (fun b a=>Be (LY _) O (Sl.bs ‹_› a) (by omega)) O ?_
 refine As (fun b a=>D6 MG Jr O) O<|Bz O<|As (fun b a=>A8 AV O O (Sl.bs ‹_› a) 1 O (by omega)) O ?_
 refine As (fun b a=>Be (LY _) O (Sl.bs ‹_› a) (by omega)) O ?_
 refine As (fun b a=>D6 MG Jr O) O<|As (fun b a=>Fo (j:=8) O O (by decide)) O<|As (fun b a=>Ga O O) O<|Bz O<|As (fun b a=>A8 AV O O (Sl.bs ‹_› a) 2 O (by omega)) O ?_
 refine As (fun b a=>Be (LY _) O (Sl.bs ‹_› a) (by omega)) O ?_
 refine As (fun b a=>D6 MG Jr O) O<|As (fun b a=>Fo (j:=16) O O (by decide)) O<|As (fun b a=>Ga O O) O<|Bz O<|As (fun b a=>A8 AV O O (Sl.bs ‹_› a) 3 O (by omega)) O ?_
 refine As (fun b a=>Be (LY _) O (Sl.bs ‹_› a) (by omega)) O ?_
 refine As (fun b a=>D6 MG Jr O) O<|As (fun b a=>Fo (j:=24) O O (by decide)) O<|As (fun b a=>Ga O O) O<|Ea O ?_
 refine Dp (fun b a=> ?_)
 exact A3<|Cc<|El<|Am rfl rfl<|⟨rfl,a⟩
theorem JB (v:Value) (l:List (BitVec 8)) (w:World) (b:BG b8 w v l):AO prog 49 [v] w (fun r w' =>r= .tuple #[u32 (if l.length<4 then 0#32 else gf l), .int .i64 (if l.length<4 then 5 else 0)]∧Below w.heap.size w w'):=by
 refine A5 (n:=9) func49 O<|Ah<|Aa (B0 (show _=some (u32 (0#32)) from rfl)) O<|Ab O<|Ba<|Ad O<|Aa (Ay AV O ‹_›) O ?_
 refine B9 O<|Ak<|Al O ?_ ?_
 ·intro g
  have a:l.length<4:=by have:=AE g;omega
  exact Ah<|Aa (B0 (show _=some (u32 (0#32)) from rfl)) rfl<|Ab rfl<|Bl<|Bj rfl rfl rfl<|⟨by rw [if_pos a,if_pos a],Below.refl _ _⟩
 intro g
 have a:¬l.length<4:=by have:=AC g;omega
 refine Ca<|Ad O<|Ai O O (OO v l w b (by omega)) ?_
 rintro _ d ⟨rfl,c⟩
 exact Ab rfl<|Ab rfl<|Aq<|Bj rfl rfl rfl<|⟨by rw [if_neg a,if_neg a],c⟩
theorem Nr (k:Nat) (w:World) (f:k≤16777216):AO prog 160 [.slice none 0 0, .int .i64 (k:Int)] w (fun r w' =>w'.ownsRow w.heap.size 5 1 r 0 []∧Below w.heap.size w w'):=by
 have a:=Cs w 1
 refine A5 (n:=27) func160 O<|Ah<|Ab O<|Ba<|Ad O<|B9 O<|Ak<|Cm O false (by simp)<|B2<|Ap<|Ah<|Ad O<|Ad O<|Aa (F0 AV O) O<|Ad O<|Aa (Ay AV O ‹_›) O ?_
 refine Aa (Ej O O (by omega)) O<|Aa (Ej O O (by omega)) O<|Ab O<|Au<|Ad O<|Aa (C1 O O) O<|Ak<|Al O ?_ ?_
 ·intro g
  have d:0<k:=by have:=AE g;omega
  refine A4<|Ad O<|Ad O<|Aa (F0 AV O) O<|Aa (Ex.as (u:= .slice none 0 0) (E8 (j:=0) AV O O a (AQ 0)) O) O<|Aa (Ex.as (u:= .int .i64 (k:Int)) (Bt O) (cngA (Value.int .i64) (by omega))) O<|Ar (Xw.grow0 (tn:=3) (kn:= .i64) AV IK O (by decide) H7 O O d (by omega) (by omega)) O ?_
  rintro v b ⟨cap,xs,rfl,c,e⟩
  have a:=Cs b 1
  refine Ad O<|Aa (Ay AV O ‹_›) O ?_
  exact Aa (Ex.extH (j:=0) AV rfl rfl (Nat.zero_le cap)) rfl<|Ab rfl<|Au<|Ad rfl<|Ab rfl<|Aq<|Am rfl rfl<|⟨HC (k:=0) (m:=k) (xs:=[]) (by simpa using c) rfl,e⟩
 ·intro g
  exact Ca<|Ad rfl<|Ab rfl<|Aq<|Am rfl rfl<|⟨⟨rfl, .inl ⟨rfl,rfl⟩⟩,Below.refl _ _⟩
theorem LQ (v:Value) (ps:List (Value×List (BitVec 8))) (w:World) (m:BG (fun p:Value×List (BitVec 8)=>p.1) w v ps) (y:∀p ∈ ps,BG (b8) w p.1 p.2) (s:(ps.map (·.2)).flatten.length≤16777216):
  AO prog 56 [v] w (fun r w' =>w'.ownsRow w.heap.size 5 1 r (ps.map (·.2)).flatten.length ((ps.map (·.2)).flatten.map (b8))∧Below w.heap.size w w'):=by
 have A:=m.le
 have c:∀i,i<ps.length→BG (b8) w (ps.getD i default).1 (ps.getD i default).2:=fun i l=>y _ (IQ l)
 refine A5 (n:=36) func56 O<|Ah<|Ab O<|Au<|Ab O<|Ba<|Ad O<|Aa (Ay EN O ‹_›) O ?_
 refine Ad O<|Ak<|Av ?_
 refine B4 (S:=Nat) (fun i=>[(0,v),(3, .int .i64 ((((ps.take i).map (·.2)).flatten.length:Nat):Int)),(9,v),(10, .int .i64 (ps.length:Int)),(11, .int .i64 (i:Int))]) (fun i w' =>i≤ps.length∧w' =w) (fun i=>ps.length - i) (0) ⟨rfl,rfl,rfl,rfl,rfl,trivial⟩ ?_ ?_
 ·exact ⟨by omega,rfl⟩
 rintro i e ⟨l,rfl⟩
 refine Ah<|B9 O<|Ak<|Ap<|Al O ?_ ?_
 ·intro h
  have a:i<ps.length:=by simp at h;omega
  have q:=c i a
  have t:=Pc (ps:=ps) (i+1)
  have j:=Ld a
  have k:=cngA length j
  rw [length_append] at k
  refine B2<|Ap<|Av<|Ah<|Aa (A8 EN O O ‹_› _ O (by omega)) O ?_
  refine Aa (Be (GP _) O ‹_› (by omega)) O ?_
  refine Ab O<|Au<|Ad O<|Ad O<|Aa (Ay AV O ‹_›) O ?_
  refine Cn O (by omega)<|Ab O<|Au<|Ad O<|B9 O<|Ak<|Cm O false (by simp;omega)<|B7<|Bb<|Cx<|Cn O (by omega)<|Ad O<|A7 ?_
  exact A3 (B1 (i+1) ⟨rfl,(cngA (fun x=>some (Value.int .i64 x)) (by omega)),rfl,rfl,rfl,trivial⟩ (⟨a,rfl⟩) (by omega))
 intro h
 have a:i=ps.length:=by simp at h;omega
 subst a
 rw [take_length]
 refine Bx<|A0<|A0<|Bh<|Cl<|Ad O<|Ai O O (Nr _ e s) ?_
 rintro x B ⟨d,b⟩
 have g:=m.bs b
 refine Ab O<|Ba<|Ad O<|Aa (Ay EN O ‹_›) O ?_
 refine Ad O<|Ak<|Av ?_
 refine B4 (S:=(Nat×Value)) (fun z=>[(0,v),(6,z.2),(25,v),(26, .int .i64 (ps.length:Int)),(27, .int .i64 (z.1:Int))]) (fun z w' =>z.1≤ps.length∧w'.ownsRow e.heap.size 5 1 z.2 ((ps.take z.1).map (·.2)).flatten.length (((ps.take z.1).map (·.2)).flatten.map (b8))∧Below e.heap.size e w') (fun z=>ps.length - z.1) ((0,x)) ⟨rfl,rfl,rfl,rfl,rfl,trivial⟩ ?_ ?_
 ·exact ⟨Nat.zero_le _,by simpa using d,b⟩
 clear d b g
 rintro ⟨i,x⟩ B ⟨l,d,b⟩
 dsimp only at l d ⊢
 have g:=m.bs b
 refine Ah<|B9 O<|Ak<|Ap<|Al O ?_ ?_
 ·intro h
  have a:i<ps.length:=by simp at h;omega
  have q:=(c i a).bs b
  have t:=Pc (ps:=ps) (i+1)
  have j:=Ld a
  have k:=cngA length j
  rw [length_append] at k
  refine B2<|Ap<|Av<|Ah<|Aa (A8 EN O O ‹_› _ O (by omega)) O ?_
  refine Aa (Be (GP _) O ‹_› (by omega)) O ?_
  refine Ab O<|Ak<|A4<|Ad O<|Ad O<|Ar (Dj (base:=e.heap.size) AV IK O (by decide) O O d q (CH (fun _=>rfl) _) (by omega) (by omega) b.size) O ?_
  rintro u C ⟨f,o, -⟩
  rw [← map_append,← j,← k] at f
  refine Ab O<|A7<|Bb<|Cx<|Cn O (by omega)<|Ad O<|A7 ?_
  exact A3 (B1 ((i+1,u)) ⟨rfl,rfl,rfl,rfl,rfl,trivial⟩ (⟨a,f,b.trans o⟩) (by simp only;omega))
 intro h
 have a:i=ps.length:=by simp at h;omega
 subst a
 rw [take_length] at d
 exact Bx<|A0<|A0<|Bh<|Cl<|Ad rfl<|Ab rfl<|Aq<|Am rfl rfl<|⟨d,b⟩
theorem RF (v u:Value) (lb:List (BitVec 8)) (l:List (BitVec 32)) (w:World) (I:BG b8 w v lb) (p:BG u32 w u l) (L:lb.length+4*l.length≤16777216):
  AO prog 144 [v,u] w (fun r w' =>w'.ownsRow w.heap.size 5 1 r (lb++CG l).length ((lb++CG l).map b8)∧Below w.heap.size w w'):=by
 refine A5 (n:=42) func144 O<|Ah<|Ab O<|Au<|Ad O<|Aa (Ay AV O ‹_›) O ?_
 refine Ad O<|Aa (Ay AV O ‹_›) O ?_
 refine Ad O<|Aa (Ay JS O ‹_›) O ?_
 refine Aa (Eo O O (by omega)) O<|Aa (Ex.as (u:= .int .i64 ((lb.length+4*l.length:Nat):Int)) (D7 O O (by omega)) (cngA (Value.int .i64) (by omega))) O<|Ar (F1 AV IK O O O (by omega) (by omega) (by omega)) O ?_
 rintro x C ⟨d, -,f, -⟩
 have k:=I.bs f
 refine Ab O<|Au<|Ad O<|Ad O<|Ar (Xw.copy AV O O O d k (AQ _) (CH (fun _=>rfl) _)) O ?_
 rintro _ A ⟨rfl,g,s, -⟩
 have B:(replicate lb.length [Value.int .u8 0]).flatten.drop lb.length=[]:=by
  rw [I2 (enc:=Value.int .u8) (z:=0)];simp
 rw [B,append_nil] at g
 have a:Below w.heap.size w A:=f.grown s (AA f) fun b e=>(AD d b e).1
 clear d f k s
 have o:=p.bs a
 refine Ba<|Ad O<|Aa (Ay JS O ‹_›) O ?_
 refine Ad O<|Ak<|Av ?_
 refine B4 (S:=(Nat×Value)) (fun z=>[(1,u),(5,z.2),(20,u),(21, .int .i64 (l.length:Int)),(22, .int .i64 (z.1:Int))]) (fun z w' =>z.1≤l.length∧w'.ownsRow w.heap.size 5 1 z.2 (lb++CG (l.take z.1)).length ((lb++CG (l.take z.1)).map b8)∧Below w.heap.size w w') (fun z=>l.length - z.1) ((0,x)) ⟨rfl,rfl,rfl,rfl,rfl,trivial⟩ ?_ ?_
 ·exact ⟨Nat.zero_le _,by simpa [CG] using g,a⟩
 clear g a o
 rintro ⟨i,x⟩ C ⟨H,d,f⟩
 dsimp only at H d ⊢
 have D:=p.bs f
 have J:=p.le
 refine Ah<|B9 O<|Ak<|Ap<|Al O ?_ ?_
 ·intro h
  have c:i<l.length:=by simp at h;omega
  have t:(lb++CG (l.take i))++Crc.four (l.getD i default)=lb++CG (l.take (i+1)):=by
   rw [take_succ_eq_append_getElem c,Kg,append_assoc]
   simp [CG,c]
  have F:(lb++CG (l.take i)).length+4=(lb++CG (l.take (i+1))).length:=by
   have:=cngA length t
   simp [Crc.four] at this ⊢
   omega
  have M:(lb++CG (l.take (i+1))).length≤16777216:=by rw [length_append,JC,length_take];omega
  refine B2<|Ap<|Av<|Ah<|Aa (A8 JS O O ‹_› _ O (by omega)) O ?_
  refine Aa (Be (Qy _) O ‹_› (by omega)) O ?_
  refine Ab O<|Ak<|A4<|Ad O<|Ad O<|Aa (C0 FQ It O) O<|Ad O<|Aa (Dv (j:=8) O O (by decide)) O<|Aa (C0 FQ It O) O<|Ad O<|Aa (Dv (j:=16) O O (by decide)) O<|Aa (C0 FQ It O) O<|Ad O<|Aa (Dv (j:=24) O O (by decide)) O<|Aa (C0 FQ It O) O<|Ar (Ch (vs:=(Crc.four (l.getD i default)).map b8) AV IK O O O O O) O ?_
  rintro y A ⟨G, -,a, -⟩
  have d:=AG d a
  refine Ar (Dj (base:=w.heap.size) AV IK O (by decide) O O d (AH G) (CH (fun _=>rfl) _) (by omega) (by omega) (bt f a).size) O ?_
  rintro E K ⟨m,q, -⟩
  rw [← map_append,t,F] at m
  refine Ab O<|A7<|Bb<|Cx<|Cn O (by omega)<|Ad O<|A7 ?_
  exact A3 (B1 ((i+1,E)) ⟨rfl,rfl,rfl,rfl,rfl,trivial⟩ (⟨c,m,(bt f a).trans q⟩) (by simp only;omega))
 intro h
 have c:i=l.length:=by simp at h;omega
 subst c
 rw [take_length] at d
 exact Bx<|A0<|A0<|Bh<|Cl<|Ad rfl<|Ab rfl<|Aq<|Am rfl rfl<|⟨d,f⟩
end Go.Proofs.YtblbopcaflaldaaGreatDoor

namespace Go.Proofs.YtblbopcaflaldaaGreatDoor
open Go Go.Dd Go.RowKit List
set_option maxRecDepth 100000
end Go.Proofs.YtblbopcaflaldaaGreatDoor

namespace Go.Proofs.YtblbopcaflaldaaGreatDoor
open Go Go.Dd Go.RowKit List Go.Proofs.Tryz
set_option maxRecDepth 100000
def FR (k:Nat):List Value:=(List.range k).map fun n=>u32 (Crc.tab (BitVec.ofNat 8 n))
theorem Kv:∃zv,(∀w,(zeroValue 287).run prog w= .ok zv w)∧zv.cells=(replicate 256 (Value.int .u32 0)).toArray:=
 ⟨.agg (replicate 256 (Value.int .u32 0)).toArray,fun w=>by kernel_rfl,rfl⟩
theorem NP (k:Nat) (c:k<256):(FR k++replicate (256 - k) (Value.int .u32 0)).set k (u32 (Crc.tab (BitVec.ofNat 8 k)))=FR (k+1)++replicate (256 - (k+1)) (Value.int .u32 0):=by
 have a:(FR k).length=k:=by simp [FR]
 have b:256 - k=(256 - (k+1))+1:=by omega
 rw [set_append_right _ _ (by omega),a,Nat.sub_self,b,replicate_succ,set_cons_zero]
 simp [FR,range_succ]
theorem P3 (w:World):AO prog 229 [] w (fun r w' =>r= .agg (FR 256).toArray∧Below w.heap.size w w'):=by
 obtain ⟨zv,t,p⟩:=Kv
 refine A5 (n:=22) func229 O<|Ah<|Ar (Xw.alloc (t _) p) O ?_
 rintro _ l ⟨rfl,g,f,u⟩
 refine Ba<|Aa (Bt (show _=some (u32 (0#32)) from rfl)) O<|Ak<|Av ?_
 refine B4 (S:=Nat) (fun k=>[(0, .pointer (some ⟨w.heap.size,0,none⟩)),(3,u32 (BitVec.ofNat 32 k))]) (fun k w' =>k≤256∧AK w' w.heap.size 287 (FR k++replicate (256 - k) (.int .u32 0))∧Below w.heap.size w w') (fun k=>256 - k) (0) ⟨rfl,rfl,trivial⟩ ?_ ?_
 ·exact ⟨by omega,g,f⟩
 clear g f u l
 rintro k l ⟨y,g,f⟩
 have d:(BitVec.ofNat 32 k).toNat=k:=by simp;omega
 refine Ah<|B9 O<|Ak<|Ap<|Al O ?_ ?_
 ·intro h
  refine B2<|Ap<|Av<|Ah<|Ad O<|Ab O<|Au<|Ad O<|Ab O<|Ba<|Ad O<|Ak<|Av ?_
  refine B4 (S:=Nat) (fun j=>[(0, .pointer (some ⟨w.heap.size,0,none⟩)),(1,u32 (BitVec.ofNat 32 k)),(2,u32 (Crc.iter j (BitVec.ofNat 32 k))),(3,u32 (BitVec.ofNat 32 k)),(7, .int .i64 (j:Int))]) (fun j w' =>j≤8∧w' =l) (fun j=>8 - j) (0) ⟨rfl,rfl,rfl,rfl,rfl,trivial⟩ ?_ ?_
  ·exact ⟨by omega,rfl⟩
  rintro j _ ⟨z,rfl⟩
  refine Ah<|B9 O<|Ak<|Ap<|Al O ?_ ?_
  ·intro c
   have b:j<8:=by simp at c;omega
   refine B2<|Ap<|Av<|A4<|Ad O<|Aa (Dv (j:=1) O O (by decide)) O<|Ad O<|Aa (Gq O (show _=some (u32 (1#32)) from rfl)) O<|Aa (Ex.neg32 O) O<|Aa (Gq (show _=some (u32 (3988292384#32)) from rfl) O) O<|Aa (Gj O O) O<|Ab O<|A7<|Bb<|Cx<|Cn O (by omega)<|Ad O<|A7 ?_
   exact A3 (B1 (j+1) ⟨rfl,rfl,(by rw [Crc.iter_succ',← Crc.bit_prog];rfl),rfl,rfl,trivial⟩ (⟨by omega,rfl⟩) (by omega))
  ·intro c
   have b:j=8:=by simp at c;omega
   have a:k<256:=by simp [d] at h;omega
   refine Bx<|A0<|A0<|Bh<|Cx<|Ad O<|Ad O<|Aa (Ex.idxB NG NQ O O k (by rw [d]) a) O<|Ax (B5 (NQ _) O O O g (by simp [FR];omega)) ?_
   rintro x ⟨e,o,q⟩
   refine A7<|Bb<|Cx<|Aa (Ex.add32 O (show _=some (u32 (1#32)) from rfl)) O<|Ad O<|A7 ?_
   have v:(BitVec.ofNat 32 k)+1#32=BitVec.ofNat 32 (k+1):=by apply BitVec.eq_of_toNat_eq;simp
   have s:u32 (Crc.iter 8 (BitVec.ofNat 32 k))=u32 (Crc.tab (BitVec.ofNat 8 k)):=by
    have:BitVec.ofNat 32 k=(BitVec.ofNat 8 k).setWidth 32:=by apply BitVec.eq_of_toNat_eq;simp;omega
    rw [this];rfl
   rw [b,s,Nat.zero_add,Nat.mul_one,NP k a] at e
   exact A3 (B1 (k+1) ⟨rfl,(by rw [v];rfl),trivial⟩ (⟨by omega,e,f.grown o (AA f) (by rintro _ ⟨⟩;exact AQ _)⟩) (by omega))
 ·intro h
  have a:k=256:=by simp [d] at h;omega
  subst a
  have i:AK l w.heap.size 287 (FR 256):=by simpa using g
  have m:(FR 256).length=256:=by simp [FR]
  refine Bx<|A0<|A0<|Bh<|Cl<|Aa (Bu (Ro _) (QA _) m O i) O<|Ax (Ci O m O O (by simp [FR,Value.oneCell']) i m) ?_
  rintro x ⟨e,o,q⟩
  refine Aq<|F7 O O ‹_› underlying287 O O m ?_
  exact ⟨rfl,f.grown o (AA f) (by rintro _ ⟨⟩;exact AQ _)⟩
theorem P2 (c:BitVec 8):(FR 256)[0+c.toNat*1]? =some (u32 (Crc.tab c)):=by
 have h:c.toNat<256:=c.isLt
 have e:BitVec.ofNat 8 c.toNat=c:=by apply BitVec.eq_of_toNat_eq;simp
 simp [FR,h]
theorem NZ (r:BitVec 32) (l:List (BitVec 8)) (k:Nat) (a:k<l.length):Crc.run r (l.take (k+1))=Crc.tab ((Crc.run r (l.take k)).setWidth 8 ^^^ l.getD k default) ^^^ Crc.run r (l.take k)>>>8:=by
 rw [take_succ_eq_append_getElem a,Crc.run_append]
 simp [Crc.run,Crc.feed_tab,a]
theorem Sp (s:BitVec 32) (v:Value) (l:List (BitVec 8)) (w:World) (i:BG b8 w v l):AO prog 148 [u32 s,v] w (fun r w' =>r=u32 (Crc.on s l)∧Below w.heap.size w w'):=by
 obtain ⟨zv,t,d⟩:=Kv
 have x:(FR 256).length=256:=by simp [FR]
 have z:=i.le
 refine A5 (n:=30) func148 O<|Ah<|Aa (B0 (show _=some (u32 (0#32)) from rfl)) O<|Au<|Ai O O (P3 w) ?_
 rintro _ m ⟨rfl,e⟩
 refine Ad O<|Aa (Gk O) O<|Ar (Xw.alloc (t _) d) O ?_
 rintro _ B ⟨rfl,p,c,y⟩
 refine Ax (Ci O x O O (by simp [FR,Value.oneCell']) p length_replicate) ?_
 rintro g ⟨f,q,o⟩
 have b:Below w.heap.size w g:=(Jd e c (AQ _)).grown q (by have:=e.size;omega) (by rintro _ ⟨⟩;exact e.size)
 have u:=i.bs b
 refine Ab O<|Ba<|Ad O<|Aa (Ay AV O ‹_›) O ?_
 refine Ad O<|Ak<|Av ?_
 refine B4 (S:=Nat) (fun k=>[(5, .pointer (some ⟨m.heap.size,0,none⟩)),(6,u32 (Crc.run (~~~ s) (l.take k))),(12,v),(13, .int .i64 (l.length:Int)),(14, .int .i64 (k:Int))]) (fun k w' =>k≤l.length∧w' =g) (fun k=>l.length - k) (0) ⟨rfl,rfl,rfl,rfl,rfl,trivial⟩ ?_ ?_
 ·exact ⟨by omega,rfl⟩
 rintro k _ ⟨A,rfl⟩
 refine Ah<|B9 O<|Ak<|Ap<|Al O ?_ ?_
 ·intro h
  have a:k<l.length:=by simp at h;omega
  refine B2<|Ap<|Av<|Ah<|Aa (A8 AV O O ‹_› _ O (by omega)) O ?_
  refine Aa (Be (LY _) O ‹_› (by omega)) O ?_
  refine Ab O<|Ak<|A4<|Ad O<|Aa (C0 FQ It O) O<|Ad O<|Aa (Ex.xor8 O O) O<|Aa (Ex.idxB NG NQ O O ((Crc.run (~~~ s) (l.take k)).setWidth 8 ^^^ l.getD k default).toNat O (BitVec.isLt _)) O<|Aa (An (Qy _) O f (P2 _)) O<|Ad O<|Aa (Dv (j:=8) O O (by decide)) O<|Aa (Gj O O) O<|Ab O<|A7<|Bb<|Cx<|Cn O (by omega)<|Ad O<|A7 ?_
  exact A3 (B1 (k+1) ⟨rfl,(by rw [NZ _ _ _ a];rfl),rfl,rfl,rfl,trivial⟩ (⟨by omega,rfl⟩) (by omega))
 ·intro h
  have a:k=l.length:=by simp at h;omega
  subst a
  refine Bx<|A0<|A0<|Bh<|Cl<|Ad O<|Aa (Gk O) O<|Ab O<|Aq<|Am O O ?_
  exact ⟨by rw [take_length];rfl,b⟩
theorem RL (v:Value) (l:List (BitVec 8)) (w:World) (a:BG b8 w v l):AO prog 46 [v] w (fun r w' =>r=u32 (Crc.of l)∧Below w.heap.size w w'):=by
 refine A5 (n:=5) func46 O<|Ah<|Aa (B0 (show _=some (u32 (0#32)) from rfl)) O<|Au<|Ad O<|Ai O O (Sp 0#32 v l w a) ?_
 rintro _ c ⟨rfl,b⟩
 exact Ab rfl<|Aq<|Am rfl rfl<|⟨rfl,b⟩
end Go.Proofs.YtblbopcaflaldaaGreatDoor
