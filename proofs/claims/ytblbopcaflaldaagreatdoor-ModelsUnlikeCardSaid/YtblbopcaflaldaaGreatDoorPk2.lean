/- Texts of this proof, one behind the other: TxtRows, Shp, ShapesCode, TensorsCode, GraphCode, Twins, TensorsLaw, Sum, Mov, Int, FindCode, GraphKind, Sub, Cel, Del, IntLists, GraphShape, ProductsCode, Rng, Box, Grow, Win, WinCode, GraphNode. -/
import Derived.Test.YtblbopcaflaldaaGreatDoorPk1
import Derived.Lib.AppendZerosOnto
import Derived.Laws.Pointers
import Derived.RangeFuncNested
import Derived.RangeFuncLeaves
import Derived.TacticsIn
import Derived.OrdersIn

namespace Go.Proofs.YtblbopcaflaldaaGreatDoor
open Go Go.Dd Go.RowKit List Go.Proofs.Tryz
set_option maxRecDepth 100000
-- dd: text
structure Rw where
 k:Nat
 word:List UInt8
 least:Nat
 most:Nat
 nxt:List UInt8
 last:List UInt8
 deriving DecidableEq
def Rw.cells (r:Rw):List Value:=[st r.word, .int .i64 (r.least:Int), .int .i64 (r.most:Int),st r.nxt,st r.last]
def HX:List Rw:=[⟨1,[105,110,112,117,116],0,0,[],[]⟩,⟨2,[119,101,105,103,104,116],0,0,[],[]⟩,⟨3,[97,100,100],2,2,[],[]⟩,⟨4,[109,117,108],2,2,[],[]⟩,⟨7,[112,114,111,100,117,99,116],2,2,[],[]⟩,⟨5,[114,101,108,117],1,1,[],[]⟩,⟨6,[115,104,105,102,116],1,1,[98,121],[]⟩,⟨8,[119,105,110,100,111,119],2,2,[115,116,101,112],[112,97,100]⟩,⟨9,[112,111,111,108],1,1,[119,105,100,101],[]⟩,⟨10,[115,104,97,112,101],1,1,[116,111],[]⟩,⟨11,[116,117,114,110],1,1,[116,111],[]⟩,⟨12,[106,111,105,110],1,65536,[97,108,111,110,103],[]⟩,⟨13,[115,117,109],1,1,[97,108,111,110,103],[]⟩]
def RD (k v:Value):Prop:=∃r ∈ HX,k= .int .u8 (r.k:Int)∧v= .agg r.cells.toArray
set_option maxRecDepth 4000 in
theorem Q0 (w:World):AN prog 118 [] w (fun r w' =>Below w.heap.size w w' ∧∃M,r= .map (some M)∧w.heap.size≤M∧EX w' M (.int .u8) RD):=by
 refine A4 (n:=16) func118 O<|Ai<|Ab O<|A3<|An (Fv (d:= .int .u8)) O ?_
 rintro _ u ⟨rfl,b,c,f⟩
 obtain ⟨M,g⟩:∃M,M=w.heap.size:=⟨_,rfl⟩
 rw [← g] at b ⊢
 have e:M<u.heap.size:=by omega
 refine Aa (Bi (vs:=[(0,st [105,110,112,117,116])]) (cs:=Rw.cells ⟨1,[105,110,112,117,116],0,0,[],[]⟩) O (by kernel_rfl)) O<|A6 (Cy (d:= .int .u8) underlying122 BW O O O O b (by intro v h;simp at h)) ?_
 rintro p ⟨b,a,f⟩
 have c:=c.grown a (by omega) (by rintro _ ⟨⟩;omega)
 have e:M<p.heap.size:=by omega
 clear a
 refine Aa (Bi (vs:=[(0,st [119,101,105,103,104,116])]) (cs:=Rw.cells ⟨2,[119,101,105,103,104,116],0,0,[],[]⟩) O (by kernel_rfl)) O<|A6 (Cy (d:= .int .u8) underlying122 BW O O O O b (by intro v h;simp at h)) ?_
 rintro z ⟨b,a,f⟩
 have c:=c.grown a (by omega) (by rintro _ ⟨⟩;omega)
 have e:M<z.heap.size:=by omega
 clear a
 refine Aa (Bi (vs:=[(0,st [97,100,100]),(1, .int .i64 2),(2, .int .i64 2),(3,st []),(4,st [])]) (cs:=Rw.cells ⟨3,[97,100,100],2,2,[],[]⟩) O (by kernel_rfl)) O<|A6 (Cy (d:= .int .u8) underlying122 BW O O O O b (by intro v h;simp at h)) ?_
 rintro q ⟨b,a,f⟩
 have c:=c.grown a (by omega) (by rintro _ ⟨⟩;omega)
 have e:M<q.heap.size:=by omega
 clear a
 refine Aa (Bi (vs:=[(0,st [109,117,108]),(1, .int .i64 2),(2, .int .i64 2),(3,st []),(4,st [])]) (cs:=Rw.cells ⟨4,[109,117,108],2,2,[],[]⟩) O (by kernel_rfl)) O<|A6 (Cy (d:= .int .u8) underlying122 BW O O O O b (by intro v h;simp at h)) ?_
 rintro o ⟨b,a,f⟩
 have c:=c.grown a (by omega) (by rintro _ ⟨⟩;omega)
 have e:M<o.heap.size:=by omega
 clear a
 refine Aa (Bi (vs:=[(0,st [112,114,111,100,117,99,116]),(1, .int .i64 2),(2, .int .i64 2),(3,st []),(4,st [])]) (cs:=Rw.cells ⟨7,[112,114,111,100,117,99,116],2,2,[],[]⟩) O (by kernel_rfl)) O<|A6 (Cy (d:= .int .u8) underlying122 BW O O O O b (by intro v h;simp at h)) ?_
 rintro A ⟨b,a,f⟩
 have c:=c.grown a (by omega) (by rintro _ ⟨⟩;omega)
 have e:M<A.heap.size:=by omega
 clear a
 refine Aa (Bi (vs:=[(0,st [114,101,108,117]),(1, .int .i64 1),(2, .int .i64 1),(3,st []),(4,st [])]) (cs:=Rw.cells ⟨5,[114,101,108,117],1,1,[],[]⟩) O (by kernel_rfl)) O<|A6 (Cy (d:= .int .u8) underlying122 BW O O O O b (by intro v h;simp at h)) ?_
 rintro s ⟨b,a,f⟩
 have c:=c.grown a (by omega) (by rintro _ ⟨⟩;omega)
 have e:M<s.heap.size:=by omega
 clear a
 refine Aa (Bi (vs:=[(0,st [115,104,105,102,116]),(1, .int .i64 1),(2, .int .i64 1),(3,st [98,121]),(4,st [])]) (cs:=Rw.cells ⟨6,[115,104,105,102,116],1,1,[98,121],[]⟩) O (by kernel_rfl)) O<|A6 (Cy (d:= .int .u8) underlying122 BW O O O O b (by intro v h;simp at h)) ?_
 rintro t ⟨b,a,f⟩
 have c:=c.grown a (by omega) (by rintro _ ⟨⟩;omega)
 have e:M<t.heap.size:=by omega
 clear a
 refine Aa (Bi (vs:=[(0,st [119,105,110,100,111,119]),(1, .int .i64 2),(2, .int .i64 2),(3,st [115,116,101,112]),(4,st [112,97,100])]) (cs:=Rw.cells ⟨8,[119,105,110,100,111,119],2,2,[115,116,101,112],[112,97,100]⟩) O (by kernel_rfl)) O<|A6 (Cy (d:= .int .u8) underlying122 BW O O O O b (by intro v h;simp at h)) ?_
 rintro x ⟨b,a,f⟩
 have c:=c.grown a (by omega) (by rintro _ ⟨⟩;omega)
 have e:M<x.heap.size:=by omega
 clear a
 refine Aa (Bi (vs:=[(0,st [112,111,111,108]),(1, .int .i64 1),(2, .int .i64 1),(3,st [119,105,100,101]),(4,st [])]) (cs:=Rw.cells ⟨9,[112,111,111,108],1,1,[119,105,100,101],[]⟩) O (by kernel_rfl)) O<|A6 (Cy (d:= .int .u8) underlying122 BW O O O O b (by intro v h;simp at h)) ?_
 rintro y ⟨b,a,f⟩
 have c:=c.grown a (by omega) (by rintro _ ⟨⟩;omega)
 have e:M<y.heap.size:=by omega
 clear a
 refine Aa (Bi (vs:=[(0,st [115,104,97,112,101]),(1, .int .i64 1),(2, .int .i64 1),(3,st [116,111]),(4,st [])]) (cs:=Rw.cells ⟨10,[115,104,97,112,101],1,1,[116,111],[]⟩) O (by kernel_rfl)) O<|A6 (Cy (d:= .int .u8) underlying122 BW O O O O b (by intro v h;simp at h)) ?_
 rintro m ⟨b,a,f⟩
 have c:=c.grown a (by omega) (by rintro _ ⟨⟩;omega)
 have e:M<m.heap.size:=by omega
 clear a
 refine Aa (Bi (vs:=[(0,st [116,117,114,110]),(1, .int .i64 1),(2, .int .i64 1),(3,st [116,111]),(4,st [])]) (cs:=Rw.cells ⟨11,[116,117,114,110],1,1,[116,111],[]⟩) O (by kernel_rfl)) O<|A6 (Cy (d:= .int .u8) underlying122 BW O O O O b (by intro v h;simp at h)) ?_
 rintro i ⟨b,a,f⟩
 have c:=c.grown a (by omega) (by rintro _ ⟨⟩;omega)
 have e:M<i.heap.size:=by omega
 clear a
 refine Aa (Bi (vs:=[(0,st [106,111,105,110]),(1, .int .i64 1),(2, .int .i64 65536),(3,st [97,108,111,110,103]),(4,st [])]) (cs:=Rw.cells ⟨12,[106,111,105,110],1,65536,[97,108,111,110,103],[]⟩) O (by kernel_rfl)) O<|A6 (Cy (d:= .int .u8) underlying122 BW O O O O b (by intro v h;simp at h)) ?_
 rintro l ⟨b,a,f⟩
 have c:=c.grown a (by omega) (by rintro _ ⟨⟩;omega)
 have e:M<l.heap.size:=by omega
 clear a
 refine Aa (Bi (vs:=[(0,st [115,117,109]),(1, .int .i64 1),(2, .int .i64 1),(3,st [97,108,111,110,103]),(4,st [])]) (cs:=Rw.cells ⟨13,[115,117,109],1,1,[97,108,111,110,103],[]⟩) O (by kernel_rfl)) O<|A6 (Cy (d:= .int .u8) underlying122 BW O O O O b (by intro v h;simp at h)) ?_
 rintro j ⟨b,a,f⟩
 have c:=c.grown a (by omega) (by rintro _ ⟨⟩;omega)
 have e:M<j.heap.size:=by omega
 clear a
 refine Ad O<|Ab O<|As<|Al O O ?_
 refine ⟨by rw [g];exact c,M,rfl,by omega,b.congr fun k v=> ?_⟩
 unfold RD HX
 simp only [mem_cons,not_mem_nil,or_false,exists_eq_or_imp,exists_eq_left,false_or,or_assoc]
 rfl
end Go.Proofs.YtblbopcaflaldaaGreatDoor

namespace Go.Dd.Shapes
def Hf:List Int→Int
 |[]=>1
 |x::s=>x*Hf s
def tim (n:Int):List Int→Int
 |[]=>n
 |x::l=>if x<1∨64<x then 0 else if 4096<n*x then 0 else tim (n*x) l
def size (s:List Int):Int:=if s.length<1∨4<s.length then 0 else tim 1 s
def good (s:List Int):Prop:=∀x ∈ s,1≤x∧x≤64
def ok (s:List Int):Bool:=decide (0<size s)
def idx:List Int→List Int→Int
 |_::s,a::t=>a*Hf s+idx s t
 |_,_=>0
def Ms:List Int→Int→List Int
 |[],_=>[]
 |x::s,i=>(i / Hf s % x)::Ms s i
theorem EZ {x:Int} {s:List Int}:good (x::s)↔(1≤x∧x≤64)∧good s:=by simp [good]
theorem Im:∀{s:List Int},good s→1≤Hf s
 |[],_=>by simp [Hf]
 |x::s,h=>by
  have a:=(EZ.1 h).1
  have b:=Im (EZ.1 h).2
  have:=Int.mul_le_mul a.1 b (by omega) (by omega)
  simpa [Hf] using this
theorem Nr:∀(s:List Int) (n:Int),1≤n→n≤4096→(good s∧n*Hf s≤4096∧tim n s=n*Hf s)∨(¬(good s∧n*Hf s≤4096)∧tim n s=0)
 |[],n,h1,h2=> .inl ⟨by simp [good],by simpa [Hf] using h2,by simp [tim,Hf]⟩
 |x::s,n,h1,h2=>by
  by_cases hx:x<1∨64<x
  ·exact .inr ⟨fun h=>by have:=(EZ.1 h.1).1;omega,by simp [tim,hx]⟩
  ·have b:1≤x:=by omega
   have a:1≤n*x:=by have:=Int.mul_le_mul h1 b (by omega) (by omega);simpa using this
   by_cases h4:4096<n*x
   ·refine .inr ⟨fun h=> ?_,by simp [tim,hx,h4]⟩
    have d:=Im (EZ.1 h.1).2
    have i:=Int.mul_le_mul (Int.le_refl (n*x)) d (by omega) (by omega)
    have c:=h.2
    simp only [Hf,← Int.mul_assoc] at c
    omega
   ·have f:tim n (x::s)=tim (n*x) s:=by simp [tim,hx,h4]
    have e:n*Hf (x::s)=n*x*Hf s:=by simp [Hf,Int.mul_assoc]
    rw [f,e]
    rcases Nr s (n*x) a (by omega) with ⟨g,l,t⟩|⟨g,t⟩
    ·exact .inl ⟨EZ.2 ⟨by omega,g⟩,l,t⟩
    ·exact .inr ⟨fun h=>g ⟨(EZ.1 h.1).2,h.2⟩,t⟩
theorem RY (s:List Int):0≤tim 1 s∧tim 1 s≤4096:=by
 rcases Nr s 1 (by omega) (by omega) with ⟨g,l,t⟩|⟨g,t⟩
 ·have:=Im g;omega
 ·omega
theorem size_le (s:List Int):0≤size s∧size s≤4096:=by
 unfold size
 split
 ·omega
 ·exact RY s
theorem ok_iff (s:List Int):ok s=true↔(1≤s.length∧s.length≤4)∧good s∧Hf s≤4096:=by
 unfold ok size
 rw [decide_eq_true_iff]
 split
 ·omega
 ·rcases Nr s 1 (by omega) (by omega) with ⟨g,l,t⟩|⟨g,t⟩
  ·have:=Im g
   simp only [Int.one_mul] at l t
   rw [t];exact ⟨fun _=>⟨by omega,g,l⟩,fun _=>by omega⟩
  ·simp only [Int.one_mul] at g
   rw [t];exact ⟨fun h=>by omega,fun h=>absurd h.2 g⟩
end Go.Dd.Shapes

namespace Go.Proofs.YtblbopcaflaldaaGreatDoor
open Go Go.Dd Go.RowKit List Go.Proofs.Tryz
set_option maxRecDepth 100000
theorem Qh {l:List Int} {i:Nat} {n:Int} (h:i<l.length):Shapes.tim n (l.drop i)=(if l.getD i default<1∨64<l.getD i default then 0 else if 4096<n*l.getD i default then 0 else Shapes.tim (n*l.getD i default) (l.drop (i+1))):=by
 rw [drop_eq_getElem_cons h];simp [Shapes.tim,h]
theorem RX (v:Value) (l:List Int) (w:World) (m:BE (Value.int .i64) w v l):AN prog 223 [v] w (fun r w' =>r= .int .i64 (Shapes.tim 1 l)∧Below w.heap.size w w'):=by
 have o:=m.le
 refine A4 (n:=25) func223 O<|Ai<|Ab O<|A3<|Ab O<|A8<|Ad O<|Aa (Aq AH O ‹_›) O ?_
 refine Ad O<|Ak<|Ar ?_
 refine Bu (S:=(Nat×Int)) (fun s=>[(3, .int .i64 s.2),(6,v),(7, .int .i64 (l.length:Int)),(8, .int .i64 (s.1:Int))]) (fun s w' =>s.1≤l.length∧(1≤s.2∧s.2≤4096)∧Shapes.tim s.2 (l.drop s.1)=Shapes.tim 1 l∧w' =w) (fun s=>l.length - s.1) ((0,1)) ⟨rfl,rfl,rfl,rfl,trivial⟩ ?_ ?_
 ·exact ⟨by simp,by simp,by simp,rfl⟩
 rintro ⟨i,n⟩ q ⟨p,k,a,rfl⟩
 dsimp only at p k a ⊢
 refine Ai<|B8 O<|Ak<|Ap<|Am O ?_ ?_
 ·intro h
  have b:i<l.length:=by simp at h;omega
  rw [Qh b] at a
  refine B1<|Ap<|Ar<|Ai<|Aa (Bb AH O O ‹_› _ O (by omega)) O ?_
  refine Aa (Bf (BD _) O ‹_› (by omega)) O ?_
  refine Ab O<|A8<|Ad O<|B8 O<|Ad O ?_
  generalize l.getD i default=x at a ⊢
  refine Cc 14 O ?_ ?_
  ·intro g
   have e:=AE g
   refine Ae (dj:=14) O O O O<|Ae (dj:=14) O O O O<|Bt O<|Ak<|B6 O<|Ai<|Ab O<|Bw<|Bd<|A0<|A0<|Bd<|A0<|Al O O ?_
   refine ⟨?_,Below.refl _ _⟩
   rw [← a,if_pos (.inl e)]
  intro g
  have e:=AD g
  refine Aj (dj:=14) O O<|Ad O<|Aj (dj:=14) O O<|Aa (C7 O O) O<|Co O<|Ak<|Am O ?_ ?_
  ·intro f
   have d:=AE f
   refine Ai<|Ab O<|Bw<|Bd<|A0<|A0<|Bd<|A0<|Al O O ?_
   refine ⟨?_,Below.refl _ _⟩
   rw [← a,if_pos (.inr d)]
  intro f
  have d:=AD f
  have t:n*1≤n*x∧n*x≤4096*64:=⟨Int.mul_le_mul_of_nonneg_left (by omega) (by omega),Int.mul_le_mul k.2 (by omega) (by omega) (by omega)⟩
  rw [if_neg (by omega)] at a
  refine Ci<|Ad O<|Ad O<|Aa (E1 O O (by omega)) O<|Ab O<|A3<|Ad O<|Aa (C7 O O) O<|Ak<|Am O ?_ ?_
  ·intro j
   have c:=AE j
   refine Ai<|Ab O<|As<|Bd<|A0<|A0<|Bd<|A0<|Al O O ?_
   refine ⟨?_,Below.refl _ _⟩
   rw [← a,if_pos c]
  intro j
  have c:=AD j
  rw [if_neg c] at a
  refine Cj<|Ba<|Cr<|Ca O (by omega)<|Ad O<|A7 ?_
  exact Ay (Br ((i+1,n*x)) ⟨rfl,rfl,rfl,rfl,trivial⟩ (⟨b,⟨by omega,by omega⟩,a,rfl⟩) (by simp only;omega))
 ·intro h
  have b:i=l.length:=by simp at h;omega
  subst b
  refine Bq<|Au<|Au<|Bc<|Cf<|Ad O<|Ab O<|As<|Al O O ?_
  refine ⟨?_,Below.refl _ _⟩
  rw [← a,drop_length];rfl
theorem JL (v:Value) (l:List Int) (w:World) (e:BE (Value.int .i64) w v l):AN prog 138 [v] w (fun r w' =>r= .int .i64 (Shapes.size l)∧Below w.heap.size w w'):=by
 refine A4 (n:=13) func138 O<|Ai<|Ab O<|A8<|Ad O<|Aa (Aq AH O ‹_›) O ?_
 refine B8 O<|Ad O ?_
 refine Cc 6 O ?_ ?_
 ·intro c
  have d:=AE c
  exact Ae (dj:=6) rfl rfl rfl rfl<|Ae (dj:=6) rfl rfl rfl rfl<|Ae (dj:=6) rfl rfl rfl rfl<|Bt rfl<|Ak<|B6 rfl<|Ai<|Ab rfl<|Bw<|Al rfl rfl<|⟨by rw [Shapes.size,if_pos (by omega)],Below.refl _ _⟩
 intro c
 have d:=AD c
 refine Aj (dj:=6) O O<|Ad O<|Aj (dj:=6) O O<|Aa (Aq AH O ‹_›) O ?_
 refine Aj (dj:=6) O O<|Aa (C7 O O) O<|Co O<|Ak<|Am O ?_ ?_
 ·intro b
  have a:=AE b
  exact Ai<|Ab rfl<|Bw<|Al rfl rfl<|⟨by rw [Shapes.size,if_pos (by omega)],Below.refl _ _⟩
 intro b
 have a:=AD b
 refine Ci<|Ad O<|Ah O O (RX v l w e) ?_
 rintro _ g ⟨rfl,f⟩
 exact Ab rfl<|As<|Al rfl rfl<|⟨by rw [Shapes.size,if_neg (by omega)],f⟩
theorem EB (v:Value) (l:List Int) (w:World) (a:BE (Value.int .i64) w v l):AN prog 137 [v] w (fun r w' =>r= .bool (Shapes.ok l)∧Below w.heap.size w w'):=by
 refine A4 (n:=6) func137 O<|Ai<|Ab O<|A3<|Ad O<|Ah O O (JL v l w a) ?_
 rintro _ c ⟨rfl,b⟩
 exact Aa (C7 rfl rfl) rfl<|Ab rfl<|As<|Al rfl rfl<|⟨rfl,b⟩
def Tk (W w' :World) (x:Value) (l:List Int):Prop:=∃b,W.heap.size≤b∧w'.ownsRow b 3 1 x l.length (l.map (Value.int .i64))∧(x= .slice none 0 0∨x= .slice (some ⟨b,0,none⟩) l.length l.length)
theorem Tk.sl {W w' :World} {x:Value} {l:List Int} (h:Tk W w' x l):BE (Value.int .i64) w' x l:=by
 obtain ⟨b,_,h,_⟩:=h
 exact AG h

def Vo (w:World) (v:Value) (s:List Int) (l:List (BitVec 32)):Prop:=∃x y,v= .agg #[x,y]∧BE (Value.int .i64) w x s∧BE i32 w y l
theorem Vo.bs {w w' :World} {v:Value} {s:List Int} {l:List (BitVec 32)} (h:Vo w v s l) (a:Below w.heap.size w w'):Vo w' v s l:=by
 obtain ⟨x,y,e,c,b⟩:=h
 exact ⟨x,y,e,c.bs a,b.bs a⟩
def K4 (s:List Int) (l:List (BitVec 32)):Bool:=Shapes.ok s && decide ((l.length:Int)=Shapes.size s)
theorem LS (a b:Value) (c:a.cells=[a].toArray) (g:b.cells=[b].toArray):Tryz.prog.built 75 [(0,a),(1,b)]=some [a,b].toArray:=by
 have e:Tryz.prog.info? 75=some Tryz.t75:=rfl
 have d:Tryz.prog.info? 70=some Tryz.t70:=rfl
 have f:Tryz.prog.info? 73=some Tryz.t73:=rfl
 simp [Program.built,e,underlying75,d,f,Instr.fill,c,g]
 rfl
theorem Qn (x y:Value) (s:List Int) (l:List (BitVec 32)) (w:World) (j:BE (Value.int .i64) w x s) (f:BE i32 w y l):
  AN prog 35 [.agg #[x,y]] w (fun r w' =>r= .bool (K4 s l)∧Below w.heap.size w w'):=by
 refine A4 (n:=15) func35 O<|Ai<|An (Xw.box (cs:=[x,y]) O O) O ?_
 rintro _ b ⟨rfl,k,c,e⟩
 have d:=j.bs c
 have h:=f.bs c
 refine Ab O<|Ak<|Ap<|Dz mixed (by kernel_rfl)<|Ax (fun b a=>Ch underlying75 O (BL _)) O<|Ax (fun b a=>Ao (AY _) O (AP.bs ‹_› a) O) O ?_
 refine Et O O (fun b a=>(EB x s b (d.bs a)).q a)<|B5 O ?_
 refine Ez 6 O ?_ ?_
 ·intro g
  refine Cb (dj:=6) O O<|Ax (fun b a=>Ch underlying75 O (FY _)) O<|Cb (dj:=6) O O<|Ax (fun b a=>Ao (GG _) O (AP.bs ‹_› a) O) O ?_
  refine Cb (dj:=6) O O<|Ax (fun b a=>Aq CE O (Sl.bs ‹_› a)) O ?_
  refine Cb (dj:=6) O O<|Ax (fun b a=>Ch underlying75 O (BL _)) O<|Cb (dj:=6) O O<|Ax (fun b a=>Ao (AY _) O (AP.bs ‹_› a) O) O ?_
  refine Cb (dj:=6) O O<|Et O O (fun b a=>(JL x s b (d.bs a)).q a)<|Cb (dj:=6) O O<|Ax (fun b a=>Cn O O) O<|Ax (fun b a=>Dc O O) O<|Ep O ?_
  refine Dk (fun i a=> ?_)
  refine Ay<|B9<|Dq<|Al O O ?_
  exact ⟨cngA Value.bool (by unfold K4;rw [g];rfl),bt c a⟩
 ·intro g
  refine Bn (dj:=6) O O O O<|Bn (dj:=6) O O O O<|Bn (dj:=6) O O O O<|Bn (dj:=6) O O O O<|Bn (dj:=6) O O O O<|Bn (dj:=6) O O O O<|Bn (dj:=6) O O O O<|Ax (fun b a=>Dw O O) O<|Ep O ?_
  refine Dk (fun i a=> ?_)
  refine Ay<|B9<|Dq<|Al O O ?_
  exact ⟨cngA Value.bool (by unfold K4;rw [g];rfl),bt c a⟩
theorem Hw (u v:Value) (a b:List Int) (w:World) (q:BE (Value.int .i64) w u a) (z:BE (Value.int .i64) w v b):AN prog 143 [u,v] w (fun r w' =>r= .bool (decide (a=b))∧Below w.heap.size w w'):=by
 have A:=q.le
 refine A4 (n:=26) func143 O<|Ai<|Ab O<|A8<|Ad O<|Aa (Aq AH O ‹_›) O ?_
 refine Ad O<|Aa (Aq AH O ‹_›) O ?_
 refine Aa (C0 O O) O<|Ak<|Am O ?_ ?_
 ·intro h
  have m:a≠b:=fun e=>by subst e;simp at h
  exact Ai<|Ab rfl<|Bw<|Al rfl rfl<|⟨by rw [decide_eq_false m],Below.refl _ _⟩
 intro h
 have y:a.length=b.length:=by simp at h;omega
 refine B1<|Ap<|Ai<|Ad O<|Aa (Aq AH O ‹_›) O ?_
 refine Ad O<|Ak<|Ar ?_
 refine Bu (S:=Nat) (fun i=>[(0,u),(1,v),(12, .int .i64 (a.length:Int)),(13, .int .i64 (i:Int))]) (fun i w' =>i≤a.length∧a.take i=b.take i∧Below w.heap.size w w') (fun i=>a.length - i) (0) ⟨rfl,rfl,rfl,rfl,trivial⟩ ?_ ?_
 ·exact ⟨by omega,by simp,Below.refl _ _⟩
 rintro i j ⟨B,o,f⟩
 have s:=q.bs f
 have t:=z.bs f
 refine Ai<|B8 O<|Ak<|Ap<|Am O ?_ ?_
 ·intro h
  have c:i<a.length:=by simp at h;omega
  have k:i<b.length:=by omega
  refine B1<|Ap<|Ar<|Ai<|Ad O<|Ab O<|Ak<|Ap<|Dz mixed (by kernel_rfl)<|B5 O<|B5 O<|Ax (fun j d=>Bb AH O O (Sl.bs ‹_› d) _ O (by omega)) O ?_
  refine Ax (fun j d=>Bf (BD _) O (Sl.bs ‹_› d) (by omega)) O ?_
  refine B5 O<|B5 O<|Ax (fun j d=>Bb AH O O (Sl.bs ‹_› d) _ O (by omega)) O ?_
  refine Ax (fun j d=>Bf (BD _) O (Sl.bs ‹_› d) (by omega)) O ?_
  refine Ax (fun j d=>C0 O O) O ?_
  refine Dk (fun C d=> ?_)
  refine Ay<|B9 ?_
  have l:=bt f d
  refine Am O ?_ ?_
  ·intro g
   have p:a.getD i default≠b.getD i default:=by simpa using g
   exact Ai<|Ab rfl<|As<|Bd<|A0<|A0<|Bd<|A0<|Al rfl rfl<|⟨by rw [decide_eq_false (fun e=>p (by rw [e]))],l⟩
  ·intro g
   have p:a.getD i default=b.getD i default:=by simpa using g
   have x:a[i]=b[i]:=by simpa [c,k] using p
   refine Cj<|Ba<|Cr<|Ca O (by omega)<|Ad O<|A7 ?_
   exact Ay (Br (i+1) ⟨rfl,rfl,rfl,rfl,trivial⟩ (⟨c,by rw [take_succ_eq_append_getElem c,take_succ_eq_append_getElem k,o,x],l⟩) (by omega))
 ·intro h
  have c:i=a.length:=by simp at h;omega
  subst c
  refine Bq<|Au<|Au<|Bc<|Cf<|Ab O<|As<|Al O O ?_
  exact ⟨by rw [decide_eq_true (by rw [take_length,y,take_length] at o;exact o)],f⟩
theorem J4 (u:Value) (a:List Int) (w:World) (g:BE (Value.int .i64) w u a) (p:a.length≤4194304):AN prog 155 [u] w (fun r w' =>w'.ownsRow w.heap.size 3 1 r a.length (a.map (Value.int .i64))∧Below w.heap.size w w'):=by
 obtain ⟨m,d,cap,rfl,l,j,i,k⟩:=g
 have g:BE (Value.int .i64) w (.slice d a.length cap) a:=⟨m,d,cap,rfl,l,j,i,k⟩
 refine A4 (n:=8) func155 O<|Ai<|Ab O<|A8<|Ad O<|Aa (Ex.nilS Oh O O) O<|Ak<|Am O ?_ ?_
 ·intro h
  obtain rfl:d=none:=by cases d<;>simp_all
  obtain rfl:a=[]:=eq_nil_of_length_eq_zero (by have:=i rfl;omega)
  exact Ai<|Ab rfl<|Bw<|Al rfl rfl<|⟨⟨rfl, .inl ⟨rfl,rfl⟩⟩,Below.refl _ _⟩
 intro h
 refine Ci<|An (B7 (vs:=[]) AH DH O O O O O) O ?_
 rintro q o ⟨e, -,b, -⟩
 refine Ad O<|An (C1 (base:=w.heap.size) AH DH O (by decide) O O e (g.bs b) (BI (fun _=>rfl) _) (by omega) (by omega) b.size) O ?_
 rintro s t ⟨c,f, -⟩
 rw [Nat.zero_add,nil_append] at c
 exact Ab rfl<|As<|Al rfl rfl<|⟨c,b.trans f⟩
theorem Ky (u:Value) (a:List Int) (w:World) (b:BE (Value.int .i64) w u a):AN prog 136 [u] w (fun r w' =>r=clip u∧Below w.heap.size w w'):=by
 refine A4 (n:=9) func136 O<|Ai<|Ab O<|A3<|Ad O<|Ad O<|Aa (Aq AH O ‹_›) O ?_
 refine Ad O<|Aa (Aq AH O ‹_›) O ?_
 exact Aa (Fq AH rfl rfl rfl b.shp) rfl<|Ab rfl<|As<|Al rfl rfl<|⟨rfl,Below.refl _ _⟩
structure Jo (W w:World) (x y:Value) (s:List Int) (l:List (BitVec 32)):Prop where
 row:AQ w W.heap.size 3 1 x s.length (s.map (Value.int .i64))
 own:w.ownsRow W.heap.size 21 1 y l.length (l.map i32)
 apart:IF y x
theorem Jo.sh {W w:World} {x y:Value} {s:List Int} {l:List (BitVec 32)} (h:Jo W w x y s l):BE (Value.int .i64) w x s:=h.row.slT
theorem Jo.bs {W w w' :World} {x y:Value} {s:List Int} {l:List (BitVec 32)} (h:Jo W w x y s l) (a:Below w.heap.size w w'):Jo W w' x y s l:=⟨h.row.bs a,AF h.own a,h.apart⟩
theorem UK (u:Value) (s:List Int) (w:World) (R:BE (Value.int .i64) w u s):
  AN prog 54 [u] w (fun r w' =>Below w.heap.size w w' ∧((Shapes.ok s=true∧∃x y,r= .tuple #[.agg #[x,y], .int .i64 0]∧Jo w w' x y s (replicate (Shapes.size s).toNat 0#32))∨(Shapes.ok s=false∧r= .tuple #[.agg #[.slice none 0 0, .slice none 0 0], .int .i64 1]))):=by
 have hsz:=Shapes.size_le s
 refine A4 (n:=15) func54 O<|Ai<|An (Du GF) O ?_
 rintro _ V ⟨rfl,a,q,hs1⟩
 refine Ab O<|A8<|Ad O<|Ah O O (EB u s V (R.bs q)) ?_
 rintro _ w2 ⟨rfl,m⟩
 have c:=bt q m
 have a:=a.bs m
 have J:=R.bs c
 refine Aa (Cz O) O<|Ak<|Am O ?_ ?_
 ·intro h
  have G:Shapes.ok s=false:=by simpa using h
  refine Ai<|Lw.z2 O<|A6 (Ck (cs:=[.slice none 0 0, .slice none 0 0]) O O O O O a O) ?_
  rintro F ⟨i,K, -⟩
  have p:Below w.heap.size w F:=c.grown K (AA c) (by rintro _ ⟨⟩;exact AU _)
  refine Ab O<|Bw<|Dl O O O ‹_› underlying75 O O O ?_
  exact ⟨p, .inr ⟨G,rfl⟩⟩
 intro h
 have C:Shapes.ok s=true:=by simpa using h
 have U:=(Shapes.ok_iff s).1 C
 refine Ci<|Ad O<|Ah O O (J4 u s w2 J (by omega)) ?_
 rintro j F ⟨B,i⟩
 have H:=AL B
 have o:=AQ.clip B
 have p:=bt c i
 have a:=a.bs i
 refine Ah O O (Ky j s F H) ?_
 rintro _ W ⟨rfl,f⟩
 have v:=bt p f
 have a:=a.bs f
 refine Ad O<|Ah O O (JL u s W (R.bs v)) ?_
 rintro _ w5 ⟨rfl,e⟩
 have z:=bt v e
 have a:=a.bs e
 refine Cx 12 (v' := .int .i64 (((Shapes.size s).toNat:Nat):Int)) O (cngA (Value.int .i64) (by omega))<|An (Ej CE Kj O O O (AU _) (by omega) (by omega)) O ?_
 rintro y w6 ⟨d,S,l, -⟩
 have E:=bt z l
 have a:=a.bs l
 have A:=(o.bs f).bs (bt e l)
 have t:=A.slT
 have z3:=(bt f e).size
 have L:IF y (clip j):=by
  intro b M I
  rw [S] at M
  cases M
  have T:w5.heap.size<F.heap.size:=(o.lt _ I).2
  omega
 refine Aa (Bi (vs:=[(0,clip j),(1,y)]) (cs:=[clip j,y]) O (LS _ _ t.one (AG d).one)) O<|A6 (Ck (cs:=[clip j,y]) O O O O (by simp [t.one',(AG d).one']) a O) ?_
 rintro Y ⟨hb7,k, -⟩
 have N:Below w.heap.size w Y:=E.grown k (AA E) (by rintro _ ⟨⟩;exact AU _)
 have z2:=c.size
 have Z:=m.size
 have z5' :=i.size
 have z5:=z.size
 have D:(replicate (Shapes.size s).toNat [Value.int .i32 0]).flatten=(replicate (Shapes.size s).toNat 0#32).map i32:=by
  generalize (Shapes.size s).toNat=n
  induction n with
  |zero=>rfl
  |succ n ih=>simp [replicate_succ,i32]
 rw [D] at d
 refine Ab O<|As<|Dl O O O ‹_› underlying75 O O O ?_
 refine ⟨N, .inl ⟨C,clip j,y,rfl, ?_, ?_,L⟩⟩
 ·refine (A.by' k ?_).mono (by omega)
  cases hc:(clip j).ownBlock with
  |none=>exact .inl rfl
  |some b=>
   refine .inr fun h=> ?_
   have:=(o.lt b hc).1
   cases h
   omega
 ·have:=d.kept k (.inr (by rw [S];simp [Value.ownBlock];omega))
  rw [length_replicate]
  exact ⟨this.1,by
   rcases this.2 with h|⟨g,cap,Q,X,M,I,T⟩
   ·exact .inl h
   ·exact .inr ⟨g,cap,Q,X,by omega,I,T⟩⟩
structure T4 where
 x:Value
 y:Value
 s:List Int
 l:List (BitVec 32)
def T4.at (t:T4) (w:World):Prop:=BE (Value.int .i64) w t.x t.s∧BE i32 w t.y t.l
theorem T4.at.bs {t:T4} {w w' :World} (h:t.at w) (a:Below w.heap.size w w'):t.at w' :=⟨h.1.bs a,h.2.bs a⟩
def T4.ok (t:T4):Bool:=K4 t.s t.l
def T4.v (t:T4):Value:= .agg #[t.x,t.y]
def cellsOf:List T4→List Value
 |[]=>[]
 |t::ts=>t.x::t.y::cellsOf ts
theorem DP:∀{ts:List T4} {j:Nat} (h:j<ts.length),(cellsOf ts)[j*2]? =some ts[j].x∧(cellsOf ts)[j*2+1]? =some ts[j].y
 |t::ts,0,_=>by simp [cellsOf]
 |t::ts,j+1,h=>by
  have:=DP (ts:=ts) (j:=j) (by simpa using h)
  rw [Nat.succ_mul]
  simpa [cellsOf] using this
theorem T4.at.one {a:T4} {w:World} (h:a.at w):[a.x,a.y].all (·.oneCell')=true:=by simp [h.1.one',h.2.one']

def kv (l:List Int):Value:= .agg (l.map (Value.int .i64)).toArray
def LY:List (Nat×Int×List Int):=[(2,1,[0,0,0,0,0,1]),(4,2,[0,0,0,0,0,1]),(6,3,[2,2,0,0,0,0]),(8,4,[2,2,0,0,0,0]),(10,7,[2,2,0,0,0,0]),(12,5,[1,1,0,0,0,0]),(16,6,[1,1,0,31,0,0]),(18,8,[2,2,1,8,8,0]),(22,9,[1,1,1,64,0,0]),(24,10,[1,1,0,0,0,1]),(26,11,[1,1,0,0,0,2]),(28,12,[1,4,0,3,0,0]),(32,13,[1,1,0,3,0,0])]
def KD (k v:Value):Prop:=∃p ∈ LY,k= .int .u8 p.2.1∧v=kv p.2.2
def Nh (L:Nat→Bool) (k v:Value):Prop:=∃p ∈ LY,L p.1=true∧k= .int .u8 p.2.1∧v=kv p.2.2
def UT (W:World) (s:Nat) (L:Nat→Bool) (w:World):Prop:=Below W.heap.size W w∧(L 0=true→W.heap.size≤s∧BN w s (.int .u8) (Nh L))
def Vu (f:Value) (s:Nat):Nat→Value
 |0|33|34=> .map (some s)
 |1|3=>kv [0,0,0,0,0,1]
 |5|7|9=>kv [2,2,0,0,0,0]
 |11|14|20|30=>kv [1,1,0,0,0,0]
 |13|19|29=>f
 |15=>kv [1,1,0,31,0,0]
 |17=>kv [2,2,1,8,8,0]
 |21=>kv [1,1,1,64,0,0]
 |23=>kv [1,1,0,0,0,1]
 |25=>kv [1,1,0,0,0,2]
 |27=>kv [1,4,0,3,0,0]
 |31=>kv [1,1,0,3,0,0]
 |_=>undef
theorem JC {L:Nat→Bool} {i j:Nat} (h:i≠j):Mg L i j=L j:=by
 unfold Mg
 cases hb:Nat.beq i j with
 |false=>rfl
 |true=>exact absurd (Nat.eq_of_beq_eq_true hb) h
theorem Qc {L:Nat→Bool} {i:Nat}:Mg L i i=true:=by
 unfold Mg;rw [Nat.beq_refl];rfl
theorem DC {W w w' :World} {s i:Nat} {L:Nat→Bool} (h:UT W s L w) (g:Below w.heap.size w w') (f:i≠0) (c:∀p ∈ LY,i≠p.1):UT W s (Mg L i) w' :=by
 refine ⟨h.1.trans (g.mono (AA h.1)),fun b=> ?_⟩
 rw [JC f] at b
 obtain ⟨e,d⟩:=h.2 b
 refine ⟨e,(d.bs g).congr fun k v=>⟨fun ⟨p,a,q⟩=>⟨p,a,by rw [JC (c p a)];exact q⟩,fun ⟨p,a,q⟩=>⟨p,a,by rw [JC (c p a)] at q;exact q⟩⟩⟩
theorem GE {W w w' :World} {s i:Nat} {n:Int} {l:List Int} {L:Nat→Bool} (h:UT W s L w) (o:L 0=true) (j:(i,n,l) ∈ LY) (m:∀p ∈ LY,p.1=i→p=(i,n,l)) 
  (g:BN w' s (.int .u8) (fun k v=>Nh L k v∨(k= .int .u8 n∧v=kv l))∧w.grownBy w' (some s)∧w'.heap.size=w.heap.size):UT W s (Mg L i) w' :=by
 obtain ⟨f,q⟩:=h.2 o
 refine ⟨h.1.grown g.2.1 (AA h.1) (by rintro _ ⟨⟩;exact f),fun _=>⟨f,g.1.congr fun k v=>⟨?_, ?_⟩⟩⟩
 ·rintro (⟨p,a,c,b⟩|⟨rfl,rfl⟩)
  ·exact ⟨p,a,by unfold Mg;rw [c,Bool.or_true],b⟩
  ·exact ⟨_,j,Qc,rfl,rfl⟩
 ·rintro ⟨p,a,c,b,d⟩
  by_cases e:p.1=i
  ·obtain rfl:=m p a e
   exact .inr ⟨b,d⟩
  ·rw [JC (Ne.symm e)] at c
   exact .inl ⟨p,a,c,b,d⟩
theorem DW {L:Nat→Bool} {i:Nat} {n:Int} (c:L i=false) (e:∀p ∈ LY,p.2.1=n→p.1=i):∀v,¬Nh L (.int .u8 n) v:=by
 rintro v ⟨p,b,a,d, -⟩
 have f:n=p.2.1:=by cases d;rfl
 rw [e p b f.symm,c] at a;cases a
theorem Kg (l:List Int):(l.map (Value.int .i64)).all (·.oneCell')=true:=BI (fun _=>rfl) l
theorem OJ (a b:Int):Tryz.prog.built 275 [(0, .int .i64 a),(1, .int .i64 b)]=some ([a,b,0,0,0,0].map (Value.int .i64)).toArray:=by
 have c:Tryz.prog.info? 275=some Tryz.t275:=by kernel_rfl
 have d:Tryz.prog.info? 3=some Tryz.t3:=by kernel_rfl
 simp [Program.built,c,underlying275,d,Instr.fill,Value.cells]
 rfl
theorem Hj (a b i h:Int) (w:World):AN prog 247 [kv [a,b,0,0,0,0], .int .i64 i, .int .i64 h] w (fun r w' =>r=kv [a,b,i,h,0,0]∧Below w.heap.size w w'):=by
 have e:=Below.refl w.heap.size w
 refine A4 (n:=12) func247 O<|Ai ?_
 obtain ⟨B,x⟩:∃B,B=w.heap.size:=⟨_,rfl⟩
 refine Cl (cs:=[a,b,0,0,0,0].map (Value.int .i64)) O O O ?_
 rintro m w p c j -
 have e:=e.bs j
 have F:=AW c
 refine Da Ht O ?_
 rintro s w q d j -
 have e:=e.bs j
 have c:=c.bs j
 refine A3<|Ad O<|Ad O<|A9 underlying275 O (BZ _) ?_
 have E:=AW d
 have z:=AA e
 refine A6 (Cm (u:= .int .i64 i) (BZ _) O O O c (show 2<6 by decide)) ?_
 rintro C ⟨c,f,t⟩
 have d:=d.by f (by rintro ⟨⟩;omega)
 refine A9 underlying275 O (BZ _)<|A6 (Cm (u:= .int .i64 h) (BZ _) O O O c (show 3<6 by decide)) ?_
 rintro A ⟨c,g,v⟩
 have d:=d.by g (by rintro ⟨⟩;omega)
 have c:AP A m 275 ([a,b,i,h,0,0].map (Value.int .i64)):=c
 refine A3<|Aa (Ce (k:=6) (EA _) (DU _) O O c) O<|A6 (Ck (cs:=[a,b,i,h,0,0].map (Value.int .i64)) (k:=6) (by kernel_rfl) O O O (Kg _) d O) ?_
 rintro D ⟨d,o,y⟩
 have l:=((e.grown f z (by rintro _ ⟨⟩;omega)).grown g (by omega) (by rintro _ ⟨⟩;omega)).grown o (by omega) (by rintro _ ⟨⟩;omega)
 refine As<|D9 O O ‹_› underlying275 O O O ?_
 exact ⟨rfl,l⟩
set_option maxRecDepth 4000 in
theorem S0 (w:World):AN prog 216 [] w (fun r w' =>Below w.heap.size w w' ∧∃M,r= .map (some M)∧w.heap.size≤M∧BN w' M (.int .u8) KD):=by
 have z:=Below.refl w.heap.size w
 refine A4 (n:=37) func216 O<|Ai<|Ab O<|A3<|Aa (Bi (vs:=[(0, .int .i64 1),(1, .int .i64 1)]) (cs:=[1,1,0,0,0,0].map (Value.int .i64)) O (OJ 1 1)) O<|Aa (Bi (vs:=[(0, .int .i64 2),(1, .int .i64 2)]) (cs:=[2,2,0,0,0,0].map (Value.int .i64)) O (OJ 2 2)) O<|Da Ht O ?_
 rintro A_one w W a X -
 have z:=z.bs X
 have z1:=AW a
 refine Da Ht O ?_
 rintro A_two w V b X -
 have z:=z.bs X
 have a:=a.bs X
 have z2:=AW b
 have z0:=AA z
 refine A6 (Ck (cs:=[1,1,0,0,0,0].map (Value.int .i64)) (k:=6) (by kernel_rfl) O O O (Kg _) a O) ?_
 rintro w1 ⟨a,R,hz1⟩
 have b:=b.by R (by rintro ⟨⟩;omega)
 refine A6 (Ck (cs:=[2,2,0,0,0,0].map (Value.int .i64)) (k:=6) (by kernel_rfl) O O O (Kg _) b O) ?_
 rintro x ⟨b,T,hz2⟩
 have a:=a.by T (by rintro ⟨⟩;omega)
 have z:=(z.grown R z0 (by rintro _ ⟨⟩;omega)).grown T (by omega) (by rintro _ ⟨⟩;omega)
 refine A3<|Ab O<|A3<|Ad O<|Aa (Ce (k:=6) (EA _) (DU _) O O b) O<|Ee (p:=[]) (q:=[]) O O O (Hj 2 2 1 8 x) ?_
 rintro _ A ⟨rfl,C⟩
 have a:=a.bs C
 have b:=b.bs C
 have z3:=C.size
 have z:=z.trans (C.mono (AA z))
 refine An (Du Ht) O ?_
 rintro _ w4 ⟨rfl,m,H,hz4⟩
 have a:=a.bs H
 have b:=b.bs H
 refine A6 (Ck (cs:=[2,2,1,8,0,0].map (Value.int .i64)) (k:=6) (by kernel_rfl) O O O (Kg _) m O) ?_
 rintro w5 ⟨m,K,hz5⟩
 have a:=a.by K (by rintro ⟨⟩;omega)
 have b:=b.by K (by rintro ⟨⟩;omega)
 have z:=(z.trans (H.mono (AA z))).grown K (by omega) (by rintro _ ⟨⟩;omega)
 refine A3<|A9 underlying275 O (BZ _)<|A6 (Cm (u:= .int .i64 8) (BZ _) O O O m (show 4<6 by decide)) ?_
 rintro w6 ⟨m,I,hz6⟩
 have m:AP w6 A.heap.size 275 ([2,2,1,8,8,0].map (Value.int .i64)):=m
 have a:=a.by I (by rintro ⟨⟩;omega)
 have b:=b.by I (by rintro ⟨⟩;omega)
 have z:=z.grown I (by omega) (by rintro _ ⟨⟩;omega)
 refine A3<|Ad O<|Aa (Ce (k:=6) (EA _) (DU _) O O a) O<|Ee (p:=[]) (q:=[]) O O O (Hj 1 1 0 3 w6) ?_
 rintro _ w7 ⟨rfl,D⟩
 have a:=a.bs D
 have b:=b.bs D
 have m:=m.bs D
 have z7:=D.size
 have z:=z.trans (D.mono (AA z))
 refine An (Du Ht) O ?_
 rintro _ w8 ⟨rfl,y,F,hz8⟩
 have a:=a.bs F
 have b:=b.bs F
 have m:=m.bs F
 refine A6 (Ck (cs:=[1,1,0,3,0,0].map (Value.int .i64)) (k:=6) (by kernel_rfl) O O O (Kg _) y O) ?_
 rintro w9 ⟨y,G,hz9⟩
 have a:=a.by G (by rintro ⟨⟩;omega)
 have b:=b.by G (by rintro ⟨⟩;omega)
 have m:=m.by G (fun e=>by have:=Option.some.inj e;omega)
 have z:=(z.trans (F.mono (AA z))).grown G (by omega) (by rintro _ ⟨⟩;omega)
 refine A3<|A9 underlying275 O (BZ _)<|A6 (Cm (u:= .int .i64 4) (BZ _) O O O y (show 1<6 by decide)) ?_
 rintro U ⟨y,B,hz10⟩
 have y:AP U w7.heap.size 275 ([1,4,0,3,0,0].map (Value.int .i64)):=y
 have a:=a.by B (by rintro ⟨⟩;omega)
 have b:=b.by B (by rintro ⟨⟩;omega)
 have m:=m.by B (fun e=>by have:=Option.some.inj e;omega)
 have z:=z.grown B (by omega) (by rintro _ ⟨⟩;omega)
 refine Ak<|Ap ?_
 refine Cw.inv (Vu (.func (.func 247) #[] #[])) (UT U) (0) mixed (by kernel_rfl) ?_ ?_ ?_
 ·exact fun w' h=>⟨h,fun h=>by cases h⟩
 ·refine Be (fun s L x c t o f=> ?_) ?_
  ·refine Ow.mk (G5 (d:= .int .u8)) ?_
   rintro _ A ⟨rfl,Z,C, -⟩
   have Q:∀k q,CI _ k=some q→0 ∈ BJ q→L k=false:=fun k q hq h0=>by
    cases hk:L k with
    |false=>rfl
    |true=>rw [f k q hq hk 0 h0] at t;cases t
   have J:=Q 33 _ rfl (by decide)
   have n34:L 34=false:=by
    cases hk:L 34 with
    |false=>rfl
    |true=>rw [f 34 _ rfl hk 33 (by decide)] at J;cases J
   have nin:∀p ∈ LY,L p.1=false:=fun p E=>by
    simp only [LY,mem_cons,not_mem_nil,or_false] at E
    rcases E with rfl|rfl|rfl|rfl|rfl|rfl|rfl|rfl|rfl|rfl|rfl|rfl|rfl<;>exact Q _ _ rfl (by decide)
   refine ⟨x.heap.size,⟨c.1.trans (C.mono (AA c.1)),fun _=>⟨AA c.1,Z.congr fun k v=>⟨fun h=>h.elim,fun ⟨p,E,t,_⟩=> ?_⟩⟩⟩,fun j N=> ?_,fun _=>rfl⟩
   ·have hp0:∀p ∈ LY,(0:Nat)≠p.1:=by decide
    rw [JC (hp0 p E),nin p E] at t;cases t
   ·have j0:j≠0:=fun e=>by rw [e,t] at N;cases N
    have j33:j≠33:=fun e=>by rw [e,J] at N;cases N
    have j34:j≠34:=fun e=>by rw [e,n34] at N;cases N
    unfold Vu
    split<;>first|rfl|omega
  refine Be (fun s L x c t o f=> ?_) ?_
  ·exact Ow.val (Bi (vs:=[(5, .int .i64 1)]) (cs:=[0,0,0,0,0,1].map (Value.int .i64)) rfl (by kernel_rfl)) ⟨s,DC c (Below.refl _ _) (by decide) (by decide),fun _ _=>rfl,fun _=>rfl⟩
  refine Be (fun s L x c t o f=> ?_) ?_
  ·refine Di (C3 (M:=s) (S:=Nh L) (k:= .int .u8 1) (u:=kv [0,0,0,0,0,1]) (d:= .int .u8) underlying270 BW O O O O (c.2 (o 0 (by decide))).2 (DW t (by decide))) ?_
   exact fun A g=>⟨s,GE (i:=2) (n:=1) (l:=[0,0,0,0,0,1]) c (o 0 (by decide)) (by decide) (by decide) g,fun _ _=>rfl,fun h=>by cases h⟩
  refine Be (fun s L x c t o f=> ?_) ?_
  ·exact Ow.val (Bi (vs:=[(5, .int .i64 1)]) (cs:=[0,0,0,0,0,1].map (Value.int .i64)) rfl (by kernel_rfl)) ⟨s,DC c (Below.refl _ _) (by decide) (by decide),fun _ _=>rfl,fun _=>rfl⟩
  refine Be (fun s L x c t o f=> ?_) ?_
  ·refine Di (C3 (M:=s) (S:=Nh L) (k:= .int .u8 2) (u:=kv [0,0,0,0,0,1]) (d:= .int .u8) underlying270 BW O O O O (c.2 (o 0 (by decide))).2 (DW t (by decide))) ?_
   exact fun A g=>⟨s,GE (i:=4) (n:=2) (l:=[0,0,0,0,0,1]) c (o 0 (by decide)) (by decide) (by decide) g,fun _ _=>rfl,fun h=>by cases h⟩
  refine Be (fun s L x c t o f=> ?_) ?_
  ·exact Ow.val (Ce (k:=6) (EA _) (DU _) rfl rfl (b.bs c.1)) ⟨s,DC c (Below.refl _ _) (by decide) (by decide),fun _ _=>rfl,fun _=>rfl⟩
  refine Be (fun s L x c t o f=> ?_) ?_
  ·refine Di (C3 (M:=s) (S:=Nh L) (k:= .int .u8 3) (u:=kv [2,2,0,0,0,0]) (d:= .int .u8) underlying270 BW O O O O (c.2 (o 0 (by decide))).2 (DW t (by decide))) ?_
   exact fun A g=>⟨s,GE (i:=6) (n:=3) (l:=[2,2,0,0,0,0]) c (o 0 (by decide)) (by decide) (by decide) g,fun _ _=>rfl,fun h=>by cases h⟩
  refine Be (fun s L x c t o f=> ?_) ?_
  ·exact Ow.val (Ce (k:=6) (EA _) (DU _) rfl rfl (b.bs c.1)) ⟨s,DC c (Below.refl _ _) (by decide) (by decide),fun _ _=>rfl,fun _=>rfl⟩
  refine Be (fun s L x c t o f=> ?_) ?_
  ·refine Di (C3 (M:=s) (S:=Nh L) (k:= .int .u8 4) (u:=kv [2,2,0,0,0,0]) (d:= .int .u8) underlying270 BW O O O O (c.2 (o 0 (by decide))).2 (DW t (by decide))) ?_
   exact fun A g=>⟨s,GE (i:=8) (n:=4) (l:=[2,2,0,0,0,0]) c (o 0 (by decide)) (by decide) (by decide) g,fun _ _=>rfl,fun h=>by cases h⟩
  refine Be (fun s L x c t o f=> ?_) ?_
  ·exact Ow.val (Ce (k:=6) (EA _) (DU _) rfl rfl (b.bs c.1)) ⟨s,DC c (Below.refl _ _) (by decide) (by decide),fun _ _=>rfl,fun _=>rfl⟩
  refine Be (fun s L x c t o f=> ?_) ?_
  ·refine Di (C3 (M:=s) (S:=Nh L) (k:= .int .u8 7) (u:=kv [2,2,0,0,0,0]) (d:= .int .u8) underlying270 BW O O O O (c.2 (o 0 (by decide))).2 (DW t (by decide))) ?_
   exact fun A g=>⟨s,GE (i:=10) (n:=7) (l:=[2,2,0,0,0,0]) c (o 0 (by decide)) (by decide) (by decide) g,fun _ _=>rfl,fun h=>by cases h⟩
  refine Be (fun s L x c t o f=> ?_) ?_
  ·exact Ow.val (Ce (k:=6) (EA _) (DU _) rfl rfl (a.bs c.1)) ⟨s,DC c (Below.refl _ _) (by decide) (by decide),fun _ _=>rfl,fun _=>rfl⟩
  refine Be (fun s L x c t o f=> ?_) ?_
  ·refine Di (C3 (M:=s) (S:=Nh L) (k:= .int .u8 5) (u:=kv [1,1,0,0,0,0]) (d:= .int .u8) underlying270 BW O O O O (c.2 (o 0 (by decide))).2 (DW t (by decide))) ?_
   exact fun A g=>⟨s,GE (i:=12) (n:=5) (l:=[1,1,0,0,0,0]) c (o 0 (by decide)) (by decide) (by decide) g,fun _ _=>rfl,fun h=>by cases h⟩
  refine Be (fun s L x c t o f=> ?_) ?_
  ·exact Ow.val (Bl rfl) ⟨s,DC c (Below.refl _ _) (by decide) (by decide),fun _ _=>rfl,fun _=>rfl⟩
  refine Be (fun s L x c t o f=> ?_) ?_
  ·exact Ow.val (Ce (k:=6) (EA _) (DU _) rfl rfl (a.bs c.1)) ⟨s,DC c (Below.refl _ _) (by decide) (by decide),fun _ _=>rfl,fun _=>rfl⟩
  refine Be (fun s L x c t o f=> ?_) ?_
  ·exact Gl (Xc.val (p:=[]) (q:=[]) (vs:=[kv [1,1,0,0,0,0], .int .i64 0, .int .i64 31]) (Hj 1 1 0 31 x).1 rfl rfl) (Hj 1 1 0 31 x) (fun _ A ⟨e,g⟩=>⟨s,DC c g (by decide) (by decide),fun _ _=>rfl,fun _=>e⟩)
  refine Be (fun s L x c t o f=> ?_) ?_
  ·refine Di (C3 (M:=s) (S:=Nh L) (k:= .int .u8 6) (u:=kv [1,1,0,31,0,0]) (d:= .int .u8) underlying270 BW O O O O (c.2 (o 0 (by decide))).2 (DW t (by decide))) ?_
   exact fun A g=>⟨s,GE (i:=16) (n:=6) (l:=[1,1,0,31,0,0]) c (o 0 (by decide)) (by decide) (by decide) g,fun _ _=>rfl,fun h=>by cases h⟩
  refine Be (fun s L x c t o f=> ?_) ?_
  ·exact Ow.val (Ce (k:=6) (EA _) (DU _) rfl rfl (m.bs c.1)) ⟨s,DC c (Below.refl _ _) (by decide) (by decide),fun _ _=>rfl,fun _=>rfl⟩
  refine Be (fun s L x c t o f=> ?_) ?_
  ·refine Di (C3 (M:=s) (S:=Nh L) (k:= .int .u8 8) (u:=kv [2,2,1,8,8,0]) (d:= .int .u8) underlying270 BW O O O O (c.2 (o 0 (by decide))).2 (DW t (by decide))) ?_
   exact fun A g=>⟨s,GE (i:=18) (n:=8) (l:=[2,2,1,8,8,0]) c (o 0 (by decide)) (by decide) (by decide) g,fun _ _=>rfl,fun h=>by cases h⟩
  refine Be (fun s L x c t o f=> ?_) ?_
  ·exact Ow.val (Bl rfl) ⟨s,DC c (Below.refl _ _) (by decide) (by decide),fun _ _=>rfl,fun _=>rfl⟩
  refine Be (fun s L x c t o f=> ?_) ?_
  ·exact Ow.val (Ce (k:=6) (EA _) (DU _) rfl rfl (a.bs c.1)) ⟨s,DC c (Below.refl _ _) (by decide) (by decide),fun _ _=>rfl,fun _=>rfl⟩
  refine Be (fun s L x c t o f=> ?_) ?_
  ·exact Gl (Xc.val (p:=[]) (q:=[]) (vs:=[kv [1,1,0,0,0,0], .int .i64 1, .int .i64 64]) (Hj 1 1 1 64 x).1 rfl rfl) (Hj 1 1 1 64 x) (fun _ A ⟨e,g⟩=>⟨s,DC c g (by decide) (by decide),fun _ _=>rfl,fun _=>e⟩)
  refine Be (fun s L x c t o f=> ?_) ?_
  ·refine Di (C3 (M:=s) (S:=Nh L) (k:= .int .u8 9) (u:=kv [1,1,1,64,0,0]) (d:= .int .u8) underlying270 BW O O O O (c.2 (o 0 (by decide))).2 (DW t (by decide))) ?_
   exact fun A g=>⟨s,GE (i:=22) (n:=9) (l:=[1,1,1,64,0,0]) c (o 0 (by decide)) (by decide) (by decide) g,fun _ _=>rfl,fun h=>by cases h⟩
  refine Be (fun s L x c t o f=> ?_) ?_
  ·exact Ow.val (Bi (vs:=[(0, .int .i64 1),(1, .int .i64 1),(5, .int .i64 1)]) (cs:=[1,1,0,0,0,1].map (Value.int .i64)) rfl (by kernel_rfl)) ⟨s,DC c (Below.refl _ _) (by decide) (by decide),fun _ _=>rfl,fun _=>rfl⟩
  refine Be (fun s L x c t o f=> ?_) ?_
  ·refine Di (C3 (M:=s) (S:=Nh L) (k:= .int .u8 10) (u:=kv [1,1,0,0,0,1]) (d:= .int .u8) underlying270 BW O O O O (c.2 (o 0 (by decide))).2 (DW t (by decide))) ?_
   exact fun A g=>⟨s,GE (i:=24) (n:=10) (l:=[1,1,0,0,0,1]) c (o 0 (by decide)) (by decide) (by decide) g,fun _ _=>rfl,fun h=>by cases h⟩
  refine Be (fun s L x c t o f=> ?_) ?_
  ·exact Ow.val (Bi (vs:=[(0, .int .i64 1),(1, .int .i64 1),(5, .int .i64 2)]) (cs:=[1,1,0,0,0,2].map (Value.int .i64)) rfl (by kernel_rfl)) ⟨s,DC c (Below.refl _ _) (by decide) (by decide),fun _ _=>rfl,fun _=>rfl⟩
  refine Be (fun s L x c t o f=> ?_) ?_
  ·refine Di (C3 (M:=s) (S:=Nh L) (k:= .int .u8 11) (u:=kv [1,1,0,0,0,2]) (d:= .int .u8) underlying270 BW O O O O (c.2 (o 0 (by decide))).2 (DW t (by decide))) ?_
   exact fun A g=>⟨s,GE (i:=26) (n:=11) (l:=[1,1,0,0,0,2]) c (o 0 (by decide)) (by decide) (by decide) g,fun _ _=>rfl,fun h=>by cases h⟩
  refine Be (fun s L x c t o f=> ?_) ?_
  ·exact Ow.val (Ce (k:=6) (EA _) (DU _) rfl rfl (y.bs c.1)) ⟨s,DC c (Below.refl _ _) (by decide) (by decide),fun _ _=>rfl,fun _=>rfl⟩
  refine Be (fun s L x c t o f=> ?_) ?_
  ·refine Di (C3 (M:=s) (S:=Nh L) (k:= .int .u8 12) (u:=kv [1,4,0,3,0,0]) (d:= .int .u8) underlying270 BW O O O O (c.2 (o 0 (by decide))).2 (DW t (by decide))) ?_
   exact fun A g=>⟨s,GE (i:=28) (n:=12) (l:=[1,4,0,3,0,0]) c (o 0 (by decide)) (by decide) (by decide) g,fun _ _=>rfl,fun h=>by cases h⟩
  refine Be (fun s L x c t o f=> ?_) ?_
  ·exact Ow.val (Bl rfl) ⟨s,DC c (Below.refl _ _) (by decide) (by decide),fun _ _=>rfl,fun _=>rfl⟩
  refine Be (fun s L x c t o f=> ?_) ?_
  ·exact Ow.val (Ce (k:=6) (EA _) (DU _) rfl rfl (a.bs c.1)) ⟨s,DC c (Below.refl _ _) (by decide) (by decide),fun _ _=>rfl,fun _=>rfl⟩
  refine Be (fun s L x c t o f=> ?_) ?_
  ·exact Gl (Xc.val (p:=[]) (q:=[]) (vs:=[kv [1,1,0,0,0,0], .int .i64 0, .int .i64 3]) (Hj 1 1 0 3 x).1 rfl rfl) (Hj 1 1 0 3 x) (fun _ A ⟨e,g⟩=>⟨s,DC c g (by decide) (by decide),fun _ _=>rfl,fun _=>e⟩)
  refine Be (fun s L x c t o f=> ?_) ?_
  ·refine Di (C3 (M:=s) (S:=Nh L) (k:= .int .u8 13) (u:=kv [1,1,0,3,0,0]) (d:= .int .u8) underlying270 BW O O O O (c.2 (o 0 (by decide))).2 (DW t (by decide))) ?_
   exact fun A g=>⟨s,GE (i:=32) (n:=13) (l:=[1,1,0,3,0,0]) c (o 0 (by decide)) (by decide) (by decide) g,fun _ _=>rfl,fun h=>by cases h⟩
  refine Be (fun s L x c t o f=> ?_) ?_
  ·exact Ow.val (Bl rfl) ⟨s,DC c (Below.refl _ _) (by decide) (by decide),fun _ _=>rfl,fun _=>rfl⟩
  refine Be (fun s L x c t o f=> ?_) ?_
  ·exact Ow.val (Bx rfl) ⟨s,DC c (Below.refl _ _) (by decide) (by decide),fun _ _=>rfl,fun _=>rfl⟩
  exact Hb
 intro s L w' c hall
 have h0:=c.2 (hall 0 (by decide))
 have Y:∀p ∈ LY,p.1<35:=by decide
 have Z:BN w' s (.int .u8) KD:=h0.2.congr fun k v=>⟨fun ⟨p,E,_,h⟩=>⟨p,E,h⟩,fun ⟨p,E,h⟩=>⟨p,E,hall p.1 (Y p E),h⟩⟩
 have hBF:=z.trans (c.1.mono (AA z))
 have zB:=AA z
 exact Ay<|B9<|Dq<|Al rfl rfl<|⟨hBF,s,rfl,by omega,Z⟩

theorem Je (u v:Value) (l m:List (BitVec 8)) (w:World) (q:BE (b8) w u l) (x:BE (b8) w v m):
  AN prog 16 [u,v] w (fun r w' =>r= .bool (decide (l=m))∧Below w.heap.size w w'):=by
 have y:=q.le
 refine A4 (n:=26) func16 O<|Ai<|Ab O<|A8<|Ad O<|Aa (Aq AO O ‹_›) O ?_
 refine Ad O<|Aa (Aq AO O ‹_›) O ?_
 refine Aa (C0 O O) O<|Ak<|Am O ?_ ?_
 ·intro h
  have d:l≠m:=fun e=>by subst e;simp at h
  exact Ai<|Ab rfl<|Bw<|Al rfl rfl<|⟨by rw [decide_eq_false d],Below.refl _ _⟩
 ·intro h
  have i:l.length=m.length:=by simp at h;omega
  refine B1<|Ap<|Ai<|Ab O<|Ak<|Ar ?_
  refine Bu (S:=Nat) (fun k=>[(0,u),(1,v),(5, .int .i64 (k:Int))]) (fun k w' =>k≤l.length∧l.take k=m.take k∧Below w.heap.size w w') (fun k=>l.length - k) (0) ⟨rfl,rfl,rfl,trivial⟩ ?_ ?_
  ·exact ⟨by omega,by simp,Below.refl _ _⟩
  rintro k f ⟨z,p,b⟩
  have s:=q.bs b
  have t:=x.bs b
  refine Ap<|Ai<|Ad O<|Ad O<|Aa (Aq AO O ‹_›) O ?_
  refine B8 O<|Ak<|Am O ?_ ?_
  ·intro h
   have c:k<l.length:=by simp at h;omega
   have g:k<m.length:=by omega
   refine B1<|Ap<|Ar<|Ap<|Dz mixed (by kernel_rfl)<|B5 O<|B5 O<|Ax (fun f a=>Bb AO O O (Sl.bs ‹_› a) _ O (by omega)) O ?_
   refine Ax (fun f a=>Bf (LW _) O (Sl.bs ‹_› a) (by omega)) O ?_
   refine B5 O<|B5 O<|Ax (fun f a=>Bb AO O O (Sl.bs ‹_› a) _ O (by omega)) O ?_
   refine Ax (fun f a=>Bf (LW _) O (Sl.bs ‹_› a) (by omega)) O ?_
   refine Ax (fun f a=>Ex.neq8 O O) O ?_
   refine Dk (fun A a=> ?_)
   refine Ay<|B9 ?_
   have j:=bt b a
   refine Am O ?_ ?_
   ·intro h
    have d:l≠m:=fun e=>by subst e;simp at h
    exact Ai<|Ab rfl<|As<|Bd<|A0<|A0<|Bd<|A0<|Al rfl rfl<|⟨by rw [decide_eq_false d],j⟩
   ·intro h
    refine Cj<|Ba<|Cr<|Ad O<|Ca O (by omega)<|Ab O<|A7 ?_
    have o:l.take (k+1)=m.take (k+1):=by
     rw [take_succ_eq_append_getElem c,take_succ_eq_append_getElem g,p]
     simp [c,g] at h
     rw [h]
    exact Ay (Br (k+1) ⟨rfl,rfl,rfl,trivial⟩ (⟨by omega,o,j⟩) (by omega))
  ·intro h
   have c:k=l.length:=by simp at h;omega
   subst c
   rw [take_length,i,take_length] at p
   exact Bq<|Au<|Au<|Bc<|Cf<|Ab rfl<|As<|Al rfl rfl<|⟨by rw [decide_eq_true p],b⟩
theorem FA (v:Value) (l:List (Int)) (w:World) (z:BE (Value.int .i64) w v l) (N:l.length≤4194304):
  AN prog 226 [v] w (fun r w' =>Twn w' w.heap.size 3 (Value.int .i64) (Value.int .i64 (77)) r l∧Below w.heap.size w w'):=by
 refine A4 (n:=28) func226 O<|Ai<|Ab O<|A3<|Ad O<|Aa (Aq AH O ‹_›) O ?_
 refine Ca O (by omega)<|An (Ej (l:=0) (c:=l.length+1) AH DH O O O (by omega) (by omega) (by omega)) O ?_
 rintro q x ⟨b, -,a,p⟩
 refine Ab O<|A8<|Ab O<|Ak<|Ar ?_
 refine Bu (S:=(Nat×Value)) (fun s=>[(0,v),(3,s.2),(4, .int .i64 (s.1:Int))]) (fun s w' =>s.1≤l.length∧w'.ownsRow w.heap.size 3 1 s.2 s.1 ((l.take s.1).map (Value.int .i64))∧Below w.heap.size w w') (fun s=>l.length - s.1) ((0,q)) ⟨rfl,rfl,rfl,trivial⟩ ?_ ?_
 ·exact ⟨by omega,by simpa using b,a⟩
 clear b a p q x
 rintro ⟨k,q⟩ x ⟨D,b,a⟩
 simp only at D b
 have B:=z.bs a
 have p:=a.size
 refine Ap<|Ai<|Ad O<|Ad O<|Aa (Aq AH O ‹_›) O ?_
 refine B8 O<|Ak<|Am O ?_ ?_
 ·intro h
  have f:k<l.length:=by simp at h;omega
  refine B1<|Ap<|Ar<|A5<|Ad O<|Ad O<|Ad O<|Aa (Bb AH O O ‹_› _ O (by omega)) O ?_
  refine Aa (Bf (BD _) O ‹_› (by omega)) O ?_
  refine An (B7 (vs:=[Value.int .i64 (l.getD k default)]) AH DH O O O O O) O ?_
  rintro H K ⟨m, -,i,u⟩
  refine An (C1 (base:=w.heap.size) AH DH O (by decide) O O (AF b i) (AG m) O (by omega) (by omega) (by omega)) O ?_
  rintro y C ⟨d,o,_⟩
  refine Ab O<|A7<|Ba<|Cr<|Ad O<|Ca O (by omega)<|Ab O<|A7 ?_
  have e:(l.take k).map (Value.int .i64)++[Value.int .i64 (l.getD k default)]=(l.take (k+1)).map (Value.int .i64):=by
   rw [take_succ_eq_append_getElem f,map_append];simp [f]
  rw [e] at d
  exact Ay (Br ((k+1,y)) ⟨rfl,rfl,rfl,trivial⟩ (⟨f,d,(bt a i).trans o⟩) (by simp only;omega))
 ·intro h
  have f:k=l.length:=by simp at h;omega
  subst f
  refine Bq<|Au<|Au<|Bc<|Cf<|Ad O<|An (B7 (vs:=[Value.int .i64 (77)]) AH DH O O O O O) O ?_
  rintro H K ⟨m, -,i,u⟩
  refine An (C1 (base:=w.heap.size) AH DH O (by decide) O O (AF b i) (AG m) O (by omega) (by omega) (by omega)) O ?_
  rintro y C ⟨d,o,_⟩
  have j:=(bt a i).trans o
  have F:=z.bs j
  rcases d.2 with ⟨_,L⟩|⟨g,cap,E,rfl,M,I,G,A,J,t⟩
  ·omega
  refine Ad O<|Aa (Aq AH O ‹_›) O ?_
  refine Aa (Fy AH O O (by omega)) O<|Ab O<|As<|Al O O ?_
  exact ⟨⟨g,cap,rfl,by simpa using d⟩,j⟩
theorem HR (u v:Value) (l m:List (Int)) (w:World) (q:BE (Value.int .i64) w u l) (x:BE (Value.int .i64) w v m):
  AN prog 36 [u,v] w (fun r w' =>r= .bool (decide (l=m))∧Below w.heap.size w w'):=by
 have y:=q.le
 refine A4 (n:=26) func36 O<|Ai<|Ab O<|A8<|Ad O<|Aa (Aq AH O ‹_›) O ?_
 refine Ad O<|Aa (Aq AH O ‹_›) O ?_
 refine Aa (C0 O O) O<|Ak<|Am O ?_ ?_
 ·intro h
  have d:l≠m:=fun e=>by subst e;simp at h
  exact Ai<|Ab rfl<|Bw<|Al rfl rfl<|⟨by rw [decide_eq_false d],Below.refl _ _⟩
 ·intro h
  have i:l.length=m.length:=by simp at h;omega
  refine B1<|Ap<|Ai<|Ab O<|Ak<|Ar ?_
  refine Bu (S:=Nat) (fun k=>[(0,u),(1,v),(5, .int .i64 (k:Int))]) (fun k w' =>k≤l.length∧l.take k=m.take k∧Below w.heap.size w w') (fun k=>l.length - k) (0) ⟨rfl,rfl,rfl,trivial⟩ ?_ ?_
  ·exact ⟨by omega,by simp,Below.refl _ _⟩
  rintro k f ⟨z,p,b⟩
  have s:=q.bs b
  have t:=x.bs b
  refine Ap<|Ai<|Ad O<|Ad O<|Aa (Aq AH O ‹_›) O ?_
  refine B8 O<|Ak<|Am O ?_ ?_
  ·intro h
   have c:k<l.length:=by simp at h;omega
   have g:k<m.length:=by omega
   refine B1<|Ap<|Ar<|Ap<|Dz mixed (by kernel_rfl)<|B5 O<|B5 O<|Ax (fun f a=>Bb AH O O (Sl.bs ‹_› a) _ O (by omega)) O ?_
   refine Ax (fun f a=>Bf (BD _) O (Sl.bs ‹_› a) (by omega)) O ?_
   refine B5 O<|B5 O<|Ax (fun f a=>Bb AH O O (Sl.bs ‹_› a) _ O (by omega)) O ?_
   refine Ax (fun f a=>Bf (BD _) O (Sl.bs ‹_› a) (by omega)) O ?_
   refine Ax (fun f a=>C0 O O) O ?_
   refine Dk (fun A a=> ?_)
   refine Ay<|B9 ?_
   have j:=bt b a
   refine Am O ?_ ?_
   ·intro h
    have d:l≠m:=fun e=>by subst e;simp at h
    exact Ai<|Ab rfl<|As<|Bd<|A0<|A0<|Bd<|A0<|Al rfl rfl<|⟨by rw [decide_eq_false d],j⟩
   ·intro h
    refine Cj<|Ba<|Cr<|Ad O<|Ca O (by omega)<|Ab O<|A7 ?_
    have o:l.take (k+1)=m.take (k+1):=by
     rw [take_succ_eq_append_getElem c,take_succ_eq_append_getElem g,p]
     simp [c,g] at h
     rw [h]
    exact Ay (Br (k+1) ⟨rfl,rfl,rfl,trivial⟩ (⟨by omega,o,j⟩) (by omega))
  ·intro h
   have c:k=l.length:=by simp at h;omega
   subst c
   rw [take_length,i,take_length] at p
   exact Bq<|Au<|Au<|Bc<|Cf<|Ab rfl<|As<|Al rfl rfl<|⟨by rw [decide_eq_true p],b⟩
theorem FP (v:Value) (l:List (BitVec 32)) (w:World) (z:BE (i32) w v l) (N:l.length≤4194304):
  AN prog 227 [v] w (fun r w' =>Twn w' w.heap.size 21 (i32) (i32 (77#32)) r l∧Below w.heap.size w w'):=by
 refine A4 (n:=28) func227 O<|Ai<|Ab O<|A3<|Ad O<|Aa (Aq CE O ‹_›) O ?_
 refine Ca O (by omega)<|An (Ej (l:=0) (c:=l.length+1) CE Kj O O O (by omega) (by omega) (by omega)) O ?_
 rintro q x ⟨b, -,a,p⟩
 refine Ab O<|A8<|Ab O<|Ak<|Ar ?_
 refine Bu (S:=(Nat×Value)) (fun s=>[(0,v),(3,s.2),(4, .int .i64 (s.1:Int))]) (fun s w' =>s.1≤l.length∧w'.ownsRow w.heap.size 21 1 s.2 s.1 ((l.take s.1).map (i32))∧Below w.heap.size w w') (fun s=>l.length - s.1) ((0,q)) ⟨rfl,rfl,rfl,trivial⟩ ?_ ?_
 ·exact ⟨by omega,by simpa using b,a⟩
 clear b a p q x
 rintro ⟨k,q⟩ x ⟨D,b,a⟩
 simp only at D b
 have B:=z.bs a
 have p:=a.size
 refine Ap<|Ai<|Ad O<|Ad O<|Aa (Aq CE O ‹_›) O ?_
 refine B8 O<|Ak<|Am O ?_ ?_
 ·intro h
  have f:k<l.length:=by simp at h;omega
  refine B1<|Ap<|Ar<|A5<|Ad O<|Ad O<|Ad O<|Aa (Bb CE O O ‹_› _ O (by omega)) O ?_
  refine Aa (Bf (MZ _) O ‹_› (by omega)) O ?_
  refine An (B7 (vs:=[i32 (l.getD k default)]) CE Kj O O O O O) O ?_
  rintro H K ⟨m, -,i,u⟩
  refine An (C1 (base:=w.heap.size) CE Kj O (by decide) O O (AF b i) (AG m) O (by omega) (by omega) (by omega)) O ?_
  rintro y C ⟨d,o,_⟩
  refine Ab O<|A7<|Ba<|Cr<|Ad O<|Ca O (by omega)<|Ab O<|A7 ?_
  have e:(l.take k).map (i32)++[i32 (l.getD k default)]=(l.take (k+1)).map (i32):=by
   rw [take_succ_eq_append_getElem f,map_append];simp [f]
  rw [e] at d
  exact Ay (Br ((k+1,y)) ⟨rfl,rfl,rfl,trivial⟩ (⟨f,d,(bt a i).trans o⟩) (by simp only;omega))
 ·intro h
  have f:k=l.length:=by simp at h;omega
  subst f
  refine Bq<|Au<|Au<|Bc<|Cf<|Ad O<|An (B7 (vs:=[i32 (77#32)]) CE Kj O O O O O) O ?_
  rintro H K ⟨m, -,i,u⟩
  refine An (C1 (base:=w.heap.size) CE Kj O (by decide) O O (AF b i) (AG m) O (by omega) (by omega) (by omega)) O ?_
  rintro y C ⟨d,o,_⟩
  have j:=(bt a i).trans o
  have F:=z.bs j
  rcases d.2 with ⟨_,L⟩|⟨g,cap,E,rfl,M,I,G,A,J,t⟩
  ·omega
  refine Ad O<|Aa (Aq CE O ‹_›) O ?_
  refine Aa (Fy CE O O (by omega)) O<|Ab O<|As<|Al O O ?_
  exact ⟨⟨g,cap,rfl,by simpa using d⟩,j⟩
theorem K5 (u v:Value) (l m:List (BitVec 32)) (w:World) (q:BE (i32) w u l) (x:BE (i32) w v m):
  AN prog 234 [u,v] w (fun r w' =>r= .bool (decide (l=m))∧Below w.heap.size w w'):=by
 have y:=q.le
 refine A4 (n:=26) func234 O<|Ai<|Ab O<|A8<|Ad O<|Aa (Aq CE O ‹_›) O ?_
 refine Ad O<|Aa (Aq CE O ‹_›) O ?_
 refine Aa (C0 O O) O<|Ak<|Am O ?_ ?_
 ·intro h
  have d:l≠m:=fun e=>by subst e;simp at h
  exact Ai<|Ab rfl<|Bw<|Al rfl rfl<|⟨by rw [decide_eq_false d],Below.refl _ _⟩
 ·intro h
  have i:l.length=m.length:=by simp at h;omega
  refine B1<|Ap<|Ai<|Ab O<|Ak<|Ar ?_
  refine Bu (S:=Nat) (fun k=>[(0,u),(1,v),(5, .int .i64 (k:Int))]) (fun k w' =>k≤l.length∧l.take k=m.take k∧Below w.heap.size w w') (fun k=>l.length - k) (0) ⟨rfl,rfl,rfl,trivial⟩ ?_ ?_
  ·exact ⟨by omega,by simp,Below.refl _ _⟩
  rintro k f ⟨z,p,b⟩
  have s:=q.bs b
  have t:=x.bs b
  refine Ap<|Ai<|Ad O<|Ad O<|Aa (Aq CE O ‹_›) O ?_
  refine B8 O<|Ak<|Am O ?_ ?_
  ·intro h
   have c:k<l.length:=by simp at h;omega
   have g:k<m.length:=by omega
   refine B1<|Ap<|Ar<|Ap<|Dz mixed (by kernel_rfl)<|B5 O<|B5 O<|Ax (fun f a=>Bb CE O O (Sl.bs ‹_› a) _ O (by omega)) O ?_
   refine Ax (fun f a=>Bf (MZ _) O (Sl.bs ‹_› a) (by omega)) O ?_
   refine B5 O<|B5 O<|Ax (fun f a=>Bb CE O O (Sl.bs ‹_› a) _ O (by omega)) O ?_
   refine Ax (fun f a=>Bf (MZ _) O (Sl.bs ‹_› a) (by omega)) O ?_
   refine Ax (fun f a=>Ex.neqi32 O O) O ?_
   refine Dk (fun A a=> ?_)
   refine Ay<|B9 ?_
   have j:=bt b a
   refine Am O ?_ ?_
   ·intro h
    have d:l≠m:=fun e=>by subst e;simp at h
    exact Ai<|Ab rfl<|As<|Bd<|A0<|A0<|Bd<|A0<|Al rfl rfl<|⟨by rw [decide_eq_false d],j⟩
   ·intro h
    refine Cj<|Ba<|Cr<|Ad O<|Ca O (by omega)<|Ab O<|A7 ?_
    have o:l.take (k+1)=m.take (k+1):=by
     rw [take_succ_eq_append_getElem c,take_succ_eq_append_getElem g,p]
     simp [c,g] at h
     rw [h]
    exact Ay (Br (k+1) ⟨rfl,rfl,rfl,trivial⟩ (⟨by omega,o,j⟩) (by omega))
  ·intro h
   have c:k=l.length:=by simp at h;omega
   subst c
   rw [take_length,i,take_length] at p
   exact Bq<|Au<|Au<|Bc<|Cf<|Ab rfl<|As<|Al rfl rfl<|⟨by rw [decide_eq_true p],b⟩

theorem Jo.at {W w:World} {x y:Value} {s:List Int} {l:List (BitVec 32)} (h:Jo W w x y s l):(T4.mk x y s l).at w:=⟨h.sh,AG h.own⟩
theorem Nq {s:List Int} {l:List (BitVec 32)} (h:K4 s l=true):Shapes.ok s=true∧l.length=(Shapes.size s).toNat:=by
 simp only [K4,Bool.and_eq_true,decide_eq_true_eq] at h
 exact ⟨h.1,by omega⟩
theorem RW {s:List Int} {l m:List (BitVec 32)} (h:K4 s l=true) (a:m.length=l.length):K4 s m=true:=by simpa [K4,a] using h
def Jp (s:List Int) (l:List (BitVec 32)):Int:=if 1+(s.length:Int)≤1048576 then 1+(s.length:Int)+(l.length:Int) else 1+(s.length:Int)
theorem HW (u:Value) (l:List Int) (w:World) (a:BE (Value.int .i64) w u l):AN prog 224 [u] w (fun r w' =>r= .int .i64 (l.length:Int)∧Below w.heap.size w w'):=by
 refine A4 (n:=5) func224 O<|Ai<|Ab O<|A3<|Ad O<|Aa (Aq AH O ‹_›) O ?_
 exact Ab rfl<|As<|Al rfl rfl<|⟨rfl,Below.refl _ _⟩
theorem N4 (u:Value) (l:List (BitVec 32)) (w:World) (a:BE i32 w u l):AN prog 225 [u] w (fun r w' =>r= .int .i64 (l.length:Int)∧Below w.heap.size w w'):=by
 refine A4 (n:=5) func225 O<|Ai<|Ab O<|A3<|Ad O<|Aa (Aq CE O ‹_›) O ?_
 exact Ab rfl<|As<|Al rfl rfl<|⟨rfl,Below.refl _ _⟩
theorem RV (a:T4) (w:World) (d:a.at w) (l:a.s.length≤1125899906842624) (j:a.l.length≤1125899906842624):AN prog 139 [a.v] w (fun r w' =>r= .int .i64 (Jp a.s a.l)∧Below w.heap.size w w'):=by
 have e:=Below.refl w.heap.size w
 refine A4 (n:=19) func139 O<|Ai<|An (Xw.box (cs:=[a.x,a.y]) O O) O ?_
 rintro _ h ⟨rfl,b,c, -⟩
 have e:=e.bs c
 have d:=d.bs c
 have m:=d.1
 refine Ab O<|A3<|Ab O<|A8<|Ad O<|Aa (Ef O O) O<|Ak<|Cq O true (by decide)<|A5<|Ad O<|A9 underlying75 O (BL _)<|Aa (Ao (AY _) O ‹_› rfl) O ?_
 refine Ah O O (HW a.x a.s h d.1) ?_
 rintro _ i ⟨rfl,c⟩
 have e:=e.bs c
 have d:=d.bs c
 have b:=b.bs c
 refine Ca O (by omega)<|Ab O<|A8<|Ad O<|Aa (Ef O O) O<|Ak<|Am O ?_ ?_
 ·intro g
  have f:=AE g
  refine A5<|Ad O<|A9 underlying75 O (FY _)<|Aa (Ao (GG _) O ‹_› rfl) O ?_
  refine Ah O O (N4 a.y a.l i d.2) ?_
  rintro _ k ⟨rfl,c⟩
  have e:=e.bs c
  have d:=d.bs c
  have b:=b.bs c
  refine Ca O (by omega)<|Ab O<|A3<|Ad O<|Ab O<|As<|Al O O ?_
  exact ⟨by rw [Jp,if_pos f],e⟩
 ·intro g
  have f:=AD g
  exact Ci<|Ad rfl<|Ab rfl<|As<|Al rfl rfl<|⟨by rw [Jp,if_neg f],e⟩
end Go.Proofs.YtblbopcaflaldaaGreatDoor

namespace Go.Dd
abbrev Vj:=BitVec 32
def sm:Nat→(Nat→Vj)→Vj
 |0,_=>0#32
 |n+1,f=>sm n f+f n
def ad (n:Nat) (a b:List Vj):List Vj:=(List.range n).map fun i=>a.getD i default+b.getD i default
end Go.Dd

namespace Go.Dd
open Go Go.RowKit List
def Rf (f:Nat→Int):Nat→Int
 |0=>0
 |n+1=>Rf f n+f n
def Iv (f:Nat→Int):List Nat→Int
 |[]=>0
 |x::l=>f x+Iv f l
theorem Ji (f:Nat→Int):∀(l m:List Nat),Iv f (l++m)=Iv f l+Iv f m
 |[],m=>by simp [Iv]
 |x::l,m=>by simp only [cons_append,Iv];rw [Ji f l m];omega
theorem Pt {f:Nat→Int} {l m:List Nat} (h:l.Perm m):Iv f l=Iv f m:=by
 induction h with
 |nil=>rfl
 |cons x _ ih=>simp only [Iv];rw [ih]
 |swap x y l=>simp only [Iv];omega
 |trans _ _ h1 h2=>rw [h1,h2]
theorem JZ (f:Nat→Int):∀n,Iv f (List.range n)=Rf f n
 |0=>rfl
 |n+1=>by rw [range_succ,Ji,JZ f n];simp [Rf,Iv]
def QF (o:List Int) (j:Nat):Bool:=decide (0≤o.getD j default) && decide (o.getD j default<(o.length:Int)) && !(o.take j).contains (o.getD j default)
def HK (o:List Int):Bool:=(List.range o.length).all (QF o)
theorem IN {o:List Int}:HK o=true↔∀j,j<o.length→QF o j=true:=by
 unfold HK
 rw [all_eq_true]
 exact ⟨fun h j a=>h j (List.mem_range.2 a),fun h j a=>h j (List.mem_range.1 a)⟩
theorem IM {o:List Int} (h:HK o=true) {j:Nat} (a:j<o.length):0≤o.getD j default∧o.getD j default<(o.length:Int):=by
 have:=IN.1 h j a
 simp only [QF,Bool.and_eq_true,decide_eq_true_eq] at this
 exact this.1
theorem TE {o:List Int} (h:HK o=true) {i j:Nat} (g:i<j) (c:j<o.length):o.getD i default≠o.getD j default:=by
 intro e
 have:=IN.1 h j c
 simp only [QF,Bool.and_eq_true,Bool.not_eq_true'] at this
 have a:=this.2
 have b:o.getD j default ∈ o.take j:=by
  rw [← e]
  have d:i<o.length:=by omega
  have f:i<(o.take j).length:=by rw [length_take];omega
  have:(o.take j)[i]=o.getD i default:=by simp [d]
  rw [← this]
  exact getElem_mem f
 have:(o.take j).contains (o.getD j default)=true:=by simpa using b
 rw [this] at a
 cases a
def TG (o:List Int):List Nat:=o.map Int.toNat
theorem UI:∀a:Fin 1,[a.val].isPerm [0]=true:=by decide
theorem UH:∀a b:Fin 2,a≠b→[a.val,b.val].isPerm [0,1]=true:=by decide
theorem UG:∀a b c:Fin 3,a≠b→a≠c→b≠c→[a.val,b.val,c.val].isPerm [0,1,2]=true:=by decide+kernel
theorem TB:∀a b c d:Fin 4,(a==b||a==c||a==d||b==c||b==d||c==d||[a.val,b.val,c.val,d.val].isPerm [0,1,2,3])=true:=by decide+kernel
theorem UF (a b c d:Fin 4) (h:a≠b) (f:a≠c) (j:a≠d) (g:b≠c) (i:b≠d) (e:c≠d):[a.val,b.val,c.val,d.val].isPerm [0,1,2,3]=true:=by
 have:=TB a b c d
 rw [beq_false_of_ne h,beq_false_of_ne f,beq_false_of_ne j,beq_false_of_ne g,beq_false_of_ne i,beq_false_of_ne e] at this
 exact this
theorem FU {n:Nat} {a b:Fin n} (h:a.val≠b.val):a≠b:=fun e=>h (cngA Fin.val e)
theorem QE {o:List Int} (h:HK o=true) (m:o.length≤4):(TG o).Perm (List.range o.length):=by
 have f:∀{j:Nat},j<o.length→(o.getD j default).toNat<o.length:=fun k=>by have:=IM h k;omega
 have g:∀{i j:Nat},i<j→j<o.length→(o.getD i default).toNat≠(o.getD j default).toNat:=fun l k e=>by
  have p:=IM h (j:=_) (Nat.lt_trans l k)
  have n:=IM h k
  exact TE h l k (by omega)
 match o,m, @f, @g with
 |[],_,_,_=>exact List.Perm.refl _
 |[a],_,f,_=>exact List.isPerm_iff.1 (UI ⟨_,f (j:=0) (by simp)⟩)
 |[a,b],_,f,g=>exact List.isPerm_iff.1 (UH ⟨_,f (j:=0) (by simp)⟩ ⟨_,f (j:=1) (by simp)⟩ (FU (g (i:=0) (j:=1) (by simp) (by simp))))
 |[a,b,c],_,f,g=>exact List.isPerm_iff.1 (UG ⟨_,f (j:=0) (by simp)⟩ ⟨_,f (j:=1) (by simp)⟩ ⟨_,f (j:=2) (by simp)⟩ (FU (g (i:=0) (j:=1) (by simp) (by simp))) (FU (g (i:=0) (j:=2) (by simp) (by simp))) (FU (g (i:=1) (j:=2) (by simp) (by simp))))
 |[a,b,c,d],_,f,g=>exact List.isPerm_iff.1 (UF ⟨_,f (j:=0) (by simp)⟩ ⟨_,f (j:=1) (by simp)⟩ ⟨_,f (j:=2) (by simp)⟩ ⟨_,f (j:=3) (by simp)⟩ (FU (g (i:=0) (j:=1) (by simp) (by simp))) (FU (g (i:=0) (j:=2) (by simp) (by simp))) (FU (g (i:=0) (j:=3) (by simp) (by simp))) (FU (g (i:=1) (j:=2) (by simp) (by simp))) (FU (g (i:=1) (j:=3) (by simp) (by simp))) (FU (g (i:=2) (j:=3) (by simp) (by simp))))
 |_::_::_::_::_::_,m,_,_=>simp at m
def turn (s o:List Int):List Int:=o.map fun k=>s.getD k.toNat default
def Vg (s:List Int) (k:Nat):List Int:=if s.length=1 then [1] else s.take k++s.drop (k+1)

section
variable {P : Program} {n : Nat} {E : BT} {w : World} {ty t s : TypeId} {x y : Operand}
end
end Go.Dd

namespace Go.Proofs.YtblbopcaflaldaaGreatDoor
open Go Go.Dd Go.RowKit List Go.Proofs.Tryz
set_option maxRecDepth 100000
set_option maxRecDepth 100000
theorem S7 (u:Value) (l:List Int) (x:Int) (w:World) (b:BE (Value.int .i64) w u l):AN prog 290 [u, .int .i64 x] w (fun r w' =>(∃j,r= .int .i64 j∧decide (0≤j)=l.contains x)∧w' =w):=by
 have f:=b.le
 refine A4 (n:=19) func290 O<|Ai<|Ab O<|A8<|Ad O<|Aa (Aq AH O ‹_›) O ?_
 refine Ad O<|Ak<|Ar ?_
 refine Bu (S:=Nat) (fun i=>[(0,u),(1, .int .i64 x),(7, .int .i64 (l.length:Int)),(8, .int .i64 (i:Int))]) (fun i w' =>i≤l.length∧(l.take i).contains x=false∧w' =w) (fun i=>l.length - i) (0) ⟨rfl,rfl,rfl,rfl,trivial⟩ ?_ ?_
 ·exact ⟨Nat.zero_le _,rfl,rfl⟩
 rintro i k ⟨m,c,rfl⟩
 refine Ai<|B8 O<|Ak<|Ap<|Am O ?_ ?_
 ·intro h
  have a:i<l.length:=by have:=AE h;omega
  have e:l.take (i+1)=l.take i++[l.getD i default]:=by rw [take_succ_eq_append_getElem a];simp [a]
  refine B1<|Ap<|Ar<|Ai<|Ad O<|Ab O<|A3<|Ad O<|Ad O<|Ad O<|Aa (Bb AH O O ‹_› _ O (by omega)) O ?_
  refine Aa (Bf (BD _) O ‹_› (by omega)) O ?_
  refine Aa (Cn O O) O<|Ak<|Am O ?_ ?_
  ·intro g
   have g:=AE g
   refine Ai<|Ad O<|Ab O<|As<|Bd<|A0<|A0<|Bd<|A0<|Al O O ?_
   refine ⟨⟨(i:Int),rfl, ?_⟩,rfl⟩
   have d:x ∈ l:=by rw [g];simp [a]
   rw [decide_eq_true (by omega),List.contains_iff_mem.2 d]
  intro g
  have g:=AD g
  refine Cj<|Ba<|Cr<|Ca O (by omega)<|Ad O<|A7 ?_
  exact Ay (Br (i+1) ⟨rfl,rfl,rfl,rfl,trivial⟩ (⟨a,by rw [e,contains_append,c,Bool.false_or,contains_cons,beq_false_of_ne g];rfl,rfl⟩) (by omega))
 intro h
 have a:i=l.length:=by have:=AD h;omega
 subst a
 rw [take_length] at c
 refine Bq<|Au<|Au<|Bc<|Cf<|Ab O<|As<|Al O O ?_
 exact ⟨⟨-1,rfl,by rw [c];rfl⟩,rfl⟩
theorem NS (u:Value) (l:List Int) (x:Int) (w:World) (a:BE (Value.int .i64) w u l):AN prog 275 [u, .int .i64 x] w (fun r w' =>r= .bool (l.contains x)∧Below w.heap.size w w'):=by
 refine A4 (n:=9) func275 O<|Ai<|Ab O<|A3<|Ad O<|Ad O<|Ah O O (S7 u l x w a) ?_
 rintro _ _ ⟨⟨j,rfl,b⟩,rfl⟩
 exact Aa (E8 rfl rfl) rfl<|Ab rfl<|As<|Al rfl rfl<|⟨cngA Value.bool b,Below.refl _ _⟩

structure N5 where
 k:BitVec 8
 x:Value
 y:Value
 i:List Int
 s:List Int
 n:Int
 p:Int
def N5.cells (a:N5):List Value:=[b8 a.k,a.x,a.y, .int .i64 a.n, .int .i64 a.p]
abbrev N5.v (a:N5):Value:= .agg a.cells.toArray
structure N5.at (w:World) (a:N5):Prop where
 i:BE (Value.int .i64) w a.x a.i
 s:BE (Value.int .i64) w a.y a.s
theorem N5.at.bs {w w' :World} {a:N5} (h:N5.at w a) (g:Below w.heap.size w w'):N5.at w' a:=⟨h.i.bs g,h.s.bs g⟩
theorem N5.at.ones {w:World} {a:N5} (h:N5.at w a):a.cells.all (·.oneCell')=true:=by
 unfold N5.cells
 rw [all_cons,all_cons,all_cons,h.i.one',h.s.one'];rfl
def Td (l:List Int):Bool:=(List.range l.length).all fun i=>l.contains (i:Int)
theorem I7 {l:List Int}:Td l=true↔∀j,j<l.length→l.contains (j:Int)=true:=by
 unfold Td
 rw [all_eq_true]
 exact ⟨fun h j a=>h j (List.mem_range.2 a),fun h j a=>h j (List.mem_range.1 a)⟩
theorem Uk {l:List Int} {j:Nat} (a:j<l.length) (h:l.contains (j:Int)=false):Td l=false:=by
 cases hk:Td l with
 |false=>rfl
 |true=>rw [I7.1 hk j a] at h;cases h
def Jr (l:List Int):Bool:=Td l && decide (l.length≤4)
def GD (least most lo hi ar sh:Int) (i s:List Int) (n p:Int):Bool:=
 !(decide ((i.length:Int)<least)||decide (most<(i.length:Int))||decide (n<lo)||decide (hi<n)||decide (p<0)||decide (ar<p)) && (if sh=0 then decide (s.length=0) else if sh=1 then Shapes.ok s else Jr s)
theorem Rn (v:Value) (l:List Int) (w:World) (o:BE (Value.int .i64) w v l):AN prog 248 [v] w (fun r w' =>r= .bool (Jr l)∧Below w.heap.size w w'):=by
 have s:=o.le
 refine A4 (n:=17) func248 O<|Ai<|Ab O<|A8<|Ad O<|Aa (Aq AH O ‹_›) O ?_
 refine Ad O<|Ak<|Ar ?_
 refine Bu (S:=Nat) (fun i=>[(0,v),(5, .int .i64 (l.length:Int)),(6, .int .i64 (i:Int))]) (fun i w' =>i≤l.length∧(∀j,j<i→l.contains (j:Int)=true)∧Below w.heap.size w w') (fun i=>l.length - i) (0) ⟨rfl,rfl,rfl,trivial⟩ ?_ ?_
 ·exact ⟨Nat.zero_le _,fun _ h=>by omega,Below.refl _ _⟩
 rintro i p ⟨x,m,c⟩
 have k:=o.bs c
 refine Ai<|B8 O<|Ak<|Ap<|Am O ?_ ?_
 ·intro h
  have a:i<l.length:=by have:=AE h;omega
  refine B1<|Ap<|Ar<|Ai<|Ad O<|Ab O<|A3<|Ad O<|Ad O<|Ah O O (NS v l (i:Int) p k) ?_
  rintro _ u ⟨rfl,t⟩
  have b:=c.trans (t.mono (AA c))
  refine Aa (Cz O) O<|Ak<|Am O ?_ ?_
  ·intro g
   have f:l.contains (i:Int)=false:=by simpa using g
   refine Ai<|Ab O<|As<|Bd<|A0<|A0<|Bd<|A0<|Al O O ?_
   refine ⟨?_,b⟩
   unfold Jr;rw [Uk a f];rfl
  intro g
  have f:l.contains (i:Int)=true:=by simpa using g
  refine Cj<|Ba<|Cr<|Ca O (by omega)<|Ad O<|A7 ?_
  exact Ay (Br (i+1) ⟨rfl,rfl,rfl,trivial⟩ (⟨a,fun j q=>(Nat.lt_succ_iff_lt_or_eq.1 q).elim (m j) (fun e=>e ▸ f),b⟩) (by omega))
 intro h
 have a:i=l.length:=by have:=AD h;omega
 subst a
 have d:Td l=true:=I7.2 m
 refine Bq<|Au<|Au<|Bc<|Cf<|Ad O<|Aa (Aq AH O ‹_›) O ?_
 refine Aa (Ef O O) O<|Ab O<|As<|Al O O ?_
 refine ⟨?_,c⟩
 unfold Jr;rw [d,Bool.true_and];congr 1;exact decide_eq_decide.2 (by omega)
theorem QX (a b l k j sh:Int) (x:N5) (w:World) (z:N5.at w x):
  AN prog 217 [kv [a,b,l,k,j,sh],x.v] w (fun r w' =>r= .bool (GD a b l k j sh x.i x.s x.n x.p)∧Below w.heap.size w w'):=by
 have d:=Below.refl w.heap.size w
 have h:=z.i
 have c:=z.s
 refine A4 (n:=61) func217 O<|Ai<|Cl (cs:=[a,b,l,k,j,sh].map (Value.int .i64)) O O O ?_
 rintro C w y i f -
 have d:=d.bs f
 have h:=h.bs f
 have c:=c.bs f
 refine Cl (cs:=x.cells) O O O ?_
 rintro B w A D f -
 have d:=d.bs f
 have h:=h.bs f
 have c:=c.bs f
 have i:=i.bs f
 refine Ab O<|A8<|A9 underlying79 O (BL _)<|Aa (Ao (AY _) O ‹_› rfl) O ?_
 refine Aa (Aq AH O ‹_›) O ?_
 refine Ab O<|A3<|Ad O<|A9 underlying275 O (BZ _)<|Aa (Ao (BD _) O ‹_› rfl) O ?_
 refine B8 O<|Ad O ?_
 refine Cc 13 O ?_ ?_
 ·intro g
  have g:=AE g
  refine Ae (dj:=13) O O O O<|Ae (dj:=13) O O O O<|Ae (dj:=13) O O O O<|Ae (dj:=13) O O O O<|Bt O<|Ad O<|Ae (dj:=19) O O O O<|Ae (dj:=19) O O O O<|Ae (dj:=19) O O O O<|Ae (dj:=19) O O O O<|Ae (dj:=19) O O O O<|Bt O<|Ad O<|Ae (dj:=26) O O O O<|Ae (dj:=26) O O O O<|Ae (dj:=26) O O O O<|Ae (dj:=26) O O O O<|Ae (dj:=26) O O O O<|Bt O<|Ad O<|Ae (dj:=33) O O O O<|Ae (dj:=33) O O O O<|Ae (dj:=33) O O O O<|Bt O<|Ad O<|Ae (dj:=38) O O O O<|Ae (dj:=38) O O O O<|Ae (dj:=38) O O O O<|Ae (dj:=38) O O O O<|Ae (dj:=38) O O O O<|Bt O<|Ak<|B6 O<|Ai<|Ab O<|Bw<|Al O O ?_
  refine ⟨?_,d⟩
  unfold GD
  simp [g]
 intro t
 have t:=AD t
 refine Aj (dj:=13) O O<|Ad O<|Aj (dj:=13) O O<|A9 underlying275 O (BZ _)<|Aj (dj:=13) O O<|Aa (Ao (BD _) O ‹_› rfl) O ?_
 refine Aj (dj:=13) O O<|Aa (C7 O O) O<|Co O<|Ad O ?_
 refine Cc 19 O ?_ ?_
 ·intro g
  have g:=AE g
  refine Ae (dj:=19) O O O O<|Ae (dj:=19) O O O O<|Ae (dj:=19) O O O O<|Ae (dj:=19) O O O O<|Ae (dj:=19) O O O O<|Bt O<|Ad O<|Ae (dj:=26) O O O O<|Ae (dj:=26) O O O O<|Ae (dj:=26) O O O O<|Ae (dj:=26) O O O O<|Ae (dj:=26) O O O O<|Bt O<|Ad O<|Ae (dj:=33) O O O O<|Ae (dj:=33) O O O O<|Ae (dj:=33) O O O O<|Bt O<|Ad O<|Ae (dj:=38) O O O O<|Ae (dj:=38) O O O O<|Ae (dj:=38) O O O O<|Ae (dj:=38) O O O O<|Ae (dj:=38) O O O O<|Bt O<|Ak<|B6 O<|Ai<|Ab O<|Bw<|Al O O ?_
  refine ⟨?_,d⟩
  unfold GD
  simp [g]
 intro o
 have o:=AD o
 refine Aj (dj:=19) O O<|A9 underlying79 O (BZ _)<|Aj (dj:=19) O O<|Aa (Ao (BD _) O ‹_› rfl) O ?_
 refine Aj (dj:=19) O O<|A9 underlying275 O (BZ _)<|Aj (dj:=19) O O<|Aa (Ao (BD _) O ‹_› rfl) O ?_
 refine Aj (dj:=19) O O<|B8 O<|Co O<|Ad O ?_
 refine Cc 26 O ?_ ?_
 ·intro g
  have g:=AE g
  refine Ae (dj:=26) O O O O<|Ae (dj:=26) O O O O<|Ae (dj:=26) O O O O<|Ae (dj:=26) O O O O<|Ae (dj:=26) O O O O<|Bt O<|Ad O<|Ae (dj:=33) O O O O<|Ae (dj:=33) O O O O<|Ae (dj:=33) O O O O<|Bt O<|Ad O<|Ae (dj:=38) O O O O<|Ae (dj:=38) O O O O<|Ae (dj:=38) O O O O<|Ae (dj:=38) O O O O<|Ae (dj:=38) O O O O<|Bt O<|Ak<|B6 O<|Ai<|Ab O<|Bw<|Al O O ?_
  refine ⟨?_,d⟩
  unfold GD
  simp [g]
 intro v
 have v:=AD v
 refine Aj (dj:=26) O O<|A9 underlying79 O (BZ _)<|Aj (dj:=26) O O<|Aa (Ao (BD _) O ‹_› rfl) O ?_
 refine Aj (dj:=26) O O<|A9 underlying275 O (BZ _)<|Aj (dj:=26) O O<|Aa (Ao (BD _) O ‹_› rfl) O ?_
 refine Aj (dj:=26) O O<|Aa (C7 O O) O<|Co O<|Ad O ?_
 refine Cc 33 O ?_ ?_
 ·intro g
  have g:=AE g
  refine Ae (dj:=33) O O O O<|Ae (dj:=33) O O O O<|Ae (dj:=33) O O O O<|Bt O<|Ad O<|Ae (dj:=38) O O O O<|Ae (dj:=38) O O O O<|Ae (dj:=38) O O O O<|Ae (dj:=38) O O O O<|Ae (dj:=38) O O O O<|Bt O<|Ak<|B6 O<|Ai<|Ab O<|Bw<|Al O O ?_
  refine ⟨?_,d⟩
  unfold GD
  simp [g]
 intro s
 have s:=AD s
 refine Aj (dj:=33) O O<|A9 underlying79 O (BZ _)<|Aj (dj:=33) O O<|Aa (Ao (BD _) O ‹_› rfl) O ?_
 refine Aj (dj:=33) O O<|B8 O<|Co O<|Ad O ?_
 refine Cc 38 O ?_ ?_
 ·intro g
  have g:=AE g
  refine Ae (dj:=38) O O O O<|Ae (dj:=38) O O O O<|Ae (dj:=38) O O O O<|Ae (dj:=38) O O O O<|Ae (dj:=38) O O O O<|Bt O<|Ak<|B6 O<|Ai<|Ab O<|Bw<|Al O O ?_
  refine ⟨?_,d⟩
  unfold GD
  simp [g]
 intro u
 have u:=AD u
 refine Aj (dj:=38) O O<|A9 underlying79 O (BZ _)<|Aj (dj:=38) O O<|Aa (Ao (BD _) O ‹_› rfl) O ?_
 refine Aj (dj:=38) O O<|A9 underlying275 O (BZ _)<|Aj (dj:=38) O O<|Aa (Ao (BD _) O ‹_› rfl) O ?_
 refine Aj (dj:=38) O O<|Aa (C7 O O) O<|Co O<|Ak<|Am O ?_ ?_
 ·intro g
  have g:=AE g
  refine Ai<|Ab O<|Bw<|Al O O ?_
  refine ⟨?_,d⟩
  unfold GD
  simp [g]
 intro m
 have m:=AD m
 have e:GD a b l k j sh x.i x.s x.n x.p=if sh=0 then decide (x.s.length=0) else if sh=1 then Shapes.ok x.s else Jr x.s:=by
  unfold GD
  rw [decide_eq_false t,decide_eq_false o,decide_eq_false v,decide_eq_false s,decide_eq_false u,decide_eq_false m];rfl
 rw [e]
 refine B1<|Ap<|Ai<|A9 underlying275 O (BZ _)<|Aa (Ao (BD _) O ‹_› rfl) O ?_
 refine Ak<|Ar<|Ai<|Aa (Cn O O) O<|Ab O<|Ak<|Am O ?_ ?_
 ·intro g
  have g:=AE g
  refine Ai<|A9 underlying79 O (BL _)<|Aa (Ao (AY _) O ‹_› rfl) O ?_
  refine Aa (Aq AH O ‹_›) O ?_
  refine Aa (Cn O O) O<|Ab O<|As<|Bd<|A0<|Al O O ?_
  refine ⟨?_,d⟩
  rw [if_pos g];congr 1;exact decide_eq_decide.2 (by omega)
 intro p
 have p:=AD p
 rw [if_neg p]
 refine Ai<|Aa (Cn O O) O<|Ab O<|Ak<|Am O ?_ ?_
 ·intro g
  have g:=AE g
  rw [if_pos g]
  refine Ai<|A9 underlying79 O (BL _)<|Aa (Ao (AY _) O ‹_› rfl) O ?_
  refine Ah O O (EB x.y x.s w c) ?_
  rintro _ w ⟨rfl,f⟩
  exact Ab rfl<|As<|Bd<|A0<|Al rfl rfl<|⟨rfl,bt d f⟩
 intro q
 have q:=AD q
 rw [if_neg q]
 refine Cj<|Ba<|Cf<|A9 underlying79 O (BL _)<|Aa (Ao (AY _) O ‹_› rfl) O ?_
 refine Ah O O (Rn x.y x.s w c) ?_
 rintro _ w ⟨rfl,f⟩
 exact Ab rfl<|As<|Al rfl rfl<|⟨rfl,bt d f⟩
end Go.Proofs.YtblbopcaflaldaaGreatDoor

namespace Go.Dd
open Go Go.RowKit List
section
variable {P : Program} {n : Nat} {E : BT} {w : World} {e ty : TypeId} {x : Operand}
theorem Dy {b o k:Nat} {T:TypeId} {cs ds:List Value} (d:(isAgg e).run P w= .ok true w) (m:(sizeOf e).run P w= .ok k w) (g:ds.length=k) (p:ev E x=some (.pointer (some ⟨b,o,none⟩))) (h:AP w b T cs) (f:(cs.drop o).take k=ds):
  Ex P n E (.load e x) ty w (.agg ds.toArray):=fun a l _ _ _ _=>by
 subst g
 have i:=run_loadCells_list (P:=P) w ⟨b,o,none⟩ ds (fun j v c=>by
  rw [add_lit,h.cell]
  rw [← f,getElem?_take] at c
  split at c
  ·rw [getElem?_drop] at c;exact c
  ·cases c)
 simp [execOp,l.ev p,Instr.loadAt,Instr.sureAddr,loadVar,d,m,i]
end

def HD (xs:List Value) (o:Nat) (ds:List Value):List Value:=xs.take o++ds++xs.drop (o+ds.length)
theorem Lz {xs ds:List Value} {o:Nat} (h:o+ds.length≤xs.length):(HD xs o ds).length=xs.length:=by
 simp only [HD,length_append,length_take,length_drop];omega
theorem Ih {xs ds:List Value} {o i:Nat} (h:o+ds.length≤xs.length):(HD xs o ds)[i]? =if i<o then xs[i]? else if i<o+ds.length then ds[i - o]? else xs[i]? :=by
 have a:(xs.take o).length=o:=by rw [length_take];omega
 unfold HD
 by_cases hi:i<o
 ·rw [if_pos hi,append_assoc,getElem?_append_left (by omega),getElem?_take,if_pos hi]
 ·rw [if_neg hi]
  by_cases hj:i<o+ds.length
  ·rw [if_pos hj,getElem?_append_left (by rw [length_append];omega),getElem?_append_right (by omega),a]
  ·rw [if_neg hj,getElem?_append_right (by rw [length_append];omega),length_append,a,getElem?_drop]
   congr 1;omega
theorem Ot {xs:List Value} {o:Nat} {u:Value} (h:o<xs.length):HD xs o [u]=xs.set o u:=by
 apply ext_getElem?
 intro i
 rw [Ih (by simp;omega),getElem?_set]
 by_cases h1:i<o
 ·rw [if_pos h1,if_neg (by omega)]
 ·rw [if_neg h1]
  by_cases h2:i=o
  ·subst h2;simp [h]
  ·rw [if_neg (by simp;omega),if_neg (fun e=>h2 e.symm)]
theorem Qs {xs ds:List Value} {o m:Nat} (h:o+ds.length≤m) (a:m≤xs.length):(HD xs o ds).take m=HD (xs.take m) o ds:=by
 apply ext_getElem?
 intro i
 rw [getElem?_take,Ih (by omega),Ih (by rw [length_take];omega),getElem?_take]
 by_cases h1:i<m
 ·rw [if_pos h1,if_pos h1]
 ·rw [if_neg h1,if_neg h1,if_neg (by omega),if_neg (by omega)]
def GI {α:Type} (f:α→List Value) (l:List α):List Value:=(l.map f).flatten
section
variable {α : Type} {f : α → List Value} {k : Nat}
theorem Kq {a:α} {l:List α}:GI f (a::l)=f a++GI f l:=rfl
theorem LJ:∀{l:List α} {j i:Nat},(∀a ∈ l,(f a).length=k)→(c:j<l.length)→i<k→(GI f l)[j*k+i]? =(f l[j])[i]?
 |a::l,0,i,h,_,hi=>by
  rw [Kq,Nat.zero_mul,Nat.zero_add,getElem?_append_left (by rw [h a (by simp)];exact hi)];rfl
 |a::l,j+1,i,h,c,hi=>by
  rw [Kq,getElem?_append_right (by rw [h a (by simp),Nat.succ_mul];omega),h a (by simp),show (j+1)*k+i - k=j*k+i by rw [Nat.succ_mul];omega,LJ (fun b d=>h b (mem_cons_of_mem _ d)) (by simpa using c) hi];rfl
end
theorem ML:∀(vs:List Value) (k off:Nat) (a:Array Value),off+k+vs.length≤a.size→(vs.zipIdx k).foldl (fun cs x=>cs.setIfInBounds (off+x.2) x.1) a=(HD a.toList (off+k) vs).toArray
 |[],k,off,a,_=>by simp [HD]
 |v::vs,k,off,a,h=>by
  have b:off+k<a.size:=by simp at h;omega
  rw [zipIdx_cons,foldl_cons,ML vs (k+1) off _ (by simp at h ⊢;omega)]
  congr 1
  simp only [Array.toList_setIfInBounds]
  apply ext_getElem?
  intro i
  rw [Ih (by simp at h ⊢;omega),Ih (by simp at h ⊢;omega),getElem?_set]
  simp only [Array.length_toList,length_cons]
  by_cases c1:i<off+k
  ·rw [if_pos (by omega),if_pos c1,if_neg (by omega)]
  ·rw [if_neg c1]
   by_cases c2:i=off+k
   ·subst c2
    rw [if_pos (by omega),if_pos rfl,if_pos b,if_pos (by omega),Nat.sub_self,getElem?_cons_zero]
   ·rw [if_neg (show ¬i<off+(k+1) by omega)]
    by_cases c3:i<off+k+(vs.length+1)
    ·rw [if_pos (show i<off+(k+1)+vs.length by omega),if_pos c3,show i - (off+k)=(i - (off+(k+1)))+1 by omega,getElem?_cons_succ]
    ·rw [if_neg (show ¬i<off+(k+1)+vs.length by omega),if_neg (show ¬off+k=i by omega),if_neg c3]
theorem Rx {Ms:Nat→Option (Nat×Nat)} {a:Array Value} {i off:Nat} {v:Value} {ds:List Value} (b:v.cells=ds.toArray) (d:Ms i=some (off,ds.length)) (h:off+ds.length≤a.size):Instr.fill Ms a [(i,v)]=some (HD a.toList off ds).toArray:=by
 have g:=ML ds 0 off a (by omega)
 have e:v.cells.zipIdx.foldl (fun cs (c,j)=>cs.setIfInBounds (off+j) c) a=(HD a.toList off ds).toArray:=by
  rw [b]
  have:ds.toArray.zipIdx=(ds.zipIdx).toArray:=by simp
  rw [this,foldl_toArray]
  simpa using g
 unfold Instr.fill
 simp only [d,b,size_toArray]
 rw [if_neg (by simp;omega)]
 rw [b] at e
 rw [e]
 rfl
theorem Sd {xs ds:List Value} (h:xs.length=ds.length):HD xs 0 ds=ds:=by
 unfold HD
 rw [take_zero,nil_append,drop_of_length_le (by omega),append_nil]
section
variable {P : Program} {n : Nat} {E : BT} {w : World} {ty t e : TypeId} {x : Operand} {sz : Nat}
theorem Eb {cs h:List Value} {a:Nat} (d:GJ P t e sz) (i:Hg P e h a) (j:ev E x=some (.agg cs.toArray)) (b:cs.length=sz) (c:0<sz) (g:sz≤16777216):
  Xw P n E (.buildSlice t 1 #[(0,x)]) ty w (fun v w' =>w'.ownsRow w.heap.size e sz v 1 cs∧v= .slice (some ⟨w.heap.size,0,none⟩) 1 1∧Below w.heap.size w w' ∧w'.heap.size=w.heap.size+1):=by
 subst b
 refine Xw.litA (ps:=[(0,x)]) (vs:=[(0, .agg cs.toArray)]) d i (by simp [pev,j]) c Nat.zero_lt_one (by omega) ?_ (by omega)
 rw [Rx (off:=0) (ds:=cs) rfl (by simp) (by simp)]
 rw [Sd (by simp)]
end
theorem GA {w:World} {base:Nat} {T:TypeId} {sz n g:Nat} {v:Value} {xs:List Value} (h:w.ownsRow base T sz v n xs) (l:v.ownBlock=some g):
  ∃cap a,v= .slice (some ⟨g,0,none⟩) n cap∧AP w g T a∧a.take (n*sz)=xs∧n≤cap∧cap≤maxLen∧a.length=cap*sz∧base≤g:=by
 rcases h.2 with ⟨rfl,_⟩|⟨o,cap,a,rfl,m,i,d,c,j,b⟩
 ·cases l
 ·obtain rfl:o=g:=by simpa [Value.ownBlock] using l
  exact ⟨cap,a.toList,rfl,by unfold AP;simpa using i,b,d,c,by simpa using j,m⟩
theorem JQ {w:World} {base:Nat} {T:TypeId} {sz n g cap:Nat} {a:List Value} (h:AP w g T a) (b:a.length=cap*sz) (c:n≤cap) (i:cap≤maxLen) (d:base≤g):w.ownsRow base T sz (.slice (some ⟨g,0,none⟩) n cap) n (a.take (n*sz)):=
 ⟨by rw [length_take,b];exact Nat.min_eq_left (Nat.mul_le_mul_right _ c), .inr ⟨g,cap,a.toArray,rfl,d,h,c,i,by simpa using b,by simp⟩⟩
section
variable {P : Program} {n : Nat} {E : BT} {w : World} {e ty t : TypeId} {x y z : Operand} {u v : Value}
theorem Gn {k:IntKind} {m:Int} {base sz c g:Nat} {T:TypeId} {xs:List Value} (l:GJ P t e sz) (r:ev E x=some v) (i:ev E y=some (.int k m)) (h:w.ownsRow base T sz v c xs) (o:v.ownBlock=some g) (j:Nat) (b:m=(j:Int)) (d:j<c):
  Ex P n E (.indexAddr t x y) ty w (.pointer (some ⟨g,j*sz,none⟩)):=by
 obtain ⟨cap,a,rfl, -⟩:=GA h o
 refine (C6 l r i (AG h) j b d).as ?_
 simp [CF,add_lit]
theorem Ex.ldO {base sz c g o:Nat} {T:TypeId} {xs:List Value} (d:(isAgg e).run P w= .ok false w) (m:ev E x=some (.pointer (some ⟨g,o,none⟩))) (h:w.ownsRow base T sz v c xs) (l:v.ownBlock=some g) (a:xs[o]? =some u):Ex P n E (.load e x) ty w u:=by
 obtain ⟨cap,i,rfl,j,b, -⟩:=GA h l
 refine Ao d m j ?_
 rw [← b,getElem?_take] at a
 split at a
 ·exact a
 ·cases a
theorem Xu.stO1 {base sz c g o:Nat} {T:TypeId} {xs:List Value} (i:(sizeOf e).run P w= .ok 1 w) (L:ev E x=some (.pointer (some ⟨g,o,none⟩))) (K:ev E y=some u) (b:u.oneCell' =true) (h:w.ownsRow base T sz v c xs) (F:v.ownBlock=some g) (N:o<xs.length):
  Xu P n E (.store e x y) ty w (fun w' =>w'.ownsRow base T sz v c (HD xs o [u])∧w.grownBy w' (some g)∧w'.heap.size=w.heap.size):=fun a M=>by
 have B:=h.1
 obtain ⟨cap,j,rfl,D,d,m,C,r,G⟩:=GA h F
 have l:c*sz≤j.length:=by rw [r];exact Nat.mul_le_mul_right _ m
 obtain ⟨w',H,A,I,J⟩:=Cm (P:=P) (ty:=ty) i L K b D (by omega) a M
 refine ⟨w',H, ?_,I,J⟩
 rw [← Ot (by omega)] at A
 have:=JQ (base:=base) (sz:=sz) (n:=c) (cap:=cap) A (by rw [Lz (by simp;omega)];exact r) m C G
 rwa [Qs (by simp;omega) l,d] at this
theorem Ex.arrH {b o c j:Nat} {k:IntKind} (l:P.underlying t=some (.array c e)) (d:∀w,(sizeOf e).run P w= .ok 1 w) (m:ev E x=some (.pointer (some ⟨b,o,none⟩))) (i:ev E y=some (.int k (j:Int))) (h:j≤c):Ex P n E (.slice t x none (some y) none) ty w (.slice (some ⟨b,o,none⟩) j c):=fun a g _ _ _ _=>by
 have r:(0:Int)≤(j:Int)∧(j:Int)≤(c:Int):=by omega
 simp [execOp,g.ev m,g.ev i,Instr.sliceAt,run_underlying l,Instr.sureAddr,Instr.sliceBounds,Instr.sliceBound,asIntOf,h,d w,add_lit]
def cutp (v:Value) (sz i j:Nat):Value:=match v with
 | .slice ao _ _=> .slice (if j=i then ao else ao.map (·.add (i*sz))) (j - i) (j - i)
 |_=>undef
theorem Ex.cutP {c i j:Nat} {C A m:Operand} {l B o:IntKind} {sz:Nat} (b:GJ P t e sz) (J:ev E x=some v) (H:ev E C=some (.int l (i:Int))) (I:ev E A=some (.int B (j:Int))) (G:ev E m=some (.int o (j:Int))) (h:Oa v c) (D:i≤j) (Q:j≤c):Ex P n E (.slice t x (some C) (some A) (some m)) ty w (cutp v sz i j):=fun a d _ _ _ _=>by
 obtain ⟨F,cap,rfl,M,L,N⟩:=h
 have g:P.underlying t=some (.slice (P.elem t)):=by rw [Program.elem,b.u]
 have K:P.elem t=e:=by rw [Program.elem,b.u]
 have r:=run_slice_lhm (P:=P) w t F c cap g l B o (i:Int) (j:Int) (j:Int) (by omega) (by omega) (by omega) (by omega)
 simp only [Int.toNat_natCast,K,b.s w,Result.andThen_ok] at r
 simp [execOp,d.ev J,d.ev H,d.ev I,d.ev G,Instr.sliceAt,run_underlying b.u,r,sliced,Dd.cutp]
theorem Sl.cutp {c i j sz:Nat} {xs:List Value} (h:Sl w sz v c xs) (B:i≤j) (D:j≤c):Sl w sz (cutp v sz i j) (j - i) ((xs.drop (i*sz)).take ((j - i)*sz)):=by
 obtain ⟨o,g,cap,rfl,F,C,A,r⟩:=h
 have m:(j - i)*sz≤c*sz - i*sz:=by rw [← Nat.sub_mul];exact Nat.mul_le_mul_right _ (by omega)
 refine ⟨by rw [length_take,length_drop,o];exact Nat.min_eq_left m,_,j - i,rfl,AU _,by omega,fun l=> ?_,fun a d q u b=> ?_⟩
 ·by_cases hji:j=i
  ·omega
  ·rw [if_neg hji] at l
   cases g with
   |none=>have:=A rfl;omega
   |some _=>cases l
 ·by_cases hji:j=i
  ·rw [hji] at b;simp at b
  ·rw [if_neg hji] at d
   cases g with
   |none=>cases d
   |some ad=>
    cases d
    rw [H0]
    refine r ad O _ u ?_
    rw [getElem?_take] at b
    split at b
    ·rwa [getElem?_drop] at b
    ·cases b
theorem R0 {v:Value} {sz i j:Nat} (h:∃a c k,v= .slice a c k):(Dd.cutp v sz i j).oneCell' =true:=by
 obtain ⟨a,c,k,rfl⟩:=h;rfl
end
section
variable {P : Program} {n : Nat} {E : BT} {w : World} {ty t s : TypeId} {x y : Operand} {p q : BitVec 64}
end

section
variable {P : Program} {n : Nat} {E : BT} {w : World} {e ty t : TypeId} {x y z : Operand} {u v : Value}
theorem Lw.valU {Q:BF} {f b:List Oper} {c:String} {m:Array Edge} {d:Op} {R:Value→World→Prop} (h:Xw P n E d ty w R) (k:∀v w',R v w' →Lw P f Q n b E w'):Lw P f Q n (⟨none,d,ty,c,m,none⟩::b) E w:=
 fun a g=>wpList_plain rfl fun K l=>by
  obtain ⟨v,w',j,i⟩:=h a g
  unfold Oper.wp;rw [j];exact l _ _ (k v w' i _ (g.put_none _))
theorem G6 {b k m cap:Nat} {T:TypeId} {f d:List Value} {j:Nat} {Q:Value} (F:GJ P t e 1) (M:Hg P e [Q] j) (N:ev E x=some (.slice (some ⟨b,0,none⟩) k cap)) (J:ev E y=some u)
  (h:AP w b T f) (Z:f.length=cap) (r:Sl w 1 u m d) (p:d.all (·.oneCell')=true) (L:k+m≤cap):
  Xw P n E (.call {callee:= .builtin .append,args:= #[x,y],argTypes:= #[t,t]}) ty w (fun v' w' =>v' = .slice (some ⟨b,0,none⟩) (k+m) cap∧AP w' b T (HD f k d)∧w.grownBy w' (some b)∧w'.heap.size=w.heap.size):=fun a G=>by
 obtain ⟨i,D,l,Y,zv,U,V⟩:=M.i
 have l:i.size=1:=l
 obtain ⟨B,C,c,rfl,W,X,K,S⟩:=r
 rw [Nat.mul_one] at B
 have g:=run_storeCells_at P b k T d 0 f.toArray w h (by simp;omega) (fun v R=>List.all_eq_true.1 p v R)
 simp only [Nat.add_zero] at g
 have o:(Builtin.append_ #[t,t] ty #[.slice (some ⟨b,0,none⟩) k cap, .slice C m c]).run P w= .ok (.slice (some ⟨b,0,none⟩) (k+m) cap) (w.setRow b (HD f k d).toArray):=by
  cases C with
  |none=>
   have H:=K rfl
   have s:m=0:=by omega
   subst s
   obtain rfl:d=[]:=eq_nil_of_length_eq_zero (by simpa using B)
   have A:k≤cap:=by omega
   simp [Builtin.append_,run_underlying F.u,sizeOf,typeInfo,D,l,Builtin.lenOf,A,Builtin.firstCells,Addr.add_lit,g,HD]
  |some ad=>
   have q:=run_firstCells_some (P:=P) w i.size m ad m c d (by rw [l,Nat.mul_one];exact B) (S ad rfl)
   rw [l] at q
   simp [Builtin.append_,run_underlying F.u,sizeOf,typeInfo,D,l,Builtin.lenOf,L,q,Addr.add_lit,g,HD]
 exact ⟨_,_,fun _ _ _ _=>by simp [execOp,resolve,invoke,builtin,G.ev N,G.ev J,o],rfl,setRow_heap w b _ _ _ _ h,⟨rfl,rfl,rfl,by simp [World.setRow],fun k _ I=>setRow_other w b k _ (fun e=>I (by simp [e]))⟩,by simp [World.setRow]⟩
theorem Xw.clear {b o m c:Nat} {T:TypeId} {d:List Value} {g:Nat} {f:Value} (H:GJ P t e 1) (I:Hg P e [f] g) (s:f.oneCell' =true) (J:ev E x=some (.slice (some ⟨b,o,none⟩) (m+1) c)) (h:AP w b T d) (Q:o+(m+1)≤d.length):
  Xw P n E (.call {callee:= .builtin .clear,args:= #[x],argTypes:= #[t]}) ty w (fun _ w' =>AP w' b T (HD d o (replicate (m+1) f))∧w.grownBy w' (some b)∧w'.heap.size=w.heap.size):=fun a M=>by
 obtain ⟨i,F,B,R,zv,D,G⟩:=I.i
 have B:i.size=1:=B
 have p:zv.cells= #[f]:=G
 have A:∀q,Builtin.zeroCells zv.cells q=(replicate q f).toArray:=fun q=>by
  apply Array.ext
  ·simp [Builtin.zeroCells,p]
  ·intro j N S
   simp [Builtin.zeroCells,p,Nat.mod_one]
 have l:=run_storeCells_at P b o T (replicate (m+1) f) 0 d.toArray w h (by simp;omega) (fun v L=>by rw [(List.mem_replicate.1 L).2];exact s)
 simp only [Nat.add_zero,length_replicate] at l
 have K:HD d o (replicate (m+1) f)=d.take o++replicate (m+1) f++d.drop (o+(m+1)):=by simp [HD]
 have r:(Builtin.clear_ #[t] ty #[.slice (some ⟨b,o,none⟩) (m+1) c]).run P w= .ok (.tuple #[]) (w.setRow b (HD d o (replicate (m+1) f)).toArray):=by
  rw [K]
  simp [Builtin.clear_,run_underlying H.u,zeroValue,typeInfo,F,D,A,l]
 refine ⟨.tuple #[],_,fun _ _ _ _=>by simp [execOp,resolve,invoke,builtin,M.ev J,r],setRow_heap w b _ _ _ _ h,⟨rfl,rfl,rfl,by simp [World.setRow],fun k _ C=>setRow_other w b k _ (fun e=>C (by simp [e]))⟩,by simp [World.setRow]⟩
theorem Xw.cut3 {b c cap i j q:Nat} {l m o:IntKind} {s p:Operand} (f:GJ P t e 1) (C:ev E x=some (.slice (some ⟨b,0,none⟩) c cap)) (B:ev E y=some (.int l (i:Int))) (k:ev E s=some (.int m (j:Int))) (g:ev E p=some (.int o (q:Int))) (F:i≤j) (D:j≤q) (G:q≤cap):
  Xw P n E (.slice t x (some y) (some s) (some p)) ty w (fun _ w' =>w' =w):=fun a d=>by
 have h:P.underlying t=some (.slice (P.elem t)):=by rw [Program.elem,f.u]
 have A:P.elem t=e:=by rw [Program.elem,f.u]
 have r:=run_slice_lhm (P:=P) w t (some ⟨b,0,none⟩) c cap h l m o (i:Int) (j:Int) (q:Int) (by omega) (by omega) (by omega) (by omega)
 simp only [A,f.s w,Result.andThen_ok] at r
 exact ⟨_,_,fun _ _ _ _=>by simp [execOp,d.ev C,d.ev B,d.ev k,d.ev g,Instr.sliceAt,run_underlying f.u,r];rfl,rfl⟩
theorem Ex.cutLHc {b c cap i j:Nat} {l m:IntKind} {p:Operand} (d:GJ P t e 1) (s:ev E x=some (.slice (some ⟨b,0,none⟩) c cap)) (r:ev E y=some (.int l (i:Int))) (k:ev E p=some (.int m (j:Int))) (B:i≤j) (A:j≤cap) (C:i<cap):
  Ex P n E (.slice t x (some y) (some p) none) ty w (.slice (some ⟨b,i,none⟩) (j - i) (cap - i)):=fun a g _ _ _ _=>by
 have h:P.underlying t=some (.slice (P.elem t)):=by rw [Program.elem,d.u]
 have q:P.elem t=e:=by rw [Program.elem,d.u]
 have o:=run_slice_lh (P:=P) w t (some ⟨b,0,none⟩) c cap h l m (i:Int) (j:Int) (by omega) (by omega) (by omega)
 simp only [Int.toNat_natCast,q,d.s w,Result.andThen_ok] at o
 have f:¬cap=i:=by omega
 simp [execOp,g.ev s,g.ev r,g.ev k,Instr.sliceAt,run_underlying d.u,o,sliced,f,add_lit]
end
end Go.Dd

namespace Go.Proofs.YtblbopcaflaldaaGreatDoor
open Go Go.Dd Go.RowKit List
set_option maxRecDepth 100000
instance:Inhabited T4:=⟨⟨.slice none 0 0, .slice none 0 0,[],[]⟩⟩
structure LI (w:World) (v:Value) (ps:List (Value×List Int)):Prop where
 sl:BE (fun p:Value×List Int=>p.1) w v ps
 each:∀p ∈ ps,BE (Value.int .i64) w p.1 p.2
theorem LI.bs {w w' :World} {v:Value} {ps:List (Value×List Int)} (h:LI w v ps) (g:Below w.heap.size w w'):LI w' v ps:=⟨h.sl.bs g,fun p a=>(h.each p a).bs g⟩
abbrev BB (ps:List (Value×List Int)):List (List Int):=ps.map (·.2)
def RN (k:Nat) (s x:List Int):Option (List Int):=if x.length=s.length∧k<s.length∧(∀m,m<s.length→m≠k→s.getD m default=x.getD m default) then some (s.set k (s.getD k default+x.getD k default)) else none
def P5 (k:Nat):List Int→List (List Int)→Option (List Int)
 |s,[]=>some s
 |s,x::r=>match RN k s x with
  |some s' =>P5 k s' r
  |none=>none
end Go.Proofs.YtblbopcaflaldaaGreatDoor

namespace Go.Proofs.YtblbopcaflaldaaGreatDoor
open Go Go.Dd Go.RowKit List Go.Proofs.Tryz
set_option maxRecDepth 100000
theorem UX (v:Value) (l:List Int) (i B:Nat) (w:World) (u:w.ownsRow B 3 1 v l.length (l.map (Value.int .i64))) (K:i<l.length) (R:B≤w.heap.size) (U:l.length≤1000000):
  AN prog 277 [v, .int .i64 (i:Int), .int .i64 ((i+1:Nat):Int)] w (fun r w' =>w'.ownsRow B 3 1 r (l.eraseIdx i).length ((l.eraseIdx i).map (Value.int .i64))∧Below B w w'):=by
 have e:=AG u
 obtain ⟨b,C, -,H, -, -⟩:∃b cap,v= .slice (some ⟨b,0,none⟩) l.length cap∧v.ownBlock=some b∧True∧True:=by
  rcases u.2 with ⟨_,T⟩|⟨g,cap,c,rfl, -⟩
  ·omega
  ·exact ⟨g,cap,rfl,rfl,trivial,trivial⟩
 obtain ⟨cap,c,rfl,G,j,D,A,x,p⟩:=GA u H
 rw [Nat.mul_one] at j x
 have e:BE (Value.int .i64) w (.slice (some ⟨b,0,none⟩) l.length cap) l:=e
 have h:=BE.drop e (show i+1≤l.length by omega)
 obtain ⟨a,d⟩:∃a,a=(l.drop (i+1)).map (Value.int .i64):=⟨_,rfl⟩
 have W:a.length=l.length - (i+1):=by rw [d,length_map,length_drop]
 have h:Sl w 1 (cut (.slice (some ⟨b,0,none⟩) l.length cap) 1 (i+1) l.length) (l.length - (i+1)) a:=by
  have:=h;unfold BE at this
  rwa [length_drop,← d] at this
 have o:cut (.slice (some ⟨b,0,none⟩) l.length cap) 1 0 i= .slice (some ⟨b,0,none⟩) i cap:=by
  unfold cut
  simp only [Nat.sub_zero]
  split
  ·rfl
  ·simp [add_lit]
 refine A4 (n:=33) func277 O<|Ai<|Ab O<|A3<|Ad O<|Ad O<|Ad O<|Ad O<|Aa (Aq AH O ‹_›) O ?_
 refine An (Xw.cut3 AH O O O O (by omega) (by omega) D) O ?_
 rintro _ w rfl
 refine A8<|Ad O<|Ad O<|Aa (Ex.as (Cn O O) (cngA Value.bool (decide_eq_false (by omega)))) O<|Ak<|Cq O false (rfl)<|Ci<|Ad O<|Aa (Aq AH O ‹_›) O ?_
 refine Ab O<|Ak<|Ap<|Cw.tail 6 mixed (by kernel_rfl)<|B5 O<|B5 O<|Ax (fun z f=>Ex.as (Gy AH O O e.shp (by omega)) o) O<|B5 O<|B5 O<|Ax (fun z f=>Fm (i:=i+1) AH O O e.shp (by omega)) O ?_
 refine Qw.done (fun z f=> ?_)
 refine An (G6 AH DH O O (G.bs f) x (h.bs f) (by rw [d];exact BI (fun _=>rfl) _) (by omega)) O ?_
 rintro _ X ⟨rfl,k,t,I⟩
 have M:i+(l.length - (i+1))=l.length - 1:=by omega
 rw [M]
 have l2:(HD c i a).length=cap:=by rw [Lz (by omega)];exact x
 have V:(l.length:Int)=((l.length - 1+1:Nat):Int):=by omega
 refine Ab O<|A3<|Ad O<|Ad O<|Aa (Aq AH O (AG (JQ (base:=B) (sz:=1) k (by rw [Nat.mul_one];exact l2) (by omega) A p))) O<|Ad O<|Aa (Ex.cutLHc AH O O O (show l.length - 1≤l.length by omega) D (by omega)) O ?_
 have J:l.length - (l.length - 1)=0+1:=by omega
 rw [J]
 refine Lw.valU (Xw.clear (m:=0) AH DH O O k (by omega)) ?_
 rintro _ S ⟨y,q,L⟩
 have s:((l.eraseIdx i).length)=l.length - 1:=by rw [length_eraseIdx,if_pos K]
 have CY:(HD (HD c i a) (l.length - 1) (replicate (0+1) (Value.int .i64 0))).take ((l.length - 1)*1)=(l.eraseIdx i).map (Value.int .i64):=by
  have N:HD (HD c i a) (l.length - 1) (replicate (0+1) (Value.int .i64 0))=(HD c i a).take (l.length - 1)++(replicate (0+1) (Value.int .i64 0)++(HD c i a).drop (l.length - 1+1)):=by simp [HD]
  rw [Nat.mul_one,N,take_left' (by rw [length_take];omega)]
  have Q:HD c i a=(c.take i++a)++c.drop (i+a.length):=by simp [HD]
  rw [Q,take_left' (by rw [length_append,length_take];omega)]
  have F:c.take i=(l.take i).map (Value.int .i64):=by
   have:=cngA (take i) j
   rw [take_take,Nat.min_eq_left (by omega)] at this
   rw [this,map_take]
  rw [F,d,← map_append,eraseIdx_eq_take_drop_succ]
 have E:=JQ (base:=B) (sz:=1) (n:=l.length - 1) y (by rw [Nat.mul_one,Lz (by simp;omega)];exact l2) (by omega) A p
 rw [CY] at E
 refine A3<|Ad O<|Ab O<|As<|Al O O ?_
 rw [s]
 exact ⟨E,(((Below.refl B w).trans (f.mono R)).grown t (by have:=f.size;omega) (by rintro _ ⟨⟩;exact p)).grown q (by have:=f.size;omega) (by rintro _ ⟨⟩;exact p)⟩
def Tp (s:List Int) (k:Int):List Int:=if (s.length:Int)≤k then [] else if s.length=1 then [1] else s.eraseIdx k.toNat
theorem NM (u:Value) (s:List Int) (k:Int) (w:World) (j:BE (Value.int .i64) w u s) (l:0≤k) (h:s.length≤1000000):
  AN prog 255 [u, .int .i64 k] w (fun r w' =>BE (Value.int .i64) w' r (Tp s k)∧Below w.heap.size w w'):=by
 refine A4 (n:=21) func255 O<|Ai<|Ab O<|Ak<|Ap<|Ar<|Ai<|Ad O<|Ad O<|Aa (Aq AH O ‹_›) O ?_
 refine Aa (E8 O O) O<|Ab O<|Ak<|Am O ?_ ?_
 ·intro g
  have g:=AE g
  refine Ai<|Ab O<|As<|Bd<|A0<|Al O O ?_
  exact ⟨by rw [Tp,if_pos (by omega)];exact Cv _ _,Below.refl _ _⟩
 intro g
 have g:=AD g
 refine Ai<|Ad O<|Aa (Aq AH O ‹_›) O ?_
 refine Aa (Cn O O) O<|Ab O<|Ak<|Am O ?_ ?_
 ·intro b
  have b:=AE b
  refine Ai<|An (B7 (vs:=[(1:Int)].map (Value.int .i64)) AH DH O O O O O) O ?_
  rintro v f ⟨a, -,c, -⟩
  refine Ab O<|As<|Bd<|A0<|Al O O ?_
  exact ⟨by rw [Tp,if_neg (by omega),if_pos (by omega)];exact AL a,c⟩
 intro b
 have b:=AD b
 obtain ⟨i,rfl⟩:∃i:Nat,k=(i:Int):=⟨k.toNat,by omega⟩
 refine Cj<|Ba<|Cf<|Ad O<|Ah O O (J4 u s w j (by omega)) ?_
 rintro v f ⟨a,c⟩
 refine Ad O<|Ad O<|Aa (Ex.as (En O O (by omega)) (cngA (Value.int .i64) (show (i:Int)+1=((i+1:Nat):Int) by omega))) O<|Ah O O (UX v s i w.heap.size f a (by omega) c.size h) ?_
 rintro r m ⟨d,e⟩
 refine Ab O<|As<|Al O O ?_
 refine ⟨?_,c.trans e⟩
 rw [Tp,if_neg (by omega),if_neg (by omega),Int.toNat_natCast]
 exact AL d
def Np (s o:List Int):List Int:=if s.length=o.length then o.map (fun k=>s.getD k.toNat default) else []
theorem PC (u v:Value) (s o:List Int) (w:World) (D:BE (Value.int .i64) w u s) (H:BE (Value.int .i64) w v o) (C:∀k ∈ o,0≤k∧k<(o.length:Int)) (M:o.length≤1000000):
  AN prog 253 [u,v] w (fun r w' =>BE (Value.int .i64) w' r (Np s o)∧Below w.heap.size w w'):=by
 refine A4 (n:=27) func253 O<|Ai<|Ab O<|A8<|Ad O<|Aa (Aq AH O ‹_›) O ?_
 refine Ad O<|Aa (Aq AH O ‹_›) O ?_
 refine Aa (C0 O O) O<|Ak<|Am O ?_ ?_
 ·intro g
  have t:¬s.length=o.length:=fun e=>by rw [e] at g;simp at g
  refine Ai<|Ab O<|Bw<|Al O O ?_
  exact ⟨by rw [Np,if_neg t];exact Cv _ _,Below.refl _ _⟩
 intro g
 have t:s.length=o.length:=by simp at g;omega
 refine B1<|Ap<|Ai<|Ad O<|Aa (Aq AH O ‹_›) O ?_
 refine Ad O<|Ak<|Ar ?_
 refine Bu (S:=(Nat×Value)) (fun z=>[(0,u),(1,v),(4,z.2),(12,v),(13, .int .i64 (o.length:Int)),(14, .int .i64 (z.1:Int))]) (fun z w' =>z.1≤o.length∧Below w.heap.size w w' ∧w'.ownsRow w.heap.size 3 1 z.2 z.1 (((o.take z.1).map (fun k=>s.getD k.toNat default)).map (Value.int .i64))) (fun z=>o.length - z.1) ((0, .slice none 0 0)) ⟨rfl,rfl,rfl,rfl,rfl,rfl,trivial⟩ ?_ ?_
 ·exact ⟨Nat.zero_le _,Below.refl _ _,⟨rfl, .inl ⟨rfl,rfl⟩⟩⟩
 rintro ⟨i,r⟩ I ⟨F,d,b⟩
 dsimp only at F d b ⊢
 have f:=D.bs d
 have l:=H.bs d
 refine Ai<|B8 O<|Ak<|Ap<|Am O ?_ ?_
 ·intro h
  have a:i<o.length:=by have:=AE h;omega
  obtain ⟨k,m⟩:∃k,k=o.getD i default:=⟨_,rfl⟩
  have j:k ∈ o:=by rw [m,getD_eq_getElem?_getD,getElem?_eq_getElem a];exact getElem_mem a
  have E:=C k j
  refine B1<|Ap<|Ar<|Ai<|Aa (Bb AH O O ‹_› _ O (by omega)) O ?_
  refine Aa (Ex.as (Bf (BD _) O l a) (cngA (Value.int .i64) m.symm)) O<|Ab O<|Ak<|A5<|Ad O<|Ad O<|Ad O<|Aa (Bb AH O O f k.toNat (by omega) (by omega)) O<|Aa (Bf (BD _) O f (show k.toNat<s.length by omega)) O<|An (B7 (vs:=[s.getD k.toNat default].map (Value.int .i64)) AH DH O O O O O) O ?_
  rintro q N ⟨p, -,y, -⟩
  have x:=d.trans (y.mono (AA d))
  have L:=AA d
  have K:=y.size
  refine An (C1 (base:=w.heap.size) AH DH O (by decide) O O (AF b y) (AG p) (BI (fun _=>rfl) _) (by omega) (by omega) (by omega)) O ?_
  rintro B J ⟨c,A, -⟩
  have G:((o.take i).map (fun k=>s.getD k.toNat default)).map (Value.int .i64)++[s.getD k.toNat default].map (Value.int .i64)=((o.take (i+1)).map (fun k=>s.getD k.toNat default)).map (Value.int .i64):=by
   rw [take_succ_eq_append_getElem a,map_append,map_append]
   have:o[i]=k:=by rw [m,getD_eq_getElem?_getD,getElem?_eq_getElem a];rfl
   rw [this];rfl
  rw [G] at c
  refine Ab O<|A7<|Ba<|Cr<|Ca O (by omega)<|Ad O<|A7 ?_
  exact Ay (Br ((i+1,B)) ⟨rfl,rfl,rfl,rfl,rfl,rfl,trivial⟩ (⟨a,x.trans A,c⟩) (by simp only;omega))
 intro h
 have a:i=o.length:=by have:=AD h;omega
 subst a
 rw [take_length] at b
 refine Bq<|Au<|Au<|Bc<|Cf<|Ad O<|Ab O<|As<|Al O O ?_
 refine ⟨?_,d⟩
 rw [Np,if_pos t]
 exact AL b
def SY (l:List (List Int)) (k:Nat):List Int:=match P5 k (l.headD []) l.tail with
 |some s=>if k<s.length then s else []
 |none=>[]
theorem Sc {l:List Int} {j:Nat} {z:Int} (h:j<l.length):HD (l.map (Value.int .i64)) j [.int .i64 z]=(l.set j z).map (Value.int .i64):=by
 rw [Ot (by rw [length_map];exact h),map_set]
theorem IU {l:List Int} {j:Nat} (h:j<l.length):l.getD j default ∈ l:=by
 rw [getD_eq_getElem?_getD,getElem?_eq_getElem h];exact getElem_mem h
theorem PJ (v:Value) (ps:List (Value×List Int)) (k:Nat) (w:World) (h:LI w v ps) (h0:0<ps.length) (h4:ps.length≤4) (hb:∀p ∈ ps,p.2.length≤4∧∀x ∈ p.2,0≤x∧x≤64):
  AN prog 254 [v, .int .i64 (k:Int)] w (fun r w' =>BE (Value.int .i64) w' r (SY (BB ps) k)∧Below w.heap.size w w'):=by
 obtain ⟨d,a,rfl⟩:∃d a,ps=d::a:=by
  cases ps with
  |nil=>simp at h0
  |cons d a=>exact ⟨d,a,rfl⟩
 have s_0:=h.each d (by simp)
 have F:=hb d (by simp)
 have T:=h.sl
 have C:BE (fun p:Value×List Int=>p.1) w (cut v 1 1 (a.length+1)) a:=BE.drop h.sl (show 1≤(d::a).length by simp)
 have N:∀s,P5 k d.2 (BB a)=some s→SY (BB (d::a)) k=if k<s.length then s else []:=fun s hs=>by
  show (match P5 k d.2 (BB a) with|some s=>if k<s.length then s else []|none=>[])=_
  rw [hs]
 have D:P5 k d.2 (BB a)=none→SY (BB (d::a)) k=[]:=fun hs=>by
  show (match P5 k d.2 (BB a) with|some s=>if k<s.length then s else []|none=>[])=_
  rw [hs]
 obtain ⟨Y,hs0⟩:∃Y,Y=d.2:=⟨_,rfl⟩
 rw [← hs0] at s_0 F N D
 obtain ⟨V,hRES⟩:∃V,V=SY (BB (d::a)) k:=⟨_,rfl⟩
 rw [← hRES] at N D ⊢
 simp only [length_cons] at h4
 refine A4 (n:=64) func254 O<|Ai<|Ab O<|A3<|Ad O<|Aa (Bb BO O O T 0 O (by simp)) O<|Aa (Ex.as (Bf (AY _) O T (show 0<(d::a).length by simp)) O) O<|Ah O O (J4 d.1 Y w s_0 (by omega)) ?_
 rintro u w1 ⟨b,M⟩
 have ub:=AB b
 have E:=C.bs M
 refine Ab O<|A8<|Ad O<|Aa (Ex.as (Fm (i:=1) BO O O (T.bs M).shp (by simp)) O) O<|Aa (Aq BO O E) O<|Ad O<|Ak<|Ar ?_
 refine Bu (S:=(Nat×List Int)) (fun z=>[(0,v),(1, .int .i64 (k:Int)),(5,u),(15,cut v 1 1 (a.length+1)),(16, .int .i64 (a.length:Int)),(17, .int .i64 (z.1:Int))]) (fun z w' =>z.1≤a.length∧Below w.heap.size w w' ∧w'.ownsRow w.heap.size 3 1 u z.2.length (z.2.map (Value.int .i64))∧P5 k z.2 (BB (a.drop z.1))=P5 k Y (BB a)∧z.2.length≤4∧(∀m,m<z.2.length→0≤z.2.getD m default∧z.2.getD m default≤64*((z.1:Int)+1))) (fun z=>a.length - z.1) ((0,Y)) ⟨rfl,rfl,rfl,rfl,rfl,rfl,trivial⟩ ?_ ?_
 ·exact ⟨Nat.zero_le _,M,b,rfl,F.1,fun m U=>⟨(F.2 _ (IU U)).1,by have:=(F.2 _ (IU U)).2;simp only;omega⟩⟩
 clear b
 rintro ⟨i,s⟩ w2 ⟨hi,J,b,hj,hs4,W⟩
 dsimp only at hi J b hj hs4 W ⊢
 have c:=C.bs J
 have Z:BE (Value.int .i64) w2 u s:=AL b
 refine Ai<|B8 O<|Ak<|Ap<|Am O ?_ ?_
 ·intro g
  have f:i<a.length:=by have:=AE g;omega
  obtain ⟨p,hp⟩:∃p,p=a[i]:=⟨_,rfl⟩
  have Q:p ∈ d::a:=mem_cons_of_mem _ (by rw [hp];exact getElem_mem f)
  have G:=(h.each p Q).bs J
  obtain ⟨x,hx⟩:∃x,x=p.2:=⟨_,rfl⟩
  have b_x:=hb p Q
  rw [← hx] at G b_x
  have eg:(a.getD i default).1=p.1:=by rw [hp,getD_eq_getElem?_getD,getElem?_eq_getElem f];rfl
  have ed:BB (a.drop i)=x::BB (a.drop (i+1)):=by rw [drop_eq_getElem_cons f,BB,map_cons,← hp,← hx]
  have hst:P5 k Y (BB a)=match RN k s x with|some B=>P5 k B (BB (a.drop (i+1)))|none=>none:=by rw [← hj,ed];rfl
  have R:RN k s x=none→V=[]:=fun e=>D (by rw [hst,e])
  refine B1<|Ap<|Ar<|Ai<|Aa (Bb BO O O c i O f) O<|Aa (Ex.as (Bf (AY _) O c f) eg) O<|Ab O<|A8<|Ad O<|Aa (Aq AH O ‹_›) O ?_
  refine Ad O<|Aa (Aq AH O ‹_›) O ?_
  refine Aa (C0 O O) O<|Ad O ?_
  refine Cc 26 O ?_ ?_
  ·intro L
   have L:¬x.length=s.length:=fun e=>by rw [e] at L;simp at L
   refine Ae (dj:=26) O O O O<|Ae (dj:=26) O O O O<|Ae (dj:=26) O O O O<|Ae (dj:=26) O O O O<|Bt O<|Ak<|B6 O<|Ai<|Ab O<|Bw<|Bd<|A0<|A0<|Bd<|A0<|Al O O ?_
   exact ⟨by rw [R (by unfold RN;rw [if_neg (fun h=>L h.1)])];exact Cv _ _,J⟩
  intro L
  have L:x.length=s.length:=by simp at L;omega
  refine Aj (dj:=26) O O<|Ad O<|Aj (dj:=26) O O<|Ad O<|Aj (dj:=26) O O<|Aa (Aq AH O ‹_›) O ?_
  refine Aj (dj:=26) O O<|Aa (E8 O O) O<|Co O<|Ak<|Am O ?_ ?_
  ·intro o
   have o:¬k<s.length:=by have:=AE o;omega
   refine Ai<|Ab O<|Bw<|Bd<|A0<|A0<|Bd<|A0<|Al O O ?_
   exact ⟨by rw [R (by unfold RN;rw [if_neg (fun h=>o h.2.1)])];exact Cv _ _,J⟩
  intro o
  have o:k<s.length:=by have:=AD o;omega
  have bk:=W k o
  have xk:=b_x.2 _ (IU (show k<x.length by omega))
  refine Ci<|Ad O<|Aa (Aq AH O ‹_›) O ?_
  refine Ad O<|Ak<|Ar ?_
  refine Bu (S:=(Nat×List Int)) (fun y=>[(0,v),(1, .int .i64 (k:Int)),(5,u),(7,p.1),(15,cut v 1 1 (a.length+1)),(16, .int .i64 (a.length:Int)),(17, .int .i64 (i:Int)),(32,p.1),(33, .int .i64 (x.length:Int)),(34, .int .i64 (y.1:Int))]) (fun y w' =>y.1≤x.length∧Below w.heap.size w w' ∧w'.ownsRow w.heap.size 3 1 u y.2.length (y.2.map (Value.int .i64))∧y.2=(if k<y.1 then s.set k (s.getD k default+x.getD k default) else s)∧(∀m,m<y.1→m≠k→s.getD m default=x.getD m default)) (fun y=>x.length - y.1) ((0,s)) ⟨rfl,rfl,rfl,rfl,rfl,rfl,rfl,rfl,rfl,rfl,trivial⟩ ?_ ?_
  ·exact ⟨Nat.zero_le _,J,b,by rw [if_neg (by omega)],fun _ h=>by omega⟩
  clear b Z G c
  rintro ⟨j,B⟩ w3 ⟨hjx,q,b,l,U⟩
  dsimp only at hjx q b l U ⊢
  have G:=(h.each p Q).bs q
  rw [← hx] at G
  have ls' :B.length=s.length:=by rw [l];split<;>simp
  refine Ai<|B8 O<|Ak<|Ap<|Am O ?_ ?_
  ·intro g3
   have t:j<x.length:=by have:=AE g3;omega
   obtain ⟨gb,_, -,A, -,hgb⟩:∃gb cap,u= .slice (some ⟨gb,0,none⟩) B.length cap∧u.ownBlock=some gb∧True∧w.heap.size≤gb:=by
    rcases b.2 with ⟨_,h0⟩|⟨g,cap,cur,rfl,hbb, -⟩
    ·omega
    ·exact ⟨g,cap,rfl,rfl,trivial,hbb⟩
   have e_j:B.getD j default=s.getD j default:=by
    rw [l]
    split
    ·rw [getD_eq_getElem?_getD,getElem?_set_ne (by omega),← getD_eq_getElem?_getD]
    ·rfl
   have cj:(B.map (Value.int .i64))[j*1]? =some (.int .i64 (s.getD j default)):=by
    rw [Nat.mul_one,getElem?_map,getElem?_eq_getElem (by omega),← e_j,getD_eq_getElem?_getD,getElem?_eq_getElem (by omega)];rfl
   refine B1<|Ap<|Ar<|Ai<|Ad O<|Aa (Bb AH O O ‹_› _ O (by omega)) O ?_
   refine Aa (Bf (BD _) O ‹_› (by omega)) O ?_
   refine Ab O<|Ab O<|Ak<|Ar<|Ai<|Ad O<|Ad O<|Aa (Cn O O) O<|Ab O<|Ak<|Am O ?_ ?_
   ·intro X
    have X:j=k:=by have:=AE X;omega
    subst X
    refine A5<|Ad O<|Ad O<|Aa (Gn AH O O b A j O (by omega)) O<|Aa (Ex.ldO (BD _) O b A cj) O<|Ad O<|Ca O (by omega)<|Aa (Gn AH O O b A j O (by omega)) O<|A6 (Xu.stO1 (BZ _) O O O b A (show j*1<_ by rw [length_map];omega)) ?_
    rintro w4 ⟨H,hg,hz⟩
    rw [Nat.mul_one,Sc (by omega)] at H
    have hB4:=q.grown hg (AA q) (by rintro _ e;cases e;exact hgb)
    refine A7<|Ba<|Ba<|Cr<|Ca O (by omega)<|Ad O<|A7 ?_
    exact Ay (Br ((j+1,B.set j (s.getD j default+x.getD j default))) ⟨rfl,rfl,rfl,rfl,rfl,rfl,rfl,rfl,rfl,rfl,trivial⟩ (⟨t,hB4,by rw [length_set];exact H,by rw [if_pos (by omega),l,if_neg (by omega)],fun m h1 h2=>U m (by omega) h2⟩) (by simp only;omega))
   intro X
   have X:j≠k:=by have:=AD X;omega
   refine Ai<|Ad O<|Ad O<|Aa (Gn AH O O b A j O (by omega)) O<|Aa (Ex.ldO (BD _) O b A cj) O<|Ad O<|Aa (C0 O O) O<|Ab O<|Ak<|Am O ?_ ?_
   ·intro I
    have I:¬s.getD j default=x.getD j default:=fun e=>by rw [e] at I;simp at I
    refine Ai<|Ab O<|As<|Bd<|Bd<|A0<|A0<|Bd<|Bd<|A0<|A0<|Bd<|A0<|Al O O ?_
    exact ⟨by rw [R (by unfold RN;rw [if_neg (fun h=>I (h.2.2 j (by omega) X))])];exact Cv _ _,q⟩
   intro I
   have I:s.getD j default=x.getD j default:=by simpa using I
   refine Cj<|Ba<|Ba<|Cr<|Ca O (by omega)<|Ad O<|A7 ?_
   exact Ay (Br ((j+1,B)) ⟨rfl,rfl,rfl,rfl,rfl,rfl,rfl,rfl,rfl,rfl,trivial⟩ (⟨t,q,b,by rw [l];by_cases e:k<j;rw [if_pos e,if_pos (by omega)];rw [if_neg e,if_neg (by omega)],fun m h1 h2=>(Nat.lt_succ_iff_lt_or_eq.1 h1).elim (fun h=>U m h h2) (fun e=>e ▸ I)⟩) (by simp only;omega))
  intro g3
  have t:j=x.length:=by have:=AD g3;omega
  subst t
  rw [if_pos (by omega)] at l
  have e1:RN k s x=some B:=by unfold RN;rw [if_pos ⟨L,o,fun m h1 h2=>U m (by omega) h2⟩,l]
  have hbd:∀m,m<B.length→0≤B.getD m default∧B.getD m default≤64*(((i+1:Nat):Int)+1):=fun m hm' =>by
   have b1:=W m (by omega)
   rw [l]
   by_cases e:m=k
   ·subst e
    rw [getD_eq_getElem?_getD,getElem?_set_self (by omega),Option.getD_some]
    omega
   ·rw [getD_eq_getElem?_getD,getElem?_set_ne (by omega),← getD_eq_getElem?_getD]
    omega
  refine Bq<|Au<|Au<|Bc<|Ba<|Cr<|Ca O (by omega)<|Ad O<|A7 ?_
  exact Ay (Br ((i+1,B)) ⟨rfl,rfl,rfl,rfl,rfl,rfl,trivial⟩ (⟨f,q,b,by rw [hst,e1],by simp only;omega,hbd⟩) (by simp only;omega))
 intro g
 have f:i=a.length:=by have:=AD g;omega
 subst f
 have K:=N s (by rw [← hj,drop_length];rfl)
 refine Bq<|Au<|Au<|Bc<|Ay<|B9<|Ap<|Ai<|Ad O<|Ad O<|Aa (Aq AH O ‹_›) O ?_
 refine Aa (E8 O O) O<|Ak<|Am O ?_ ?_
 ·intro o
  have o:¬k<s.length:=by have:=AE o;omega
  refine Ai<|Ab O<|Bw<|Al O O ?_
  exact ⟨by rw [K,if_neg o];exact Cv _ _,J⟩
 intro o
 have o:k<s.length:=by have:=AD o;omega
 refine Ci<|Ad O<|Ab O<|As<|Al O O ?_
 exact ⟨by rw [K,if_pos o];exact Z,J⟩

def HE (a b:List Int):Int:=if Shapes.ok a && Shapes.ok b then (if a.length=2∧b.length=2∧a.getD 1 default=b.getD 0 default then 0 else 10) else 1
theorem Ox {a b:List Int} (h:Shapes.ok a=false∨Shapes.ok b=false):HE a b=1:=by
 unfold HE
 rw [if_neg]
 rcases h with h|h<;>simp [h]
theorem JO {a b:List Int} (c:Shapes.ok a=true) (d:Shapes.ok b=true) (h:¬(a.length=2∧b.length=2∧a.getD 1 default=b.getD 0 default)):HE a b=10:=by
 unfold HE
 rw [c,d,if_neg h];rfl
theorem Q9 {a b:List Int} (c:Shapes.ok a=true) (d:Shapes.ok b=true) (h:a.length=2∧b.length=2∧a.getD 1 default=b.getD 0 default):HE a b=0:=by
 unfold HE
 rw [c,d,if_pos h];rfl
def Vq (W w:World) (r:Value) (a b:List Int):Prop:=
 ∃x,r= .tuple #[x, .int .i64 (HE a b)]∧(HE a b≠0→x= .slice none 0 0)∧(HE a b=0→w.ownsRow W.heap.size 3 1 x 2 ([a.getD 0 default,b.getD 1 default].map (Value.int .i64)))
theorem Q7 (u v:Value) (a b:List Int) (W:World) (j:BE (Value.int .i64) W u a) (i:BE (Value.int .i64) W v b):
  AN prog 250 [u,v] W (fun r w' =>Below W.heap.size W w' ∧Vq W w' r a b):=by
 have f:=Below.refl W.heap.size W
 refine A4 (n:=40) func250 O<|Ai<|Ab O<|Ab O<|Ak<|Ap<|Ar<|Ai<|Ad O<|Ah O O (EB u a _ j) ?_
 rintro _ w ⟨rfl,k⟩
 have f:=f.bs k
 have j:=j.bs k
 have i:=i.bs k
 refine Aa (Cz O) O<|Ad O ?_
 refine Cc 10 O ?_ ?_
 ·intro g
  have e:=Ox (a:=a) (b:=b) (.inl (by simpa using g))
  refine Ae (dj:=10) O O O O<|Ae (dj:=10) O O O O<|Ae (dj:=10) O O O O<|Bt O<|Ab O<|Ak<|B6 O<|Ai<|Ab O<|Ab O<|As<|Bd<|A0<|B2 O O O ?_
  exact ⟨f,_,by rw [e],fun _=>rfl,fun h=>by rw [e] at h;cases h⟩
 intro g
 have l:Shapes.ok a=true:=by simpa using g
 refine Aj (dj:=10) O O<|Ad O<|Aj (dj:=10) O O<|Ah O O (EB v b _ i) ?_
 rintro _ w ⟨rfl,k⟩
 have f:=f.bs k
 have j:=j.bs k
 have i:=i.bs k
 refine Aj (dj:=10) O O<|Aa (Cz O) O<|Co O<|Ab O<|Ak<|Am O ?_ ?_
 ·intro g
  have e:=Ox (a:=a) (b:=b) (.inr (by simpa using g))
  refine Ai<|Ab O<|Ab O<|As<|Bd<|A0<|B2 O O O ?_
  exact ⟨f,_,by rw [e],fun _=>rfl,fun h=>by rw [e] at h;cases h⟩
 intro g
 have m:Shapes.ok b=true:=by simpa using g
 refine Ap<|Dz mixed (by kernel_rfl)<|B5 O<|Ax (fun d c=>Aq AH O (Sl.bs ‹_› c)) O ?_
 refine Ax (fun d c=>C0 O O) O<|B5 O ?_
 refine Ez 19 O ?_ ?_
 ·intro g
  have e:HE a b=10:=JO l m fun h=>by simp [h.1] at g
  refine Bn (dj:=19) O O O O<|Bn (dj:=19) O O O O<|Bn (dj:=19) O O O O<|Ax (fun d c=>Dc O O) O<|B5 O<|Bn (dj:=24) O O O O<|Bn (dj:=24) O O O O<|Bn (dj:=24) O O O O<|Bn (dj:=24) O O O O<|Bn (dj:=24) O O O O<|Bn (dj:=24) O O O O<|Bn (dj:=24) O O O O<|Ax (fun d c=>Dc O O) O<|Ep O ?_
  refine Dk (fun o c=> ?_)
  refine Ay<|B9<|B6 O<|Ai<|Ab O<|Ab O<|As<|Bd<|A0<|B2 O O O ?_
  exact ⟨bt f c,_,by rw [e],fun _=>rfl,fun h=>by rw [e] at h;cases h⟩
 intro g
 have q:a.length=2:=by simp at g;omega
 refine Cb (dj:=19) O O<|B5 O<|Cb (dj:=19) O O<|Ax (fun d c=>Aq AH O (Sl.bs ‹_› c)) O ?_
 refine Cb (dj:=19) O O<|Ax (fun d c=>C0 O O) O<|Ax (fun d c=>Dw O O) O<|B5 O ?_
 refine Ez 24 O ?_ ?_
 ·intro g
  have e:HE a b=10:=JO l m fun h=>by simp [h.2.1] at g
  refine Bn (dj:=24) O O O O<|Bn (dj:=24) O O O O<|Bn (dj:=24) O O O O<|Bn (dj:=24) O O O O<|Bn (dj:=24) O O O O<|Bn (dj:=24) O O O O<|Bn (dj:=24) O O O O<|Ax (fun d c=>Dc O O) O<|Ep O ?_
  refine Dk (fun o c=> ?_)
  refine Ay<|B9<|B6 O<|Ai<|Ab O<|Ab O<|As<|Bd<|A0<|B2 O O O ?_
  exact ⟨bt f c,_,by rw [e],fun _=>rfl,fun h=>by rw [e] at h;cases h⟩
 intro g
 have lb:b.length=2:=by simp at g;omega
 refine Cb (dj:=24) O O<|B5 O<|Cb (dj:=24) O O<|Ax (fun d c=>Bb AH O O (Sl.bs ‹_› c) 1 O (by omega)) O ?_
 refine Cb (dj:=24) O O<|Ax (fun d c=>Bf (BD _) O (Sl.bs ‹_› c) (by omega)) O ?_
 refine Cb (dj:=24) O O<|B5 O<|Cb (dj:=24) O O<|Ax (fun d c=>Bb AH O O (Sl.bs ‹_› c) 0 O (by omega)) O ?_
 refine Cb (dj:=24) O O<|Ax (fun d c=>Bf (BD _) O (Sl.bs ‹_› c) (by omega)) O ?_
 refine Cb (dj:=24) O O<|Ax (fun d c=>C0 O O) O<|Ax (fun d c=>Dw O O) O<|Ep O ?_
 refine Dk (fun o c=> ?_)
 refine Ay<|B9<|Am O ?_ ?_
 ·intro g
  have e:HE a b=10:=JO l m fun h=>by simp at g;exact g (by simpa using h.2.2)
  refine Ai<|Ab O<|Ab O<|As<|Bd<|A0<|B2 O O O ?_
  exact ⟨bt f c,_,by rw [e],fun _=>rfl,fun h=>by rw [e] at h;cases h⟩
 intro g
 have e:HE a b=0:=Q9 l m ⟨q,lb,by simpa using g⟩
 have f:=f.bs c
 have j:=j.bs c
 have i:=i.bs c
 clear c
 refine Cj<|Ba<|Ay<|B9<|Ap<|Cw.tail 6 mixed (by kernel_rfl)<|B5 O<|Ax (fun d c=>Bb AH O O (Sl.bs ‹_› c) 0 O (by omega)) O ?_
 refine Ax (fun d c=>Bf (BD _) O (Sl.bs ‹_› c) (by omega)) O ?_
 refine B5 O<|Ax (fun d c=>Bb AH O O (Sl.bs ‹_› c) 1 O (by omega)) O ?_
 refine Ax (fun d c=>Bf (BD _) O (Sl.bs ‹_› c) (by omega)) O ?_
 refine Qw.done (fun t c=> ?_)
 have f:=f.bs c
 have j:=j.bs c
 have i:=i.bs c
 refine An (B7 (vs:=[a.getD 0 default,b.getD 1 default].map (Value.int .i64)) AH DH O O O O O) O ?_
 rintro x s ⟨p, -,k, -⟩
 have z:=f.size
 have f:=f.bs k
 have j:=j.bs k
 have i:=i.bs k
 exact Ab rfl<|Ab rfl<|As<|B2 rfl rfl rfl<|⟨f,x,by rw [e],fun h=>absurd e h,fun _=>CR p z⟩
-- DD STOPPED
end Go.Proofs.YtblbopcaflaldaaGreatDoor

namespace Go.Dd
open Go Go.RowKit
open List hiding get
def rnd (ro:Option Nat):Fence:={Fence.wide with round:=ro}
theorem Jm {ro:Option Nat} {n:Nat} {P:Program} {f:FuncId} {args:Array Value} {w:World} {R:Ending→World→Prop}:CallsIn (rnd ro) n P f args w R↔Calls P f args w R:=
 (callsIn_wide (n:=n) (P:=P) (f:=f) (args:=args) (w:=w) (R:=R))
theorem N1 {ro:Option Nat} {n:Nat} {P:Program} {row:String} {args:Array Value} {w:World} {R:Value→World→Prop} (h:Rows P row args w R):RowsIn (rnd ro) n P row args w R:=
 fun c cs _=>let ⟨v,w',r,s⟩:=h c cs;⟨v,w',r,(stepsIn_wide (P:=P)).2 s⟩
def HH (D:List Deferred) (Q:BF):BF:=fun e a w=>match e with
 | .outgrown=>False
 |e=>Q e {a with defers:=a.defers++D} w
theorem LA {D:List Deferred} {Q:BF}:¬LetsOut (HH D Q):=fun ⟨_,_,h⟩=>h
theorem GQ (a:Act) (D:List Deferred) (d:Option Tmp) (v:Value):({a with defers:=a.defers++D}:Act).put d v={a.put d v with defers:=(a.put d v).defers++D}:=by
 cases d<;>rfl
theorem Kv (a:Act) (D:List Deferred):({a with defers:=D}:Act).eval=a.eval:=by
 funext x;cases x<;>rfl
def HB (o:Oper):Bool:=match o.op with
 | .defer _=>true
 |_=>false
def FM (l:List Oper):Bool:=l.all fun o=> !HB o
theorem NI {o:Oper} (h:HB o=false):∀c,o.op≠ .defer c:=fun c e=>by simp [HB,e] at h
theorem KK {ro:Option Nat} {o:Oper} (h:HB o=false) (ρ:Operand→Value):o.semAt ro ρ=execOp ρ o:=by
 cases ro with
 |none=>exact Oper.semAt_none ρ o
 |some l=>exact Oper.semAt_some l ρ o (NI h)
section
variable {P : Program} {Q : BF} {ro : Option Nat} {D : List Deferred} {m : Nat}
theorem QG {t:BF} {o:Oper} {a:Act} {w:World} {K b:Act→World→Prop} (q:∀c a w,t (.panic c) a w→Q (.panic c) a w) (u:HB o=false) (k:∀a w,K a w→b {a with defers:=a.defers++D} w) (h:o.wp P a w K (HH D t)):
  o.wpIn (rnd ro) m P {a with defers:=a.defers++D} w b Q:=by
 refine ⟨fun _ _=>trivial, ?_⟩
 rw [show (rnd ro).round=ro from rfl,KK u,Kv]
 unfold Oper.wp at h
 generalize (execOp a.eval o).run P w=r at h
 cases r with
 |ok nx w' =>
  cases nx with
  |value v=>show b _ _;rw [GQ];exact k _ _ h
  |skip=>show b _ _;rw [GQ];exact k _ _ h
  |«defer» d=>
   have j:K (({a with defers:=d::a.defers}:Act).put o.dst undef) w' :=h
   have s:=k _ _ j
   show b (({tmps:=a.tmps,defers:=d::(a.defers++D)}:Act).put o.dst undef) w'
   rw [← GQ] at s
   exact s
  |enter f args=>
   refine ⟨fun h=>by simp [rnd,Fence.wide] at h,Jm.2 ?_⟩
   have j:Calls P f args w' _:=h
   refine j.mono fun e p i=> ?_
   cases e with
   |returned v=>show b _ _;rw [GQ];exact k _ _ i
   |panicked chain=>exact q _ _ _ i
   |outgrown=>exact absurd i LA
  |row row args=>
   refine ⟨fun h=>by simp [rnd,Fence.wide] at h,N1 ?_⟩
   have j:Rows P row args w' _:=h
   refine j.mono fun v p i=> ?_
   show b _ _;rw [GQ];exact k _ _ i
  |_=>exact h.elim
 |halt x w' =>
  cases x with
  |panic v=>exact q _ _ _ h
  |_=>exact h.elim
theorem Kb {ops:Array Oper} {K:Act→World→Prop} {l2:List Oper} (d:∀(a:Act) (w:World),K {a with defers:=a.defers++D} w→wpListIn (rnd ro) m P ops Q l2 {a with defers:=a.defers++D} w):
  ∀(l:List Oper) (a:Act) (w:World),FM l=true→wpList P ops (HH D (BS K Q)) l a w→wpListIn (rnd ro) m P ops Q (l++l2) {a with defers:=a.defers++D} w
 |[],a,w,_,h=>d a w h
 |o::l,a,w,hd,h=>by
  simp only [FM,all_cons,Bool.and_eq_true,Bool.not_eq_true'] at hd
  have c:∀a w,wpList P ops (HH D (BS K Q)) l a w→wpListIn (rnd ro) m P ops Q (l++l2) {a with defers:=a.defers++D} w:=fun a w h=>Kb d l a w hd.2 h
  unfold wpList at h
  show wpListIn (rnd ro) m P ops Q (o::(l++l2)) {a with defers:=a.defers++D} w
  unfold wpListIn
  split at h
  ·rename_i b
   rw [if_pos b]
   rcases h with h|⟨_,h⟩
   ·exact QG (fun _ _ _ h=>h) hd.1 c h
   ·exact absurd h LA
  ·rename_i b
   rw [if_neg b]
   refine ⟨fun _ _=>trivial, ?_⟩
   rw [GQ]
   exact c _ _ h
theorem O0 {ops:Array Oper} (f:FM ops.toList=true):∀(l:List Nat) (a:Act) (w:World),wpOps P ops (HH D Q) l a w→wpOpsIn (rnd ro) m P ops Q l {a with defers:=a.defers++D} w
 |[],a,w,h=>h
 |i::l,a,w,h=>by
  have d:=O0 f l
  unfold wpOps at h
  unfold wpOpsIn
  cases ho:ops[i]? with
  |none=>simp only [ho] at h ⊢;exact d _ _ h
  |some o=>
   simp only [ho] at h ⊢
   have e:HB o=false:=by
    have k:=List.all_eq_true.1 f o (by obtain ⟨c,j⟩:=Array.getElem?_eq_some_iff.1 ho;rw [← j];exact Array.getElem_mem_toList c)
    simpa using k
   split at h
   ·rename_i b
    rw [if_pos b]
    rcases h with h|⟨_,h⟩
    ·exact QG (fun _ _ _ h=>h) e d h
    ·exact absurd h LA
   ·rename_i b
    rw [if_neg b]
    refine ⟨fun _ _=>trivial, ?_⟩
    rw [GQ]
    exact d _ _ h
end
structure BV (D:List Deferred) (n:Nat) (E:BT) (a:Act):Prop where
 dfr:a.defers=D
 size:a.tmps.size=n
 has:∀i v,get E i=some v→a.tmps[i]? =some v
theorem BV.fits {D:List Deferred} {n:Nat} {E:BT} {a:Act} (h:BV D n E a):BK n E {a with defers:=[]}:=⟨rfl,h.size,h.has⟩
theorem BV.back {D:List Deferred} {n:Nat} {E:BT} {a:Act} (h:BV D n E a):({({a with defers:=[]}:Act) with defers:=({a with defers:=[]}:Act).defers++D}:Act)=a:=by
 cases a;simp only [nil_append];rw [← h.dfr]
theorem BK.g {n:Nat} {E:BT} {a:Act} (h:BK n E a) (D:List Deferred):BV D n E {a with defers:=a.defers++D}:=⟨by simp [h.dfr],h.size,h.has⟩
theorem BK.g0 {n:Nat} {E:BT} {a:Act} (h:BK n E a):BV [] n E a:=⟨h.dfr,h.size,h.has⟩
theorem BV.ev {D:List Deferred} {n:Nat} {E:BT} {a:Act} (h:BV D n E a) {x:Operand} {v:Value} (b:Dd.ev E x=some v):a.eval x=v:=by
 have:=h.fits.ev b
 rwa [Kv] at this
theorem BV.evs {D:List Deferred} {n:Nat} {E:BT} {a:Act} (h:BV D n E a) {l:List Operand} {vs:List Value} (b:Dd.evs E l=some vs):l.map a.eval=vs:=by
 have:=h.fits.evs b
 rwa [Kv] at this
theorem BV.put {D:List Deferred} {n:Nat} {E:BT} {a:Act} (h:BV D n E a) {d:Nat} (v:Value) (b:Nat.blt d n=true):BV D n ((d,v)::E) (a.put (some d) v):=
 ⟨h.dfr,(h.fits.put v b).size,(h.fits.put v b).has⟩
theorem BV.sub {D:List Deferred} {n:Nat} {E F:BT} {a:Act} (h:BV D n E a) (b:PU E F):BV D n F a:=⟨h.dfr,h.size,fun i v c=>h.has i v (b.get i v c)⟩
def Cg (ro:Option Nat) (D:List Deferred) (P:Program) (Q:BF) (n:Nat) (c:Code) (E:BT) (w:World):Prop:=∀a,BV D n E a→c.wpIn (rnd ro) 9 P Q a w
def Pg (D:List Deferred) (n:Nat) (E:BT) (R:Act→World→Prop) (w:World):Prop:=∀a,BV D n E a→R a w
def Lg (ro:Option Nat) (D:List Deferred) (P:Program) (l0:List Oper) (Q:BF) (n:Nat) (l:List Oper) (E:BT) (w:World):Prop:=∀a,BV D n E a→wpListIn (rnd ro) 9 P l0.toArray Q l a w
section
variable {P : Program} {Q : BF} {n : Nat} {E : BT} {w : World} {ro : Option Nat} {D : List Deferred}
theorem D0 {x y:Code} (h:Cg ro D P (BS (fun a w=>y.wpIn (rnd ro) 9 P Q a w) Q) n x E w):Cg ro D P Q n (.seq x y) E w:=fun a b=>wpIn_seq (by have:=h a b;rwa [Jx] at this)
theorem Cg.block {b:Nat} {c:Code} (h:Cg ro D P (H1 b Q) n c E w):Cg ro D P Q n (.block b c) E w:=fun a d=>wpIn_block (by have:=h a d;rwa [MG] at this)
theorem Cg.skip (h:Pg D n E (Q .normal) w):Cg ro D P Q n .skip E w:=fun a b=>wpIn_skip (h a b)
theorem Cg.exit {b:Nat} (h:Pg D n E (Q (.exit b)) w):Cg ro D P Q n (.exit b) E w:=fun a c=>wpIn_exit (h a c)
theorem Cg.ret (h:Pg D n E (Q .ret) w):Cg ro D P Q n .ret E w:=fun a b=>wpIn_ret (h a b)
theorem Cg.cond {c:Operand} {x y:Code} {t:Bool} (f:ev E c=some (.bool t)) (e:t=true→Cg ro D P Q n x E w) (d:t=false→Cg ro D P Q n y E w):Cg ro D P Q n (.cond c x y) E w:=
 fun a b=>wpIn_cond_split (b.ev f) (fun h=>e h a b) (fun h=>d h a b)
theorem Cg.condB {c:Operand} {x y:Code} {t:Bool} (f:ev E c=some (.bool t)) (b:Bool) (e:t=b) (h:Cg ro D P Q n (if b then x else y) E w):Cg ro D P Q n (.cond c x y) E w:=
 fun a d=>wpIn_cond (d.ev f) (by rw [e];exact h a d)
theorem D1 {c:Code} (h:Cg ro D P Q n c E w):Pg D n E (fun a w=>c.wpIn (rnd ro) 9 P Q a w) w:=h
theorem C4 {K:Act→World→Prop} (h:Pg D n E K w):Pg D n E (BS K Q .normal) w:=h
theorem Gu {K:Act→World→Prop} {a:Nat} (h:Pg D n E (Q (.exit a)) w):Pg D n E (BS K Q (.exit a)) w:=h
theorem Gk {a:Nat} (h:Pg D n E (Q .normal) w):Pg D n E (H1 a Q .normal) w:=h
theorem Pg.blkHit {b:Nat} (h:Pg D n E (Q .normal) w):Pg D n E (H1 b Q (.exit b)) w:=fun a c=>by
 show if b=b then Q .normal a w else Q (.exit b) a w
 rw [if_pos rfl];exact h a c
theorem Cg.loop {S:Type} (i:S→BT) (I:S→World→Prop) (m:S→Nat) {c:Code} (y:S) (T:PU E (i y)) (L:I y w)
  (p:∀s w,I s w→Cg ro D P (BS (fun h w' =>∃f,BV D n (i f) h∧I f w' ∧m f<m s) Q) n c (i s) w):Cg ro D P Q n (.loop c) E w:=by
 intro a Z
 have key:∀k s a w,m s=k→BV D n (i s) a→I s w→(Code.loop c).wpIn (rnd ro) 9 P Q a w:=by
  intro k s a w hk u U
  refine wpIn_loop (fun h w' =>∃f,BV D n (i f) h∧I f w') (fun h w' =>Classical.epsilon fun k=>∃f,BV D n (i f) h∧I f w' ∧m f=k∧∀d,BV D n (i d) h→I d w' →k≤m d) ⟨s,u,U⟩ ?_
  have j:∀h w',(∃f,BV D n (i f) h∧I f w')→∃k,∃f,BV D n (i f) h∧I f w' ∧m f=k∧∀d,BV D n (i d) h→I d w' →k≤m d:=by
   intro h w' ⟨f,t,r⟩
   have:∀b f,BV D n (i f) h→I f w' →m f≤b→∃k,∃f,BV D n (i f) h∧I f w' ∧m f=k∧∀d,BV D n (i d) h→I d w' →k≤m d:=by
    intro b
    induction b with
    |zero=>intro f t r Y;exact ⟨m f,f,t,r,rfl,fun d _ _=>by omega⟩
    |succ b ih=>
     intro f t r Y
     by_cases hex:∃d,BV D n (i d) h∧I d w' ∧m d≤b
     ·obtain ⟨d,o,q,F⟩:=hex;exact ih d o q F
     ·refine ⟨m f,f,t,r,rfl,fun d o q=> ?_⟩
      rcases Nat.lt_or_ge (m d) (m f) with J|v
      ·exact absurd ⟨d,o,q,by omega⟩ hex
      ·exact v
   exact this (m f) f t r (AU _)
  intro H A z
  obtain ⟨X,V,N,g3,g4⟩:=Classical.epsilon_spec (j H A z)
  have G:=p X A N H V
  rw [Jx] at G
  refine Code.wpIn_mono (fun e a2 w2 C=> ?_) G
  cases e with
  |normal=>
   obtain ⟨x,o,q,F⟩:=C
   refine ⟨⟨x,o,q⟩, ?_⟩
   obtain ⟨s3,r1,r2,r3,M⟩:=Classical.epsilon_spec (j a2 w2 ⟨x,o,q⟩)
   have:=M x o q
   rw [← g3]
   omega
  |_=>exact C
 exact key _ y a w rfl (Z.sub T) L
theorem Pg.next {S:Type} {b:S→BT} {I:S→World→Prop} {m:S→Nat} {k:Nat} (a:S) (c:PU E (b a)) (e:I a w) (d:m a<k):Pg D n E (fun h w' =>∃a,BV D n (b a) h∧I a w' ∧m a<k) w:=
 fun _ f=>⟨a,f.sub c,e,d⟩
theorem Pg.low (h:Pg D n E (Q .normal) w):Pw n E (HH D Q .normal) w:=fun a b=>h _ (b.g D)
theorem Px {D:List Deferred} {Q:BF}:HH D Q=HH D (BS (fun a w=>Q .normal a w) Q):=by
 funext e a w;cases e<;>rfl
theorem De {e:Nat} {l:List Oper} (d:FM l=true) (h:Lw P l (HH D Q) n l E w):Cg ro D P Q n (.region e l.toArray false) E w:=fun a b=>by
 have c:=h _ b.fits
 rw [← b.back]
 rw [Px] at c
 have:=Kb (ro:=ro) (m:=9) (l2:=[]) (fun a w h=>h) l _ w d c
 rw [append_nil] at this
 exact wpIn_region_lit this
theorem Ja {d:Nat} {l:List Oper} {a:Act} (e:P.follows .mixedOrders=true) (c:FM l=true) (f:BV D n E a)
  (h:wpAny P .any l.toArray (HH D Q) l.length (Array.replicate l.length false) {a with defers:=[]} {w with drawn:=w.drawn+1}):(Code.region d l.toArray true).wpIn (rnd ro) 9 P Q a w:=
 wpIn_region_draw fun t=>by
  simp only [Region.schedule,e,Bool.true_or,if_true]
  have i:=wpAny_sound l.toArray.size t _ _ _ (by simpa using h)
  have b:=O0 (ro:=ro) (m:=9) (by simpa using c) _ _ _ i
  rw [f.back] at b
  exact b
theorem Cg.any {d:Nat} {l:List Oper} (e:P.follows .mixedOrders=true) (c:FM l=true) (h:∀w',Below w.heap.size w w' →w'.heap.size=w.heap.size→Aw P l (HH D Q) n l.length (Array.replicate l.length false) E w'):Cg ro D P Q n (.region d l.toArray true) E w:=fun a b=>
 Ja e c b (h _ (DZ w) rfl _ b.fits)
theorem Cg.quiet {i:Nat} {l:List Oper} (j:P.follows .mixedOrders=true) (f:FM l=true) (d:Region.lexB .any l.toArray=true) (h:Qw P l (Below w.heap.size w) (fun c=>∀w',Below w.heap.size w w' →HH D Q .normal c w') n l E):
  Cg ro D P Q n (.region i l.toArray true) E w:=fun a e=>by
 refine Ja j f e ?_
 simp only [Region.lexB,Bool.and_eq_true] at d
 have:=wpAnyQ_lex (C:=Below w.heap.size w) (md:= .any) d.1 l.toArray.toList 0 (Array.replicate l.toArray.size false) _ (by simp) (by simpa using d.2) (by simpa using h _ e.fits)
 have k:=wpAny_of_quiet (Q:=fun c=>∀w',Below w.heap.size w w' →HH D Q .normal c w') (Q' :=HH D Q) (fun _ w' b h=>h w' b) _ _ _ _ (DZ w) this
 simpa using k
theorem F6 {b:Nat} {l:List Oper} (h:Lg ro D P l Q n l E w):Cg ro D P Q n (.region b l.toArray false) E w:=fun a c=>wpIn_region_lit (h a c)
theorem Lg.plain {l0 l:List Oper} (k:Nat) (c:FM (l.take k)=true) (h:Lw P l0 (HH D (BS (fun a w=>wpListIn (rnd ro) 9 P l0.toArray Q (l.drop k) a w) Q)) n (l.take k) E w):Lg ro D P l0 Q n l E w:=fun a b=>by
 have:=Kb (ro:=ro) (m:=9) (l2:=l.drop k) (fun a w h=>h) (l.take k) _ w c (h _ b.fits)
 rwa [b.back,take_append_drop] at this
theorem Lg.nil {l0:List Oper} (h:Pg D n E (Q .normal) w):Lg ro D P l0 Q n [] E w:=fun a b=>wpListIn_nil (h a b)
theorem G8 {l0 l:List Oper} (h:Lg ro D P l0 Q n l E w):Pg D n E (BS (fun a w=>wpListIn (rnd ro) 9 P l0.toArray Q l a w) Q .normal) w:=h
end
def Yd (P:Program) (l:Nat) (args:List Value) (W:World) (R:Bool→World→Prop):Prop:=YieldAt Fence.wide 9 P l args.toArray W fun e w' =>∃b,e= .returned (.bool b)∧R b w'
theorem Yd.mono {P:Program} {l:Nat} {args:List Value} {W:World} {R a:Bool→World→Prop} (h:Yd P l args W R) (f:∀b w',R b w' →a b w'):Yd P l args W a:=by
 obtain ⟨fn,tmps,assign,body,i,d⟩:=h
 exact ⟨fn,tmps,assign,body,i,d.mono fun e w' ⟨b,c,j⟩=>⟨b,c,f _ _ j⟩⟩
theorem Pc {ro:Option Nat} {m a:Nat} {P:Program} {l:Nat} {f:FuncId} {tmps:Array Value} {assign body:Code} {w:World} {R:Ending→World→Prop} (h:RoundIn Fence.wide m P l f tmps assign body w R):RoundIn (rnd ro) a P l f tmps assign body w R:=
 ⟨trivial,fun c cs _=>h.2 c cs (room_wide _)⟩
section
variable {P : Program} {Q : BF} {n : Nat} {E : BT} {w : World} {ro : Option Nat} {D : List Deferred} {l0 rest : List Oper} {ty : TypeId} {pos : String} {af : Array Edge}
theorem K7 {a:Act} {y:Operand} {xs:List Operand} {vs:List Value} {ts:Array TypeId} {d:Option Nat} {g:Option (Nat×Bool)} {l:Nat} {r:Next} (c:a.eval y= .func (.yield l) #[] #[]) (f:xs.map a.eval=vs) (e:(Instr.yield l vs.toArray).run P w= .ok r w):
  (execOp a.eval ⟨d, .call {callee:= .value y,args:=xs.toArray,argTypes:=ts},ty,pos,af,g⟩).run P w= .ok r w:=by
 have b:xs.toArray.map a.eval=vs.toArray:=by rw [map_toArray,f]
 simp [execOp,resolve,b,c,Deferred.ofValue,invoke,e]
theorem Lg.yield {d l:Nat} {y:Operand} {xs:List Operand} {vs:List Value} {ts:Array TypeId} {R:Bool→World→Prop} (i:ev E y=some (.func (.yield l) #[] #[])) (s:evs E xs=some vs) (f:Nat.blt d n=true) (h:Yd P l vs w R)
  (k:∀b w',R b w' →Lg ro D P l0 Q n rest ((d, .bool b)::E) w'):Lg ro D P l0 Q n (⟨some d, .call {callee:= .value y,args:=xs.toArray,argTypes:=ts},ty,pos,af,none⟩::rest) E w:=
 fun a c=>wpListIn_plain rfl fun K q=>by
  obtain ⟨fn,tmps,assign,body,p,o⟩:=h
  refine ⟨fun _ _=>trivial, ?_⟩
  rw [show (rnd ro).round=ro from rfl,KK rfl,K7 (c.ev i) (c.evs s) p]
  refine ⟨fun h=>by simp [rnd,Fence.wide] at h, ?_⟩
  refine (Pc o).mono fun e w' ⟨b,j,r⟩=> ?_
  subst j
  exact q _ _ (k b w' r _ (c.put _ f))
end
section
variable {P : Program} {Q : BF} {ro : Option Nat} {D : List Deferred} {ops : Array Oper} {md : Region.Mode} {m : Nat}
end
def Nc (B:Nat) (A A' :World):Prop:=∃r,A.grownBy A' r∧∀b,r=some b→B≤b∧∃o:Obj,A.heap[b]? =some o∧o.isCells=false
def Vy (wr:Option Nat) (A A' :World):Prop:=∃r,A.grownBy A' r∧(r=none∨r=wr)
theorem N8 {B l:Nat} {A:World} {r:Loop} (o:Obj) (a:B≤l) (h:A.heap[l]? =some (.loop r)):Nc B A (A.putObj l o):=⟨some l,grownBy_putObj' A l o,fun b e=>by cases e;exact ⟨a,_,h,rfl⟩⟩
theorem M5 (B:Nat) (A:World) (o:Obj):Nc B A (A.alloc o):=⟨none,World.grownBy_alloc A o none,fun b e=>by cases e⟩
theorem Nc.mono {B a:Nat} {A d:World} (h:Nc B A d) (i:a≤B):Nc a A d:=by
 obtain ⟨r,f,c⟩:=h
 exact ⟨r,f,fun b e=>⟨Nat.le_trans i (c b e).1,(c b e).2⟩⟩
theorem Nc.size {B:Nat} {A a:World} (h:Nc B A a):A.heap.size≤a.heap.size:=by obtain ⟨r,b,_⟩:=h;exact b.size
theorem Nc.blk {B:Nat} {A d:World} (h:Nc B A d) {k:Nat} {o:Obj} (c:A.heap[k]? =some o) (j:o.isCells=true):d.heap[k]? =A.heap[k]? :=by
 obtain ⟨r,i,f⟩:=h
 refine i.block k (Array.getElem?_eq_some_iff.1 c).1 fun e=> ?_
 obtain ⟨_,p,b,a⟩:=f k e.symm
 rw [c] at b;cases b
 rw [j] at a;cases a
theorem Nc.below {B:Nat} {A b:World} (h:Nc B A b) {a:Nat} (f:a≤B) (i:a≤A.heap.size):Below a A b:=by
 obtain ⟨r,d,c⟩:=h
 exact EG d i fun k e=>Nat.le_trans f (c k e).1
theorem _root_.Go.RowKit.Below.nc {B a:Nat} {W A b:World} (h:Below a W A) (k:Nc B A b) (c:a≤B) (d:a≤W.heap.size):Below a W b:=h.trans (k.below c (Nat.le_trans d h.size))
theorem AP.nc {B:Nat} {w w' :World} {b:Nat} {T:TypeId} {cs:List Value} (h:AP w b T cs) (k:Nc B w w'):AP w' b T cs:=h.keep (k.blk h rfl)
theorem FI.nc {B:Nat} {w w' :World} {e:Option Addr} {b:List Value} (h:FI w e b) (k:Nc B w w'):FI w' e b:=h.keep fun a f c=>by
 obtain ⟨u,b,rfl⟩:=exists_cons_of_ne_nil c
 have d:=h a f 0 u (by simp)
 unfold World.cell? at d
 rw [GH] at d
 cases ho:w.heap[a.block]? with
 |none=>simp [ho] at d
 |some o=>
  have i:o.isCells=true:=by cases o<;>simp_all [Obj.isCells]
  rw [k.blk ho i,ho]
theorem Sl.nc {B:Nat} {w w' :World} {sz:Nat} {v:Value} {n:Nat} {xs:List Value} (h:Sl w sz v n xs) (k:Nc B w w'):Sl w' sz v n xs:=by
 obtain ⟨d,a,cap,rfl,b,f,c,e⟩:=h
 exact ⟨d,a,cap,rfl,b,f,c,e.nc k⟩
theorem L8 {B:Nat} {w w' :World} {base:Nat} {e:TypeId} {sz:Nat} {v:Value} {n:Nat} {xs:List Value} (h:w.ownsRow base e sz v n xs) (k:Nc B w w'):w'.ownsRow base e sz v n xs:=by
 obtain ⟨d,c⟩:=h
 rcases c with c|⟨b,cap,a,rfl,j,f,i⟩
 ·exact ⟨d, .inl c⟩
 ·exact ⟨d, .inr ⟨b,cap,a,rfl,j,(k.blk f rfl).trans f,i⟩⟩
theorem AQ.nc {B:Nat} {w w' :World} {base:Nat} {e:TypeId} {sz:Nat} {v:Value} {n:Nat} {xs:List Value} (h:AQ w base e sz v n xs) (k:Nc B w w'):AQ w' base e sz v n xs:=by
 rcases h with h|⟨g,a,rfl,c,d,b⟩
 ·exact .inl (L8 h k)
 ·exact .inr ⟨g,a,rfl,c,d.nc k,b⟩
theorem UN {B:Nat} {W w w' :World} (h:KeepsFrom B W w) (k:Below w.heap.size w w'):KeepsFrom B W w' :=h.trans ⟨k.size,fun i o _ a _=>(k.block i (Array.getElem?_eq_some_iff.1 a).1).trans a⟩
theorem _root_.Go.KeepsFrom.bs {B:Nat} {W w w' :World} (h:KeepsFrom B W w) (k:Below w.heap.size w w'):KeepsFrom B W w' :=UN h k
theorem _root_.Go.KeepsFrom.blk {B b:Nat} {W w w' :World} {T:TypeId} {cs:List Value} (h:KeepsFrom B W w) (c:AP w b T cs) (k:w.grownBy w' (some b)):KeepsFrom B W w' :=
 h.trans ⟨k.size,fun i o _ a d=>(k.block i (Array.getElem?_eq_some_iff.1 a).1 (fun e=>by cases e;rw [show w.heap[b]? =_ from c] at a;cases a;cases d)).trans a⟩
theorem _root_.Go.KeepsFrom.own {B base:Nat} {W w w' :World} {e:TypeId} {sz k:Nat} {v:Value} {xs:List Value} (h:KeepsFrom B W w) (d:w.ownsRow base e sz v k xs) (g:w.grownBy w' v.ownBlock):KeepsFrom B W w' :=
 h.trans ⟨g.size,fun i o _ a j=>(g.block i (Array.getElem?_eq_some_iff.1 a).1 (fun e=>by
  rcases d.2 with ⟨rfl,_⟩|⟨b,cap,c,rfl,_,f,_⟩
  ·simp [Value.ownBlock] at e
  ·simp only [Value.ownBlock,Option.some.injEq] at e
   subst e
   rw [f] at a;cases a;cases j)).trans a⟩
def Kp (Nd:Nat→Prop) (w w' :World):Prop:=w.heap.size≤w'.heap.size∧∀b,Nd b→b<w.heap.size→w'.heap[b]? =w.heap[b]?
theorem Kp.refl {Nd:Nat→Prop} {w:World}:Kp Nd w w:=⟨AU _,fun _ _ _=>rfl⟩
theorem Kp.trans {Nd:Nat→Prop} {a b c:World} (h:Kp Nd a b) (k:Kp Nd b c):Kp Nd a c:=⟨Nat.le_trans h.1 k.1,fun i e d=>(k.2 i e (Nat.lt_of_lt_of_le d h.1)).trans (h.2 i e d)⟩
theorem Kp.grown {Nd:Nat→Prop} {a b c:World} (h:Kp Nd a b) {r:Option Nat} (g:b.grownBy c r) (f:∀i,r=some i→¬Nd i):Kp Nd a c:=h.trans ⟨g.size,fun i j d=>g.block i d fun e=>f i e.symm j⟩
theorem Kp.bs {Nd:Nat→Prop} {a b c:World} (h:Kp Nd a b) (g:Below b.heap.size b c):Kp Nd a c:=h.trans ⟨g.size,fun i _ d=>g.block i d⟩
theorem Kp.nc {Nd:Nat→Prop} {B:Nat} {a b c:World} (h:Kp Nd a b) (g:Nc B b c) (j:∀i,Nd i→i<B):Kp Nd a c:=by
 obtain ⟨r,f,d⟩:=g
 exact h.grown f fun i e k=>by have:=(d i e).1;have:=j i k;omega
theorem Kp.below {Nd:Nat→Prop} {B:Nat} {a b c:World} (h:Kp Nd a b) (g:Below B b c) (e:∀i,Nd i→i<B):Kp Nd a c:=h.trans ⟨g.size,fun i d _=>g.block i (e i d)⟩
def Sq {α:Type} (P:Program) (gf:FuncId) (lf lb:List Value) (encs:α→List Value) (Nd:Nat→Prop) (wr:Option Nat) (xs:List α) (w:World):Prop:=
 ∀(l:Nat) (J:List α→World→Prop) (W:World),Below w.heap.size w W→(∀pre A A',J pre A→Vy wr A A' →J pre A')→
  (∀pre x A,J pre A→pre++[x]<+:xs→Yd P l (encs x) A fun b A' =>b=true∧J (pre++[x]) A' ∧Kp Nd A A')→J [] W→
  AN P gf (lf++ .func (.yield l) #[] #[]::lb) W fun _ A=>J xs A
def Vp (B:Nat) (Nd:Nat→Prop) (W:World) (K:World→Prop):BF:=fun e _ w' =>match e with
 | .normal=>KeepsFrom B W w' ∧Kp Nd W w' ∧K w'
 |_=>False
def Vt (B:Nat) (Nd:Nat→Prop) (l:Nat) (P:Program) (body:Code) (W:World) (K:World→Prop):BF:=fun e a w=>match e with
 | .normal=>KeepsFrom B W w∧Kp Nd W w∧∀w2,Nc l w w2→w2.heap.size=w.heap.size→(∃r,w2.heap[l]? =some (.loop r))→body.wpIn (rnd (some l)) 9 P (Vp B Nd w2 K) a w2
 |_=>False
section
variable {P : Program} {n : Nat} {E : BT} {w W : World} {B l : Nat} {Nd : Nat → Prop} {body : Code} {K : World → Prop}
theorem Pg.asg (i:KeepsFrom B W w) (f:Kp Nd W w) (h:∀b,Nc l w b→b.heap.size=w.heap.size→(∃r,b.heap[l]? =some (.loop r))→Cg (some l) [] P (Vp B Nd b K) n body E b):Pg [] n E (Vt B Nd l P body W K .normal) w:=
 fun a c=>⟨i,f,fun b d e j=>h b d e j a c⟩
theorem Pg.rnd {D:List Deferred} (a:KeepsFrom B W w) (b:Kp Nd W w) (h:K w):Pg D n E (Vp B Nd W K .normal) w:=fun _ _=>⟨a,b,h⟩
end
abbrev K9 (fn:FuncId) (tmps:Array Value) (ps:Array Tmp) (assign body:Code) (dD:Nat) (st:LoopState):Loop:={state:=st,pending:=none,fn,tmps,params:=ps,assign,body,defers:=dD}
theorem U1 {α:Type} {P:Program} {l j:Nat} {fn:FuncId} {tmps:Array Value} {ps:Array Tmp} {assign body:Code} {B:Nat} {Nd:Nat→Prop} {xs:List α} {encs:α→List Value} (X:∀x,(encs x).length=ps.size) {I:List α→World→Prop} {Ex:World→Prop} (i:B≤l) (G:∀b,Nd b→b<l)
  (hI:∀a A z,I a A→Nc B A z→I a z) (s:∀A z,Ex A→KeepsFrom B A z→Ex z) (L:∀A o,Ex A→Ex (A.putObj l o))
  (c:∀a x W,I a W→a++[x]<+:xs→(∃r,W.heap[l]? =some (.loop r))→assign.wpIn (rnd (some l)) 9 P (Vt B Nd l P body W (I (a++[x]))) {tmps:=(ps.zip (encs x).toArray).foldl (fun t (p,v)=>t.setIfInBounds p v) tmps,defers:=[]} W)
  (a:List α) (x:α) (W:World) (h:I a W∧W.heap[l]? =some (.loop (K9 fn tmps ps assign body j .ready))∧Ex W) (y:a++[x]<+:xs):
  Yd P l (encs x) W fun b S=>b=true∧(I (a++[x]) S∧S.heap[l]? =some (.loop (K9 fn tmps ps assign body j .ready))∧Ex S)∧Kp Nd W S:=by
 obtain ⟨hi,U,V⟩:=h
 refine ⟨fn,_,assign,body,run_yield U (by simpa using X x),roundIn_of_wpIn (F:=Fence.wide) trivial ?_⟩
 refine wpIn_mono (c a x W hi y ⟨_,U⟩) ?_
 rintro e a1 T N
 cases e with
 |normal=>
  obtain ⟨k,Z,N⟩:=N
  have f:=k.same l _ i U rfl
  have q:=(Array.getElem?_eq_some_iff.1 f).1
  refine ⟨_,run_beginRound f O, ?_⟩
  have u:(T.putObj l (.loop (K9 fn tmps ps assign body j .busy))).heap[l]? =some (.loop (K9 fn tmps ps assign body j .busy)):=World.putObj_heap_same q
  have H:Nc l T (T.putObj l (.loop (K9 fn tmps ps assign body j .busy))):=N8 _ (AU _) f
  refine wpIn_mono (N _ H (by simp) ⟨_,u⟩) ?_
  rintro e a3 W3 hp
  cases e with
  |normal=>
   obtain ⟨J,hb3,Y⟩:=hp
   have d:=J.same l _ i u rfl
   have M:=(Array.getElem?_eq_some_iff.1 d).1
   have C:Nc l W3 (W3.putObj l (.loop (K9 fn tmps ps assign body j .ready))):=N8 _ (AU _) d
   refine ⟨_,_,run_endRound none d,true,rfl,rfl,⟨hI _ _ _ Y (C.mono i),World.putObj_heap_same M,L _ _ (s _ _ (L _ _ (s _ _ V k)) J)⟩, ?_⟩
   exact (((Z.nc H G).trans hb3).nc C G)
  |_=>exact hp.elim
 |_=>exact N.elim
def binds:List Nat→List Value→BT→BT
 |p::ps,v::vs,E=>binds ps vs ((p,v)::E)
 |_,_,E=>E
theorem Ku {n:Nat}:∀(pl:List Nat) (vs:List Value) (E:BT) (a:Act),pl.all (Nat.blt · n)=true→BK n E a→BK n (binds pl vs E) {a with tmps:=(pl.zip vs).foldl (fun t (p,v)=>t.setIfInBounds p v) a.tmps}
 |[],_,_,_,_,h=>h
 |_::_,[],_,_,_,h=>h
 |p::ps,v::vs,E,a,hp,h=>by
  simp only [all_cons,Bool.and_eq_true] at hp
  exact Ku ps vs ((p,v)::E) (a.put (some p) v) hp.2 (h.put v hp.1)
section
variable {P : Program} {Q : BF} {n : Nat} {E : BT} {w : World} {D : List Deferred} {α : Type} {g : Operand} {pl : List Nat} {assign body : Code} {gf : FuncId} {lf lb : List Value} {encs : α → List Value} {Nd : Nat → Prop} {wr : Option Nat} {xs : List α}
theorem K6 {a : Act} {l : Nat} {W : World} (e : ∃ fn, P.funcs[gf]? = some fn ∧ (fn.name == "runtime.NumGoroutine") = false ∧ fn.body.isSome = true) (c : a.eval g = .func (.func gf) lf.toArray lb.toArray) :
  ∃d:Deferred,(resolve a.eval (rangeCall g l) 0).run P W= .ok d W∧(∀b,Target.leads P W d.target d.args=some b→(rnd none).fn b)∧(invoke d.target d.args).run P W= .ok (.enter gf (lf++ .func (.yield l) #[] #[]::lb).toArray) W:=by
 refine ⟨_,by simp only [resolve,c];simp [go_sem];rfl,fun _ _=>trivial, ?_⟩
 simp [invoke,go_sem,DN (P:=P) (w:=W) e]
theorem Cg.range (hg:ev E g=some (.func (.func gf) lf.toArray lb.toArray)) (M:Sq P gf lf lb encs Nd wr xs w) (Z:∀b,Nd b→b<w.heap.size) (Y:∀x,(encs x).length=pl.length) (N:pl.all (Nat.blt · n)=true) (I:List α→World→Prop)
  (G:∀b,wr=some b→b<w.heap.size) (h0:I [] w) (H:∀c A s,I c A→Nc w.heap.size A s→I c s) (hW:∀c A s,I c A→Vy wr A s→I c s)
  (q:∀l c x W,w.heap.size≤l→I c W→c++[x]<+:xs→(∃r,W.heap[l]? =some (.loop r))→Cg (some l) [] P (Vt w.heap.size Nd l P body W (I (c++[x]))) n assign (binds pl (encs x) E) W)
  (u:∀d W,w.heap.size≤d→I xs W→W.heap[d]? =some (.deferred (some []))→Pg ({target:= .collected d,args:= #[]}::D) n E (Q .normal) W):Cg none D P Q n (.rangeFunc g pl.toArray assign body) E w:=fun a F=>by
 refine wpIn_rangeFunc ?_
 intro fn hfn
 rw [show (rnd none).round=none from rfl]
 obtain ⟨j,i⟩:∃j,(w.alloc (.deferred (some []))).alloc (.loop (K9 fn a.tmps pl.toArray assign body w.heap.size .ready))=j:=⟨_,rfl⟩
 have T:j.heap[w.heap.size+1]? =some (.loop (K9 fn a.tmps pl.toArray assign body w.heap.size .ready)):=by
  rw [← i];have:=World.alloc_heap_new (w.alloc (.deferred (some []))) (.loop (K9 fn a.tmps pl.toArray assign body w.heap.size .ready));rwa [World.size_alloc] at this
 have hK1:j.heap[w.heap.size]? =some (.deferred (some [])):=by
  rw [← i];exact (Below.heap_alloc _ _ _ (by simp)).trans (World.alloc_heap_new w _)
 have U:I [] j:=by rw [← i];exact H _ _ _ (H _ _ _ h0 (M5 _ _ _)) (M5 _ _ _)
 have hb1:Below w.heap.size w j:=by
  rw [← i];exact ((Below.refl _ w).alloc (AU _) _).alloc (by simp) _
 have p:=M (w.heap.size+1) (fun c W=>I c W∧W.heap[w.heap.size+1]? =some (.loop (K9 fn a.tmps pl.toArray assign body w.heap.size .ready))∧W.heap[w.heap.size]? =some (.deferred (some []))) j hb1
  (fun c A s ⟨h1,h2,h3⟩ t=>by
   refine ⟨hW c A s h1 t, ?_, ?_⟩
   ·obtain ⟨r,y,f⟩:=t
    refine (y.block _ (Array.getElem?_eq_some_iff.1 h2).1 fun e=> ?_).trans h2
    rcases f with f|f
    ·rw [f] at e;cases e
    ·have:=G _ (f ▸ e.symm);omega
   ·obtain ⟨r,y,f⟩:=t
    refine (y.block _ (Array.getElem?_eq_some_iff.1 h3).1 fun e=> ?_).trans h3
    rcases f with f|f
    ·rw [f] at e;cases e
    ·have:=G _ (f ▸ e.symm);omega)
  (fun c x A h z=>U1 (by simpa using Y) (by omega) (fun b hb=>by have:=Z b hb;omega) H (fun A s h k=>k.same _ _ (AU _) h rfl) (fun A o h=>(World.putObj_heap_other (by omega)).trans h)
   (fun c x W X J f=>by
    have C:=Ku pl (encs x) E _ N F.fits
    have:=q (w.heap.size+1) c x W (by omega) X J f _ C.g0
    simpa using this) c x A h z)
  ⟨U,T,hK1⟩
 obtain ⟨d,V,L,S⟩:=K6 (P:=P) (l:=w.heap.size+1) (W:=j) (lf:=lf) (lb:=lb) p.1 (F.ev hg)
 refine ⟨w.heap.size+1,[{target:= .collected w.heap.size,args:= #[]}],j,d,j,gf,_,j, ?_,V,L,S,fun h=>by simp [rnd,Fence.wide] at h,Jm.2 (p.2.mono ?_)⟩
 ·rw [← i];exact run_enterLoop_outer _ _ _ _ _
 ·rintro e W2 ⟨v,rfl,X,J,hk⟩
  refine ⟨none,_,run_endLoop J (by simp), ?_⟩
  refine u w.heap.size _ (AU _) (H _ _ _ X (N8 _ (by omega) J)) ((World.putObj_heap_other (by omega)).trans hk) _ ⟨?_,F.size,F.has⟩
  show _++_=_
  rw [F.dfr];rfl
end
section
variable {P : Program} {n : Nat} {E : BT} {w : World} {ro : Option Nat} {D : List Deferred}
end
def Uu (P:Program) (fn:Func) (R:Value→World→Prop):BF:=fun e a w=>match e with
 | .panic _=>False
 |e=>bodyPostM Fence.wide 9 P fn (fun e w' =>∃v,e= .returned v∧R v w') e a w
section
variable {P : Program} {n : Nat} {E : BT} {w : World} {fn : Func} {R : Value → World → Prop}
theorem F0 {f : FuncId} {c : Code} {args : List Value} (k : P.funcs[f]? = some fn) (b : (fn.name == "runtime.NumGoroutine") = false) (p : fn.body = some c)
  (s:fn.ntmps=n) (r:Nat.ble args.length n=true) (h:Cg none [] P (Uu P fn R) n c (params 0 args) w):AN P f args w R:=by
 refine ⟨⟨fn,k,b,by simp [p]⟩,callsIn_wide.1 (callsIn_of_wp_marks (n:=9) (F:=Fence.wide) k p trivial (wpIn_mono (h _ ⟨rfl, ?_,fun i v q=> ?_⟩) fun e a w o=> ?_) O)⟩
 ·have:args.length≤n:=Nat.le_of_ble_eq_true r
  simp [s];omega
 ·have j:=(DF args 0 i v q).2
  simp only [Nat.sub_zero] at j
  have d:i<args.length:=by
   rcases Nat.lt_or_ge i args.length with h|h
   ·exact h
   ·simp [getElem?_eq_none h] at j
  rw [Array.getElem?_append]
  simp only [size_toArray,d,if_true,getElem?_toArray]
  exact j
 ·cases e<;>first|exact o|exact o.elim
theorem Pg.close {d:Nat} (c:w.heap[d]? =some (.deferred (some []))) (h:∀w',Nc d w w' →w'.heap.size=w.heap.size→Pw n E (PW P fn R .ret) w'):Pg [{target:= .collected d,args:= #[]}] n E (Uu P fn R .ret) w:=fun a f=>by
 have k:Nc d w (w.putObj d (.deferred none)):=⟨some d,grownBy_putObj' w d _,fun b e=>by cases e;exact ⟨AU _,_,c,rfl⟩⟩
 obtain ⟨_,v,j,i⟩:=h _ k (by simp) _ f.fits
 show LeavesInM _ _ _ _ _ _ a.defers _ _
 rw [f.dfr]
 exact ⟨by simp, .inl ⟨d,_,rfl,run_takeDeferred c,v,j,i⟩⟩
theorem Pg.closeE (h:Pw n E (PW P fn R .normal) w):Pg [] n E (Uu P fn R .normal) w:=fun a b=>by
 obtain ⟨_,v,d,c⟩:=h _ b.fits
 show LeavesInM _ _ _ _ _ _ a.defers _ _
 rw [b.dfr]
 exact ⟨v,d,c⟩
end
end Go.Dd

namespace Go.Dd
open Go Go.RowKit List
section
variable {P : Program} {Q : BF} {n : Nat} {E : BT} {w : World} {l : List Oper}
theorem Aw.invG {St:Type} (val:St→Nat→Value) (I:St→(Nat→Bool)→World→Prop) (t:St) (C:N2 l n=true) (y:I t (fun _=>false) w)
  (b:AT (fun i o=>∀s L w,I s L w→L i=false→(∀e ∈ BJ o,L e=true)→(∀j q,CI l j=some q→L j=true→∀e ∈ BJ q,L e=true)→(∀j g,o.guard=some (j,g)→val s j= .bool g)∧
   Ow P n (I5 l (val s) (BJ o)++IP l E) o w (fun v w' =>∃m,I m (Mg L i) w' ∧(∀j,L j=true→val m j=val s j)∧(o.dst.isSome=true→v=val m i))) 0 l)
  (p:∀s L w,I s L w→(∀i,i<l.length→L i=true)→Pw n (I5 l (val s) (List.range l.length)++IP l E) (Q .normal) w):Aw P l Q n l.length (Array.replicate l.length false) E w:=fun a f=>by
 obtain ⟨z,x,A⟩:=Lc C
 have k:∀i,(Array.replicate l.length false).getD i false=false:=fun i=>getD_replicate_false _ _
 have f:BK n (IP l E) a:=⟨f.dfr,f.size,fun i v h=>f.has i v (by
  rw [I0] at h
  split at h
  ·cases h
  ·exact h)⟩
 refine ME (val:=val) (I:=I) z x A (fun i o d r u=> ?_) (fun i o r=>by have:=K1 _ _ _ b r;rwa [Nat.zero_add] at this) p _ t _ a _ ⟨by simp,f,fun j o d _ c=> ?_,fun j o _ c=> ?_, ?_⟩ ?_
 ·have B:d ∈ CD l:=List.mem_filterMap.2 ⟨o,HA r,u⟩
  rw [I0,if_pos (by simpa using B)]
 ·have:=k j;rw [this] at c;cases c
 ·have:=k j;rw [this] at c;cases c
 ·have:(fun i=>(Array.replicate l.length false).getD i false)=fun _=>false:=funext fun i=>by simpa using k i
  rw [this];exact y
 ·have:((List.range l.length).filter fun i=> !(Array.replicate l.length false).getD i false)=List.range l.length:=List.filter_eq_self.2 fun i _=>by
   have:=k i;rw [this];rfl
  rw [this];simp
inductive Kd where
 |val
 |alloc (T:TypeId) (zs:List Value)
 |st (j k:Nat)
 |stc (j:Nat) (cs:List Value)
def Kd.cells (s:Nat→Value):Kd→List Value
 | .st _ k=>(s k).cells.toList
 | .stc _ cs=>cs
 |_=>[]
end
end Go.Dd

namespace Go.Dd
open Go Go.RowKit
open List hiding all get
abbrev Ju:=Nat×List Nat×(Value→World→Prop)
def CJ (l0:List Oper) (i:Nat):Nat:=((CI l0 i).bind (·.dst)).getD 0
def Hs:List Ju→Nat→Value→World→Prop
 |[],_=>fun _ _=>True
 |(j,_,p)::r,i=>match Nat.beq j i with
  |true=>p
  |false=>Hs r i
def Jl (l0:List Oper):List Nat→(Nat→Value)→BT
 |[],_=>[]
 |j::r,vs=>(CJ l0 j,vs j)::Jl l0 r vs
def OO (w:World) (d:Nat) (p:Value→World→Prop) (a' :Act) (w' :World):Prop:=Below w.heap.size w w' ∧a'.defers=[]∧∃v,a'.tmps[d]? =some v∧p v w'
def J8 (P:Program) (l0:List Oper) (Q:BF) (n:Nat) (E:BT) (w:World) (all:List Ju):List Ju→Prop
 |[]=>True
 |(i,ds,p)::r=>((∀v w1 w2,p v w1→Below w1.heap.size w1 w2→p v w2)∧
   ∀w',Below w.heap.size w w' →∀vs:Nat→Value,(∀j ∈ ds,Hs all j (vs j) w')→∀o,CI l0 i=some o→Lw P l0 (BS (OO w' (CJ l0 i) p) Q) n [o] (Jl l0 ds vs++E) w')∧J8 P l0 Q n E w all r
def SZ (l0:List Oper) (keys:List Nat) (L0:Array Bool) (items:List Ju):Bool:=
 decide (L0.size=l0.length) && (List.range l0.length).all (fun i=>L0.getD i true== !(items.map (·.1)).contains i) && decide (items.map (·.1)).Nodup &&
 items.all fun it=>match CI l0 it.1 with
  |some o=>o.guard.isNone && o.dst.isSome && !keys.contains (CJ l0 it.1) && (items.all fun jt=>Nat.beq jt.1 it.1|| !Nat.beq (CJ l0 jt.1) (CJ l0 it.1)) &&
    (o.after.all fun e=> !Region.binds .any e||decide (e.on<it.1)) && (it.2.1.all fun j=>(items.map (·.1)).contains j && o.after.any fun e=>Region.binds .any e && Nat.beq e.on j) &&
    (match o.op with| .defer _=>false|_=>true)
  |none=>false
section
variable {P : Program} {Q : BF} {n : Nat} {E : BT} {w : World} {l0 : List Oper}
theorem M8:∀{a:List Ju} {b:Ju},(a.map (·.1)).Nodup→b ∈ a→Hs a b.1=b.2.2
 |(j,ds,p)::r,b,hn,c=>by
  simp only [map_cons,nodup_cons] at hn
  rcases List.mem_cons.1 c with rfl|c
  ·unfold Hs;rw [Nat.beq_refl]
  ·have d:Nat.beq j b.1=false:=by
    cases h:Nat.beq j b.1 with
    |false=>rfl
    |true=>exact absurd (List.mem_map.2 ⟨b,c,(Nat.eq_of_beq_eq_true h).symm⟩) hn.1
   unfold Hs
   rw [d]
   exact M8 hn.2 c
theorem Hv {c:List Ju}:∀{a:List Ju} {b:Ju},J8 P l0 Q n E w c a→b ∈ a→(∀v e f,b.2.2 v e→Below e.heap.size e f→b.2.2 v f)∧
   ∀w',Below w.heap.size w w' →∀vs:Nat→Value,(∀j ∈ b.2.1,Hs c j (vs j) w')→∀o,CI l0 b.1=some o→Lw P l0 (BS (OO w' (CJ l0 b.1) b.2.2) Q) n [o] (Jl l0 b.2.1 vs++E) w'
 |(j,ds,p)::r,b,h,d=>by
  rcases List.mem_cons.1 d with rfl|d
  ·exact h.1
  ·exact Hv h.2 d
theorem TH {o:Oper} {a:Act} {w:World} {K:Act→World→Prop} (h:o.wp P a w K Q):o.wp P a w (fun g w' =>K g w' ∧∃v,g.tmps=(a.put o.dst v).tmps) Q:=by
 unfold Oper.wp at*
 cases hr:(execOp a.eval o).run P w with
 |ok nx w' =>
  rw [hr] at h
  cases nx with
  |value v=>exact ⟨h,v,rfl⟩
  |skip=>exact ⟨h,_,rfl⟩
  |«defer» d=>exact ⟨h,undef,by cases o.dst<;>rfl⟩
  |enter f args=>exact Calls.mono h fun e c b=>by cases e<;>first|exact ⟨b,_,rfl⟩|exact b
  |row row args=>exact Rows.mono h fun v c b=>⟨b,_,rfl⟩
  |_=>exact h
 |halt x w' =>rw [hr] at h;cases x<;>exact h
theorem KU {α:Type} {f:α→Nat}:∀{l:List α} (_:(l.map f).Nodup) {x y:α},x ∈ l→y ∈ l→f x=f y→x=y
 |z::l,hn,x,y,hx,hy,he=>by
  simp only [map_cons,nodup_cons] at hn
  by_cases h1:x=z
  ·by_cases h2:y=z
   ·rw [h1,h2]
   ·have a:y ∈ l:=by simpa [h2] using hy
    exact absurd (List.mem_map.2 ⟨y,a,by rw [← he,h1]⟩) hn.1
  ·have b:x ∈ l:=by simpa [h1] using hx
   by_cases h2:y=z
   ·exact absurd (List.mem_map.2 ⟨x,b,by rw [he,h2]⟩) hn.1
   ·have a:y ∈ l:=by simpa [h2] using hy
    exact KU hn.2 b a he
theorem IX {L:Array Bool} {i:Nat}:∀{S:List Nat},i ∈ S→S.Nodup→(∀j ∈ S,j<L.size)→L.getD i true=false→(S.filter fun j=> !(L.setIfInBounds i true).getD j true).length+1=(S.filter fun j=> !L.getD j true).length
 |x::S,hi,hnd,hlt,hun=>by
  rw [nodup_cons] at hnd
  have f:=hlt x (by simp)
  by_cases hxi:x=i
  ·subst hxi
   have c:∀j ∈ S,(!(L.setIfInBounds x true).getD j true)= !L.getD j true:=fun j a=>by
    rw [getD_set_ne true (by rintro rfl;exact hnd.1 a)]
   have d:(!(L.setIfInBounds x true).getD x true)=false:=by rw [GO _ _ _ _ f];simp
   rw [filter_cons,filter_cons,d,filter_congr c]
   have e:(!L.getD x true)=true:=by rw [hun];rfl
   rw [e]
   simp
  ·have b:i ∈ S:=by
    rcases List.mem_cons.1 hi with h|h
    ·exact absurd h.symm hxi
    ·exact h
   have c:=IX b hnd.2 (fun j a=>hlt j (by simp [a])) hun
   rw [filter_cons,filter_cons,getD_set_ne true (Ne.symm hxi)]
   cases hl:L.getD x true with
   |true=>simp only [Bool.not_true,Bool.false_eq_true,if_false];exact c
   |false=>simp only [Bool.not_false,if_true,length_cons];omega
structure Uy (l0:List Oper) (n:Nat) (E:BT) (w:World) (items:List Ju) (L:Array Bool) (a:Act) (w' :World):Prop where
 size:L.size=l0.length
 below:Below w.heap.size w w'
 fits:BK n E a
 only:∀i,i<l0.length→L.getD i true=false→i ∈ items.map (·.1)
 done:∀it ∈ items,L.getD it.1 false=true→∃v,a.tmps[CJ l0 it.1]? =some v∧it.2.2 v w'
theorem Pw.grow {a:World} {d:Nat} {p:Value→World→Prop} (v:Value) (e:get E d=some v) (f:Below a.heap.size a w) (c:p v w):Pw n E (BS (OO a d p) Q .normal) w:=fun _ b=>⟨f,b.dfr,v,b.has _ _ e,c⟩
theorem Ks:∀{ds:List Nat} {vs:Nat→Value} {a:Act},BK n E a→(∀j ∈ ds,a.tmps[CJ l0 j]? =some (vs j))→BK n (Jl l0 ds vs++E) a
 |[],_,_,h,_=>h
 |j::r,vs,a,h,hv=>by
  have c:=Ks (ds:=r) h fun k d=>hv k (mem_cons_of_mem _ d)
  refine ⟨c.dfr,c.size,fun i u b=> ?_⟩
  show a.tmps[i]? =some u
  rw [show Jl l0 (j::r) vs++E=(CJ l0 j,vs j)::(Jl l0 r vs++E) from rfl] at b
  by_cases hi:CJ l0 j=i
  ·subst hi;rw [BH] at b;cases b;exact hv j (List.mem_cons_self ..)
  ·rw [BU _ _ hi] at b;exact c.has _ _ b
theorem PG {b:List Ju} {keys:List Nat} (hk:∀i u,get E i=some u→i ∈ keys) (H:J8 P l0 Q n E w b b)
  (M:∀(vs:Nat→Value) w',Below w.heap.size w w' →(∀c ∈ b,c.2.2 (vs c.1) w')→Pw n (Jl l0 (b.map (·.1)) vs++E) (Q .normal) w')
  (T:(b.map (·.1)).Nodup)
  (hB:∀c ∈ b,∃o,CI l0 c.1=some o∧o.guard=none∧o.dst=some (CJ l0 c.1)∧CJ l0 c.1 ∉ keys∧(∀s ∈ b,s.1≠c.1→CJ l0 s.1≠CJ l0 c.1)∧
   (∀e ∈ o.after,Region.binds .any e=true→e.on<c.1)∧(∀j ∈ c.2.1,j ∈ b.map (·.1)∧∃e ∈ o.after,Region.binds .any e=true∧e.on=j)):
  ∀(f:Nat) (L:Array Bool) (a:Act) (w' :World),Uy l0 n E w b L a w' →((b.map (·.1)).filter fun i=> !L.getD i true).length=f→wpAny P .any l0.toArray Q f L a w' :=by
 intro f
 induction f with
 |zero=>
  intro L a w' g hf
  have hall:∀c ∈ b,L.getD c.1 false=true:=fun c d=>by
   have y:=eq_nil_of_length_eq_zero hf
   rw [filter_eq_nil_iff] at y
   have D:=y c.1 (List.mem_map.2 ⟨c,d,rfl⟩)
   obtain ⟨o,t, -⟩:=hB c d
   have q:c.1<L.size:=by rw [g.size];rw [← BR] at t;exact (List.getElem?_eq_some_iff.1 t).1
   have:=CO (L:=L) q
   rw [← this]
   simpa using D
  refine ⟨?_, ?_⟩
  ·refine List.eq_nil_iff_forall_not_mem.2 fun i hi=> ?_
   obtain ⟨y,o,t,_⟩:=mem_ready.1 hi
   have q:i<l0.length:=by simpa using (Array.getElem?_eq_some_iff.1 t).1
   obtain ⟨c,d,rfl⟩:=List.mem_map.1 (g.only i q y)
   have D:=hall c d
   rw [← CO (by rw [g.size];exact q),y] at D
   cases D
  ·have hv:∀c ∈ b,∃v,a.tmps[CJ l0 c.1]? =some v∧c.2.2 v w' :=fun c d=>g.done c d (hall c d)
   have p:∃vs:Nat→Value,∀c ∈ b,a.tmps[CJ l0 c.1]? =some (vs c.1)∧c.2.2 (vs c.1) w' :=by
    refine ⟨fun i=>(a.tmps[CJ l0 i]?).getD undef,fun c d=> ?_⟩
    obtain ⟨v,y,D⟩:=hv c d
    simp only [y,Option.getD_some]
    exact ⟨trivial,D⟩
   obtain ⟨vs,p⟩:=p
   exact M vs w' g.below (fun c d=>(p c d).2) a (Ks g.fits fun j m=>by
    obtain ⟨c,d,rfl⟩:=List.mem_map.1 m
    exact (p c d).1)
 |succ f ih=>
  intro L a w' g hf
  have q:∀c ∈ b,c.1<L.size:=fun c d=>by
   obtain ⟨o,t, -⟩:=hB c d
   rw [g.size];rw [← BR] at t;exact (List.getElem?_eq_some_iff.1 t).1
  refine ⟨fun hr=> ?_,fun i hi=> ?_⟩
  ·exfalso
   have key:∀k c,c ∈ b→c.1=k→L.getD c.1 true=false→∃j,j ∈ Region.ready .any l0.toArray L:=by
    intro k
    induction k using Nat.strongRecOn with
    |_ k ihk=>
     intro c d Y z
     obtain ⟨o,t, -, -, -, -,R, -⟩:=hB c d
     by_cases hall:∀e ∈ o.after,Region.binds .any e=true→L.getD e.on false=true
     ·exact ⟨c.1,mem_ready.2 ⟨z,o,by rw [getElem?_toArray,BR];exact t,hall⟩⟩
     ·obtain ⟨e,he⟩:=Classical.not_forall.1 hall
      obtain ⟨U,he⟩:=Classical.not_imp.1 he
      obtain ⟨N,he3⟩:=Classical.not_imp.1 he
      have hlt1:=R e U N
      have hlt2:=q c d
      have hes:e.on<L.size:=by omega
      have J:L.getD e.on true=false:=by
       rw [CO hes]
       simpa using he3
      obtain ⟨s,m,S⟩:=List.mem_map.1 (g.only e.on (by rw [← g.size];exact hes) J)
      exact ihk s.1 (by omega) s m rfl (by rw [S];exact J)
   have hex:∃c ∈ b,L.getD c.1 true=false:=by
    have hne:((b.map (·.1)).filter fun i=> !L.getD i true)≠[]:=fun h0=>by rw [h0] at hf;cases hf
    obtain ⟨j,m⟩:=exists_mem_of_ne_nil _ hne
    rw [mem_filter] at m
    obtain ⟨c,d,rfl⟩:=List.mem_map.1 m.1
    exact ⟨c,d,by simpa using m.2⟩
   obtain ⟨c,d,z⟩:=hex
   obtain ⟨j,m⟩:=key _ c d rfl z
   rw [hr] at m
   cases m
  ·obtain ⟨z,o,t,G⟩:=mem_ready.1 hi
   have hil:i<l0.length:=by simpa using (Array.getElem?_eq_some_iff.1 t).1
   obtain ⟨c,d,rfl⟩:=List.mem_map.1 (g.only i hil z)
   obtain ⟨o',ho',hgd,I,Z,F, -,V⟩:=hB c d
   have hoo:o' =o:=by
    rw [getElem?_toArray,BR,ho'] at t
    exact Option.some.inj t
   subst hoo
   obtain ⟨hstab,hop⟩:=Hv H d
   have p:∃vs:Nat→Value,∀j ∈ c.2.1,a.tmps[CJ l0 j]? =some (vs j)∧Hs b j (vs j) w' :=by
    refine ⟨fun j=>(a.tmps[CJ l0 j]?).getD undef,fun j m=> ?_⟩
    obtain ⟨hjm,e,U,N,rfl⟩:=V j m
    obtain ⟨s,l,S⟩:=List.mem_map.1 hjm
    have hl:=G e U N
    rw [← S] at hl ⊢
    obtain ⟨v,y,D⟩:=g.done s l hl
    rw [M8 T l]
    simp only [y,Option.getD_some]
    exact ⟨trivial,D⟩
   obtain ⟨vs,p⟩:=p
   have y:=hop w' g.below vs (fun j m=>(p j m).2) o' ho' a (Ks g.fits fun j m=>(p j m).1)
   have hw:Region.wanted o' (yielded l0.toArray a.tmps)=true:=by simp [Region.wanted,hgd]
   unfold wpList at y
   rw [if_pos hw] at y
   unfold wpOp
   simp only [t]
   rw [if_pos hw]
   refine y.imp (fun h=> ?_) (fun h=>h)
   have D:o'.wp P a w' (fun a1 X=>OO w' (CJ l0 c.1) c.2.2 a1 X) Q:=by
    unfold Oper.wp at*
    generalize (execOp a.eval o').run P w' =r at*
    cases r with
    |ok nx X=>cases nx<;>exact h
    |halt x X=>cases x<;>exact h
   refine Oper.wp_mono ?_ (TH D)
   rintro a1 X ⟨⟨hb1,hd1,v,hv1,hp1⟩,v',K⟩
   have B:∀k,k≠CJ l0 c.1→a1.tmps[k]? =a.tmps[k]? :=fun k Y=>by
    rw [K,I]
    simp only [Act.put]
    rw [Array.getElem?_setIfInBounds_ne (Ne.symm Y)]
   refine ih _ _ _ ⟨by simpa using g.size,g.below.trans (hb1.mono g.below.size),⟨hd1, ?_,fun k u hu=> ?_⟩,fun j m W=>g.only j m ?_,fun s l A=> ?_⟩ ?_
   ·rw [K,I];simpa [Act.put] using g.fits.size
   ·rw [B k fun e=>Z (e ▸ hk k u hu)];exact g.fits.has k u hu
   ·rw [GO _ _ _ _ (by rw [g.size];exact m)] at W
    simp only [Bool.or_eq_false_iff] at W
    exact W.1
   ·by_cases hji:s.1=c.1
    ·have:s=c:=KU T l d hji
     subst this
     exact ⟨v,hv1,hp1⟩
    ·rw [GO _ _ _ _ (q s l)] at A
     have A:L.getD s.1 false=true:=by
      simp only [Bool.or_eq_true,beq_iff_eq] at A
      rcases A with h|h
      ·exact h
      ·exact absurd h.symm hji
     obtain ⟨u,h3,h4⟩:=g.done s l A
     exact ⟨u,by rw [B _ (F s l hji)];exact h3,(Hv H l).1 u w' X h4 hb1⟩
   ·have:=IX (List.mem_map.2 ⟨c,d,rfl⟩) T (fun j m=>by obtain ⟨s,l,rfl⟩:=List.mem_map.1 m;exact q s l) z
    omega
theorem MK:∀{E:BT} {i:Nat} {u:Value},get E i=some u→i ∈ E.map (·.1)
 |(j,v)::E,i,u,h=>by
  by_cases hj:j=i
  ·subst hj;simp
  ·rw [BU _ _ hj] at h
   exact mem_cons_of_mem _ (MK h)
theorem Aw.grow {f:Nat} {y:Array Bool} (b:List Ju) (K:SZ l0 (E.map (·.1)) y b=true) (R:b.length=f) (r:J8 P l0 Q n E w b b)
  (m:∀(vs:Nat→Value) w',Below w.heap.size w w' →(∀c ∈ b,c.2.2 (vs c.1) w')→Pw n (Jl l0 (b.map (·.1)) vs++E) (Q .normal) w'):Aw P l0 Q n f y E w:=fun a V=>by
 simp only [SZ,Bool.and_eq_true,decide_eq_true_eq,all_eq_true,mem_range] at K
 obtain ⟨⟨⟨t,D⟩,G⟩,B⟩:=K
 have p:∀c ∈ b,∃o,CI l0 c.1=some o∧o.guard=none∧o.dst=some (CJ l0 c.1)∧CJ l0 c.1 ∉ E.map (·.1)∧(∀x ∈ b,x.1≠c.1→CJ l0 x.1≠CJ l0 c.1)∧
   (∀e ∈ o.after,Region.binds .any e=true→e.on<c.1)∧(∀j ∈ c.2.1,j ∈ b.map (·.1)∧∃e ∈ o.after,Region.binds .any e=true∧e.on=j):=fun c q=>by
  have h:=B c q
  cases k:CI l0 c.1 with
  |none=>simp [k] at h
  |some o=>
   simp only [k,Bool.and_eq_true,all_eq_true,Bool.or_eq_true,Bool.not_eq_true'] at h
   obtain ⟨⟨⟨⟨⟨⟨l,A⟩,T⟩,L⟩,N⟩,U⟩, -⟩:=h
   refine ⟨o,rfl,by simpa using l, ?_,by simpa using T,fun x I z v=> ?_,fun e v s=> ?_,fun j I=> ?_⟩
   ·obtain ⟨d,J⟩:=Option.isSome_iff_exists.1 A
    rw [J];simp [CJ,k,J]
   ·rcases L x I with h|h
    ·exact z (Nat.eq_of_beq_eq_true h)
    ·rw [v,Nat.beq_refl] at h;cases h
   ·have:=Array.all_eq_true_iff_forall_mem.1 N e v
    simp only [s,Bool.not_true,Bool.false_or,decide_eq_true_eq] at this
    exact this
   ·have:=U j I
    obtain ⟨M,S⟩:=this
    refine ⟨by simpa using M, ?_⟩
    obtain ⟨e,v,s⟩:=Array.any_eq_true'.1 S
    simp only [Bool.and_eq_true] at s
    exact ⟨e,v,s.1,Nat.eq_of_beq_eq_true s.2⟩
 refine PG (keys:=E.map (·.1)) (fun i u h=>MK h) r m G p f y a w ⟨t,Below.refl _ _,V,fun i H F=> ?_,fun c q F=> ?_⟩ ?_
 ·have:=D i H
  rw [F] at this
  simpa using this
 ·obtain ⟨o,k, -⟩:=p c q
  have g:c.1<l0.length:=by rw [← BR] at k;exact (List.getElem?_eq_some_iff.1 k).1
  have l:=D c.1 g
  rw [CO (by rw [t];exact g),F] at l
  have:(b.map (·.1)).contains c.1=true:=by simpa using ⟨c.2.1,c.2.2,q⟩
  rw [this] at l
  cases l
 ·rw [← R,List.filter_eq_self.2,length_map]
  intro i H
  obtain ⟨c,q,rfl⟩:=List.mem_map.1 H
  obtain ⟨o,k, -⟩:=p c q
  have g:c.1<l0.length:=by rw [← BR] at k;exact (List.getElem?_eq_some_iff.1 k).1
  have l:=D c.1 g
  have:(b.map (·.1)).contains c.1=true:=by simpa using ⟨c.2.1,c.2.2,q⟩
  rw [this] at l
  have A:y.getD c.1 true=false:=by simpa using l
  rw [A];rfl
variable {C : World → Prop}
end
end Go.Dd

namespace Go.Dd
open Go Go.RowKit List
def Nx (rows Hs step:Int):Int:=if rows<Hs then 0 else (rows - Hs) / step+1
def Nj (t w:List Int) (step pad:Int):List Int:=[w.getD 0 default,Nx (t.getD 1 default+2*pad) (w.getD 2 default) step,Nx (t.getD 2 default+2*pad) (w.getD 3 default) step]
def HQ (t w:List Int) (step pad:Int):Bool:= !Shapes.ok t|| !Shapes.ok w||decide (step<1)||decide (8<step)||decide (pad<0)||decide (8<pad)
def Lt (t w:List Int):Bool:=decide (t.length=3) && decide (w.length=4) && decide (t.getD 0 default=w.getD 1 default)
def EC (t w:List Int) (step pad:Int):Int:=if HQ t w step pad then 1 else if Lt t w && Shapes.ok (Nj t w step pad) then 0 else 10
def Q8 (t:List Int) (wide:Int):List Int:=[t.getD 0 default,Nx (t.getD 1 default) wide wide,Nx (t.getD 2 default) wide wide]
def L4 (t:List Int) (wide:Int):Bool:= !Shapes.ok t||decide (wide<1)||decide (64<wide)
def Pe (t:List Int) (wide:Int):Bool:=decide (t.length=3) && decide (wide≤t.getD 1 default) && decide (wide≤t.getD 2 default)
def EN (t:List Int) (wide:Int):Int:=if L4 t wide then 1 else if Pe t wide then 0 else 10
theorem FO {s:List Int} (h:Shapes.good s) {k:Nat} (a:k<s.length):1≤s.getD k default∧s.getD k default≤64:=by
 have:s.getD k default ∈ s:=by simp [a]
 exact h _ this
end Go.Dd

namespace Go.Proofs.YtblbopcaflaldaaGreatDoor
open Go Go.Dd Go.RowKit List Go.Proofs.Tryz
set_option maxRecDepth 100000
theorem Ii (a Hs b:Int) (w:World) (e:0≤a∧a≤1000000) (c:0≤Hs∧Hs≤1000000) (h:1≤b∧b≤1000000):
  AN prog 276 [.int .i64 a, .int .i64 Hs, .int .i64 b] w (fun r w' =>r= .int .i64 (Nx a Hs b)∧Below w.heap.size w w'):=by
 refine A4 (n:=16) func276 O<|Ai<|Ab O<|A8<|Ad O<|Ad O<|B8 O<|Ak<|Am O ?_ ?_
 ·intro g
  have g:=AE g
  exact Ai<|Ab rfl<|Bw<|Al rfl rfl<|⟨by rw [Nx,if_pos g],Below.refl _ _⟩
 intro g
 have g:=AD g
 have d:=Int.ediv_le_self b (show 0≤a - Hs by omega)
 have f:=Int.ediv_nonneg (show 0≤a - Hs by omega) (show 0≤b by omega)
 refine Ci<|Ad O<|Ad O<|Aa (Ek O O (by omega)) O<|Ad O<|Aa (Ex.quoI O O (by omega) (by omega)) O<|Ca O (by omega)<|Ab O<|As<|Al O O ?_
 exact ⟨by rw [Nx,if_neg g],Below.refl _ _⟩
def Uz (W w:World) (r:Value) (e:Int) (l:List Int):Prop:=
 ∃(x:Value) (m:List Int),r= .tuple #[x, .int .i64 e]∧w.ownsRow W.heap.size 3 1 x m.length (m.map (Value.int .i64))∧(e≠0→x= .slice none 0 0∧m=[])∧(e=0→m=l)
theorem CL {W w:World} {e:Int} {l:List Int} (h:e≠0):Uz W w (.tuple #[.slice none 0 0, .int .i64 e]) e l:=⟨_,[],rfl,World.ownsRow_nil _ _ _ _,fun _=>⟨rfl,rfl⟩,fun a=>absurd a h⟩
theorem To {t s:List Int} (h:¬t.length=3):Lt t s=false:=by simp only [Lt,decide_eq_false h,Bool.false_and]
theorem Tn {t s:List Int} (h:¬s.length=4):Lt t s=false:=by simp only [Lt,decide_eq_false h,Bool.false_and,Bool.and_false]
theorem Tm {t s:List Int} (h:¬t.getD 0 default=s.getD 1 default):Lt t s=false:=by simp only [Lt,decide_eq_false h,Bool.and_false]
theorem Qa (t s:List Int) (a c:Int) (u v:Value) (W:World) (f:BE (Value.int .i64) W u t) (e:BE (Value.int .i64) W v s):
  AN prog 251 [u,v, .int .i64 a, .int .i64 c] W (fun r w' =>Below W.heap.size W w' ∧Uz W w' r (EC t s a c) (Nj t s a c)):=by
 have i:=Below.refl W.heap.size W
 refine A4 (n:=84) func251 O<|Ai<|Ab O<|Ab O<|Ak<|Ap<|Ar<|Ai<|Ad O<|Ah O O (EB u t _ f) ?_
 rintro _ w ⟨rfl,j⟩
 have i:=i.bs j
 have f:=f.bs j
 have e:=e.bs j
 refine Aa (Cz O) O<|Ad O ?_
 refine Cc 15 O ?_ ?_
 ·intro q
  refine Ae (dj:=15) O O O O<|Ae (dj:=15) O O O O<|Ae (dj:=15) O O O O<|Bt O<|Ad O<|Ae (dj:=20) O O O O<|Ae (dj:=20) O O O O<|Bt O<|Ad O<|Ae (dj:=24) O O O O<|Ae (dj:=24) O O O O<|Bt O<|Ad O<|Ae (dj:=28) O O O O<|Ae (dj:=28) O O O O<|Bt O<|Ad O<|Ae (dj:=32) O O O O<|Ae (dj:=32) O O O O<|Bt O<|Ab O<|Ak<|B6 O<|Ai<|Ab O<|Ab O<|As<|Bd<|A0<|B2 O O O ?_
  rw [show EC t s a c=1 by simp [EC,show HQ t s a c=true by simp_all [HQ]]]
  exact ⟨i,CL (by decide)⟩
 intro q
 refine Aj (dj:=15) O O<|Ad O<|Aj (dj:=15) O O<|Ah O O (EB v s _ e) ?_
 rintro _ w ⟨rfl,j⟩
 have i:=i.bs j
 have f:=f.bs j
 have e:=e.bs j
 refine Aj (dj:=15) O O<|Aa (Cz O) O<|Co O<|Ad O ?_
 refine Cc 20 O ?_ ?_
 ·intro o
  refine Ae (dj:=20) O O O O<|Ae (dj:=20) O O O O<|Bt O<|Ad O<|Ae (dj:=24) O O O O<|Ae (dj:=24) O O O O<|Bt O<|Ad O<|Ae (dj:=28) O O O O<|Ae (dj:=28) O O O O<|Bt O<|Ad O<|Ae (dj:=32) O O O O<|Ae (dj:=32) O O O O<|Bt O<|Ab O<|Ak<|B6 O<|Ai<|Ab O<|Ab O<|As<|Bd<|A0<|B2 O O O ?_
  rw [show EC t s a c=1 by simp [EC,show HQ t s a c=true by simp_all [HQ]]]
  exact ⟨i,CL (by decide)⟩
 intro o
 refine Aj (dj:=20) O O<|Ad O<|Aj (dj:=20) O O<|B8 O<|Co O<|Ad O ?_
 refine Cc 24 O ?_ ?_
 ·intro B
  refine Ae (dj:=24) O O O O<|Ae (dj:=24) O O O O<|Bt O<|Ad O<|Ae (dj:=28) O O O O<|Ae (dj:=28) O O O O<|Bt O<|Ad O<|Ae (dj:=32) O O O O<|Ae (dj:=32) O O O O<|Bt O<|Ab O<|Ak<|B6 O<|Ai<|Ab O<|Ab O<|As<|Bd<|A0<|B2 O O O ?_
  rw [show EC t s a c=1 by simp [EC,show HQ t s a c=true by simp_all [HQ]]]
  exact ⟨i,CL (by decide)⟩
 intro B
 refine Aj (dj:=24) O O<|Ad O<|Aj (dj:=24) O O<|Aa (C7 O O) O<|Co O<|Ad O ?_
 refine Cc 28 O ?_ ?_
 ·intro p
  refine Ae (dj:=28) O O O O<|Ae (dj:=28) O O O O<|Bt O<|Ad O<|Ae (dj:=32) O O O O<|Ae (dj:=32) O O O O<|Bt O<|Ab O<|Ak<|B6 O<|Ai<|Ab O<|Ab O<|As<|Bd<|A0<|B2 O O O ?_
  rw [show EC t s a c=1 by simp [EC,show HQ t s a c=true by simp_all [HQ]]]
  exact ⟨i,CL (by decide)⟩
 intro p
 refine Aj (dj:=28) O O<|Ad O<|Aj (dj:=28) O O<|B8 O<|Co O<|Ad O ?_
 refine Cc 32 O ?_ ?_
 ·intro z
  refine Ae (dj:=32) O O O O<|Ae (dj:=32) O O O O<|Bt O<|Ab O<|Ak<|B6 O<|Ai<|Ab O<|Ab O<|As<|Bd<|A0<|B2 O O O ?_
  rw [show EC t s a c=1 by simp [EC,show HQ t s a c=true by simp_all [HQ]]]
  exact ⟨i,CL (by decide)⟩
 intro z
 have K:Shapes.ok t=true:=by simpa using q
 have H:Shapes.ok s=true:=by simpa using o
 have I:1≤a:=by simpa using B
 have E:a≤8:=by simpa using p
 have N:0≤c:=by simpa using z
 refine Aj (dj:=32) O O<|Ad O<|Aj (dj:=32) O O<|Aa (C7 O O) O<|Co O<|Ab O<|Ak<|Am O ?_ ?_
 ·intro m
  refine Ai<|Ab O<|Ab O<|As<|Bd<|A0<|B2 O O O ?_
  rw [show EC t s a c=1 by simp [EC,show HQ t s a c=true by simp_all [HQ]]]
  exact ⟨i,CL (by decide)⟩
 intro m
 have L:c≤8:=by simpa using m
 have y:HQ t s a c=false:=by simp_all [HQ]
 clear q o B p z m
 have D:=(Shapes.ok_iff t).1 K
 have A:=(Shapes.ok_iff s).1 H
 refine Ap<|Dz mixed (by kernel_rfl)<|B5 O<|Ax (fun d b=>Aq AH O (Sl.bs ‹_› b)) O ?_
 refine Ax (fun d b=>C0 O O) O<|B5 O ?_
 refine Ez 40 O ?_ ?_
 ·intro g
  refine Bn (dj:=40) O O O O<|Bn (dj:=40) O O O O<|Bn (dj:=40) O O O O<|Ax (fun d b=>Dc O O) O<|B5 O<|Bn (dj:=45) O O O O<|Bn (dj:=45) O O O O<|Bn (dj:=45) O O O O<|Bn (dj:=45) O O O O<|Bn (dj:=45) O O O O<|Bn (dj:=45) O O O O<|Bn (dj:=45) O O O O<|Ax (fun d b=>Dc O O) O<|Ep O ?_
  refine Dk (fun d b=> ?_)
  refine Ay<|B9<|B6 O<|Ai<|Ab O<|Ab O<|As<|Bd<|A0<|B2 O O O ?_
  rw [show EC t s a c=10 by rw [EC,y,To (fun h=>by simp [h] at g)];rfl]
  exact ⟨bt i b,CL (by decide)⟩
 intro F
 have lt:t.length=3:=by have:=F;simp at this;omega
 refine Cb (dj:=40) O O<|B5 O<|Cb (dj:=40) O O<|Ax (fun d b=>Aq AH O (Sl.bs ‹_› b)) O ?_
 refine Cb (dj:=40) O O<|Ax (fun d b=>C0 O O) O<|Ax (fun d b=>Dw O O) O<|B5 O ?_
 refine Ez 45 O ?_ ?_
 ·intro g
  refine Bn (dj:=45) O O O O<|Bn (dj:=45) O O O O<|Bn (dj:=45) O O O O<|Bn (dj:=45) O O O O<|Bn (dj:=45) O O O O<|Bn (dj:=45) O O O O<|Bn (dj:=45) O O O O<|Ax (fun d b=>Dc O O) O<|Ep O ?_
  refine Dk (fun d b=> ?_)
  refine Ay<|B9<|B6 O<|Ai<|Ab O<|Ab O<|As<|Bd<|A0<|B2 O O O ?_
  rw [show EC t s a c=10 by rw [EC,y,Tn (fun h=>by simp [h] at g)];rfl]
  exact ⟨bt i b,CL (by decide)⟩
 intro G
 have ls:s.length=4:=by have:=G;simp at this;omega
 refine Cb (dj:=45) O O<|B5 O<|Cb (dj:=45) O O<|Ax (fun d b=>Bb AH O O (Sl.bs ‹_› b) 0 O (by omega)) O ?_
 refine Cb (dj:=45) O O<|Ax (fun d b=>Bf (BD _) O (Sl.bs ‹_› b) (by omega)) O ?_
 refine Cb (dj:=45) O O<|B5 O<|Cb (dj:=45) O O<|Ax (fun d b=>Bb AH O O (Sl.bs ‹_› b) 1 O (by omega)) O ?_
 refine Cb (dj:=45) O O<|Ax (fun d b=>Bf (BD _) O (Sl.bs ‹_› b) (by omega)) O ?_
 refine Cb (dj:=45) O O<|Ax (fun d b=>C0 O O) O<|Ax (fun d b=>Dw O O) O<|Ep O ?_
 refine Dk (fun d b=> ?_)
 refine Ay<|B9<|Am O ?_ ?_
 ·intro g
  refine Ai<|Ab O<|Ab O<|As<|Bd<|A0<|B2 O O O ?_
  rw [show EC t s a c=10 by rw [EC,y,Tm (fun h=>by rw [decide_eq_true h] at g;cases g)];rfl]
  exact ⟨bt i b,CL (by decide)⟩
 intro C
 have S:Lt t s=true:=by
  have:t.getD 0 default=s.getD 1 default:=by simpa only [Bool.not_eq_false',decide_eq_true_eq] using C
  rw [Lt,decide_eq_true lt,decide_eq_true ls,decide_eq_true this];rfl
 have i:=i.bs b
 have f:=f.bs b
 have e:=e.bs b
 clear b F G C
 have T:=FO D.2.1 (k:=1) (by omega)
 have M:=FO D.2.1 (k:=2) (by omega)
 have R:=FO A.2.1 (k:=0) (by omega)
 have Q:=FO A.2.1 (k:=2) (by omega)
 have U:=FO A.2.1 (k:=3) (by omega)
 refine Cj<|Ba<|Ay<|B9<|Ap<|Cw.tail 25 mixed (by kernel_rfl)<|B5 O<|Ax (fun d b=>Bb AH O O (Sl.bs ‹_› b) 0 O (by omega)) O ?_
 refine Ax (fun d b=>Bf (BD _) O (Sl.bs ‹_› b) (by omega)) O ?_
 refine B5 O<|Ax (fun d b=>Bb AH O O (Sl.bs ‹_› b) 1 O (by omega)) O ?_
 refine Ax (fun d b=>Bf (BD _) O (Sl.bs ‹_› b) (by omega)) O ?_
 refine B5 O<|Ax (fun d b=>E1 O O (by omega)) O<|Ax (fun d b=>En O O (by omega)) O<|B5 O<|Ax (fun d b=>Bb AH O O (Sl.bs ‹_› b) 2 O (by omega)) O ?_
 refine Ax (fun d b=>Bf (BD _) O (Sl.bs ‹_› b) (by omega)) O ?_
 refine B5 O<|Et O O (fun d b=>(Ii (t.getD 1 default+2*c) (s.getD 2 default) a d (by omega) (by omega) (by omega)).q b)<|B5 O<|Ax (fun d b=>Bb AH O O (Sl.bs ‹_› b) 2 O (by omega)) O ?_
 refine Ax (fun d b=>Bf (BD _) O (Sl.bs ‹_› b) (by omega)) O ?_
 refine B5 O<|Ax (fun d b=>E1 O O (by omega)) O<|Ax (fun d b=>En O O (by omega)) O<|B5 O<|Ax (fun d b=>Bb AH O O (Sl.bs ‹_› b) 3 O (by omega)) O ?_
 refine Ax (fun d b=>Bf (BD _) O (Sl.bs ‹_› b) (by omega)) O ?_
 refine B5 O<|Et O O (fun d b=>(Ii (t.getD 2 default+2*c) (s.getD 3 default) a d (by omega) (by omega) (by omega)).q b) ?_
 refine Qw.done (fun V b=> ?_)
 have i:=i.bs b
 have f:=f.bs b
 have e:=e.bs b
 have J:=AA i
 refine An (B7 (vs:=(Nj t s a c).map (Value.int .i64)) AH DH O O O O O) O ?_
 rintro x w ⟨l, -,j, -⟩
 have l:=CR l J
 have i:=i.bs j
 have f:=f.bs j
 have e:=e.bs j
 refine Ab O<|A8<|Ad O<|Ah O O (EB x (Nj t s a c) _ (AL l)) ?_
 rintro _ w ⟨rfl,j⟩
 have i:=i.bs j
 have f:=f.bs j
 have e:=e.bs j
 have l:=l.bs j
 refine Aa (Cz O) O<|Ak<|Am O ?_ ?_
 ·intro g
  refine Ai<|Ab O<|Ab O<|Bw<|B2 O O O ?_
  rw [show EC t s a c=10 by simp_all [EC]]
  exact ⟨i,CL (by decide)⟩
 intro g
 refine Ci<|Ad O<|Ab O<|Ab O<|As<|B2 O O O ?_
 rw [show EC t s a c=0 by simp_all [EC]]
 exact ⟨i,x,_,rfl,l,fun h=>absurd rfl h,fun _=>rfl⟩
theorem OS (t:List Int) (a:Int) (u:Value) (W:World) (d:BE (Value.int .i64) W u t):
  AN prog 252 [u, .int .i64 a] W (fun r w' =>Below W.heap.size W w' ∧Uz W w' r (EN t a) (Q8 t a)):=by
 have e:=Below.refl W.heap.size W
 refine A4 (n:=47) func252 O<|Ai<|Ab O<|Ab O<|A8<|Ad O<|Ah O O (EB u t _ d) ?_
 rintro _ w ⟨rfl,f⟩
 have e:=e.bs f
 have d:=d.bs f
 refine Aa (Cz O) O<|Ad O ?_
 refine Cc 9 O ?_ ?_
 ·intro p
  refine Ae (dj:=9) O O O O<|Ae (dj:=9) O O O O<|Bt O<|Ad O<|Ae (dj:=13) O O O O<|Ae (dj:=13) O O O O<|Bt O<|Ak<|B6 O<|Ai<|Ab O<|Ab O<|Bw<|B2 O O O ?_
  rw [show EN t a=1 by simp [EN,show L4 t a=true by simp_all [L4]]]
  exact ⟨e,CL (by decide)⟩
 intro p
 refine Aj (dj:=9) O O<|Ad O<|Aj (dj:=9) O O<|B8 O<|Co O<|Ad O ?_
 refine Cc 13 O ?_ ?_
 ·intro j
  refine Ae (dj:=13) O O O O<|Ae (dj:=13) O O O O<|Bt O<|Ak<|B6 O<|Ai<|Ab O<|Ab O<|Bw<|B2 O O O ?_
  rw [show EN t a=1 by simp [EN,show L4 t a=true by simp_all [L4]]]
  exact ⟨e,CL (by decide)⟩
 intro j
 refine Aj (dj:=13) O O<|Ad O<|Aj (dj:=13) O O<|Aa (C7 O O) O<|Co O<|Ak<|Am O ?_ ?_
 ·intro s
  refine Ai<|Ab O<|Ab O<|Bw<|B2 O O O ?_
  rw [show EN t a=1 by simp [EN,show L4 t a=true by simp_all [L4]]]
  exact ⟨e,CL (by decide)⟩
 intro s
 have q:L4 t a=false:=by simp_all [L4]
 have B:Shapes.ok t=true:=by simpa using p
 have c:1≤a:=by simpa using j
 have G:a≤64:=by simpa using s
 have l:=(Shapes.ok_iff t).1 B
 clear p j s
 refine B1<|Ap<|Ap<|Dz mixed (by kernel_rfl)<|B5 O<|Ax (fun c b=>Aq AH O (Sl.bs ‹_› b)) O ?_
 refine Ax (fun c b=>C0 O O) O<|B5 O ?_
 refine Ez 20 O ?_ ?_
 ·intro g
  refine Bn (dj:=20) O O O O<|Bn (dj:=20) O O O O<|Bn (dj:=20) O O O O<|Bn (dj:=20) O O O O<|Bn (dj:=20) O O O O<|Bn (dj:=20) O O O O<|Bn (dj:=20) O O O O<|Bn (dj:=20) O O O O<|Bn (dj:=20) O O O O<|Ax (fun c b=>Dc O O) O ?_
  refine Dk (fun y b=> ?_)
  refine Ay<|B9<|B6 O<|Ai<|Ab O<|Ab O<|Bw<|B2 O O O ?_
  rw [show EN t a=10 by rw [EN,q,Pe,decide_eq_false (show ¬t.length=3 from fun h=>by simp [h] at g)];rfl]
  exact ⟨bt e b,CL (by decide)⟩
 intro v
 have lt:t.length=3:=by have:=v;simp at this;omega
 have E:=FO l.2.1 (k:=0) (by omega)
 have F:=FO l.2.1 (k:=1) (by omega)
 have C:=FO l.2.1 (k:=2) (by omega)
 refine Cb (dj:=20) O O<|B5 O<|Cb (dj:=20) O O<|Ax (fun c b=>Bb AH O O (Sl.bs ‹_› b) 1 O (by omega)) O ?_
 refine Cb (dj:=20) O O<|Ax (fun c b=>Bf (BD _) O (Sl.bs ‹_› b) (by omega)) O ?_
 refine Cb (dj:=20) O O<|B5 O<|Cb (dj:=20) O O<|Ax (fun c b=>Bb AH O O (Sl.bs ‹_› b) 2 O (by omega)) O ?_
 refine Cb (dj:=20) O O<|Ax (fun c b=>Bf (BD _) O (Sl.bs ‹_› b) (by omega)) O ?_
 refine Cb (dj:=20) O O<|Ax (fun c b=>Ex.min2 O O) O<|Cb (dj:=20) O O<|B5 O<|Cb (dj:=20) O O<|Ax (fun c b=>Ex.lss O O) O<|Ax (fun c b=>Dw O O) O ?_
 refine Dk (fun y b=> ?_)
 refine Ay<|B9<|Am O ?_ ?_
 ·intro g
  have g:=AE g
  refine Ai<|Ab O<|Ab O<|Bw<|B2 O O O ?_
  rw [show EN t a=10 by
   have:Pe t a=false:=by
    unfold Pe
    by_cases m:a≤t.getD 1 default
    ·have i:¬a≤t.getD 2 default:=fun i=>by split at g<;>omega
     simp only [decide_eq_false i,Bool.and_false]
    ·simp only [decide_eq_false m,Bool.and_false,Bool.false_and]
   simp [EN,q,this]]
  exact ⟨bt e b,CL (by decide)⟩
 intro g
 have g:=AD g
 have z:Pe t a=true:=by
  have m:a≤t.getD 1 default:=by split at g<;>omega
  have i:a≤t.getD 2 default:=by split at g<;>omega
  rw [Pe,decide_eq_true lt,decide_eq_true m,decide_eq_true i];rfl
 have e:=e.bs b
 have d:=d.bs b
 clear b v g
 refine B1<|Ap<|Cw.tail 15 mixed (by kernel_rfl)<|B5 O<|Ax (fun c b=>Bb AH O O (Sl.bs ‹_› b) 0 O (by omega)) O ?_
 refine Ax (fun c b=>Bf (BD _) O (Sl.bs ‹_› b) (by omega)) O ?_
 refine B5 O<|Ax (fun c b=>Bb AH O O (Sl.bs ‹_› b) 1 O (by omega)) O ?_
 refine Ax (fun c b=>Bf (BD _) O (Sl.bs ‹_› b) (by omega)) O ?_
 refine B5 O<|B5 O<|Et O O (fun c b=>(Ii (t.getD 1 default) a a c (by omega) (by omega) (by omega)).q b)<|B5 O<|Ax (fun c b=>Bb AH O O (Sl.bs ‹_› b) 2 O (by omega)) O ?_
 refine Ax (fun c b=>Bf (BD _) O (Sl.bs ‹_› b) (by omega)) O ?_
 refine B5 O<|B5 O<|Et O O (fun c b=>(Ii (t.getD 2 default) a a c (by omega) (by omega) (by omega)).q b) ?_
 refine Qw.done (fun D b=> ?_)
 have e:=e.bs b
 have d:=d.bs b
 have A:=AA e
 refine An (B7 (vs:=(Q8 t a).map (Value.int .i64)) AH DH O O O O O) O ?_
 rintro x w ⟨o, -,f, -⟩
 have o:=CR o A
 have e:=e.bs f
 have d:=d.bs f
 refine Ab O<|Ab O<|As<|B2 O O O ?_
 rw [show EN t a=0 by simp [EN,q,z]]
 exact ⟨e,x,_,rfl,o,fun h=>absurd rfl h,fun _=>rfl⟩
-- DD STOPPED

def CQ (k:BitVec 8):Option (List Int):=(LY.find? (fun p=>decide (p.2.1=(k.toNat:Int)))).map (·.2.2)
def DK (k:BitVec 8) (i s:List Int) (n p:Int):Bool:=match CQ k with
 |some [a,b,c,d,e,f]=>GD a b c d e f i s n p
 |_=>false
theorem GC {l m c d b sh:Int} {i s:List Int} {n p:Int}:GD l m c d b sh i s n p=true↔(l≤(i.length:Int)∧(i.length:Int)≤m∧c≤n∧n≤d∧0≤p∧p≤b)∧(if sh=0 then decide (s.length=0) else if sh=1 then Shapes.ok s else Jr s)=true:=by
 unfold GD
 rw [Bool.and_eq_true,Bool.not_eq_true',Bool.or_eq_false_iff,Bool.or_eq_false_iff,Bool.or_eq_false_iff,Bool.or_eq_false_iff,Bool.or_eq_false_iff]
 simp only [decide_eq_false_iff_not]
 constructor
 ·rintro ⟨⟨⟨⟨⟨⟨h,f⟩,k⟩,g⟩,j⟩,e⟩,a⟩
  exact ⟨⟨by omega,by omega,by omega,by omega,by omega,by omega⟩,a⟩
 ·rintro ⟨⟨h,f,k,g,j,e⟩,a⟩
  exact ⟨⟨⟨⟨⟨⟨by omega,by omega⟩,by omega⟩,by omega⟩,by omega⟩,by omega⟩,a⟩
def Hu (k:BitVec 8) (s:List Int) (n p:Int) (Rh:List (List Int)):List Int:=
 let a:=Rh.getD 0 []
 let b:=Rh.getD 1 []
 if k=1#8∨k=2#8 then s else if k=5#8∨k=6#8 then a else if k=3#8∨k=4#8 then (if a=b then a else [])
 else if k=10#8 then (if Shapes.size a=Shapes.size s then s else []) else if k=7#8 then (if HE a b=0 then [a.getD 0 default,b.getD 1 default] else [])
 else if k=8#8 then (if EC a b n p=0 then Nj a b n p else []) else if k=9#8 then (if EN a n=0 then Q8 a n else [])
 else if k=11#8 then Np a s else if k=12#8 then SY Rh n.toNat else if k=13#8 then Tp a n else []
theorem Tu (v:Value) (ps:List (Value×List Int)) (j:Int) (w:World) (h:LI w v ps) (g:0≤j∧j<(ps.length:Int)):
  AN prog 221 [.agg [v].toArray, .int .i64 j] w (fun r w' =>r=(ps.getD j.toNat default).1∧Below w.heap.size w w'):=by
 have b:=Below.refl w.heap.size w
 have a:=h.sl
 refine A4 (n:=10) func221 O<|Ai<|Cl (cs:=[v]) O O O ?_
 rintro f w c e d -
 have b:=b.bs d
 have a:=a.bs d
 refine Ab O<|A3<|A9 underlying273 O (JG _)<|Aa (Ao (NZ _) O ‹_› rfl) O ?_
 refine Ad O<|Aa (Bb BO O O a j.toNat (show j=((j.toNat:Nat):Int) by omega) (show j.toNat<ps.length by omega)) O<|Aa (Ex.as (Bf (AY _) O a (show j.toNat<ps.length by omega)) O) O<|Ab O<|As<|Al O O ?_
 exact ⟨rfl,b⟩
theorem FR {s:List Int} (h:Shapes.ok s=true):1≤s.length∧s.length≤4:=((Shapes.ok_iff s).1 h).1
theorem UJ {s:List Int} (h:Shapes.ok s=true):∀x ∈ s,1≤x∧x≤64:=((Shapes.ok_iff s).1 h).2.1
theorem O9 {k:Nat}:∀(l:List (List Int)) (s a:List Int),P5 k s l=some a→a.length=s.length
 |[],s,a,h=>by cases h;rfl
 |x::l,s,a,h=>by
  unfold P5 at h
  cases e:RN k s x with
  |none=>rw [e] at h;cases h
  |some t=>
   rw [e] at h
   have b:=O9 l t a h
   unfold RN at e
   split at e
   ·cases e;rw [b,length_set]
   ·cases e
theorem S4 {l:List (List Int)} {k:Nat} (h:(l.headD []).length≤4):(SY l k).length≤4:=by
 unfold SY
 cases e:P5 k (l.headD []) l.tail with
 |none=>simp
 |some s=>
  have:=O9 _ _ _ e
  simp only
  split
  ·omega
  ·simp
theorem Ul {l:List Int} (h:Td l=true) (n:l.length≤4):∀k ∈ l,0≤k∧k<(l.length:Int):=by
 rw [I7] at h
 have m:∀j,j<l.length→(j:Int) ∈ l:=fun j p=>by simpa using h j p
 match l,n with
 |[],_=>intro k o;cases o
 |[a],_=>
  have:=m 0 (by simp)
  simp at this ⊢;omega
 |[a,b],_=>
  have g:=m 0 (by simp);have f:=m 1 (by simp)
  simp at g f ⊢;omega
 |[a,b,c],_=>
  have g:=m 0 (by simp);have f:=m 1 (by simp);have i:=m 2 (by simp)
  simp at g f i ⊢;omega
 |[a,b,c,d],_=>
  have g:=m 0 (by simp);have f:=m 1 (by simp);have i:=m 2 (by simp);have q:=m 3 (by simp)
  simp at g f i q ⊢;omega
 |a::b::c::d::e::l,n=>simp at n
theorem BG {k:BitVec 8} {i s:List Int} {n p:Int} (h:DK k i s n p=true) {a b c d e f:Int} (g:CQ k=some [a,b,c,d,e,f]):(a≤(i.length:Int)∧(i.length:Int)≤b∧c≤n∧n≤d∧0≤p∧p≤e)∧(if f=0 then decide (s.length=0) else if f=1 then Shapes.ok s else Jr s)=true:=by
 unfold DK at h
 rw [g] at h
 exact GC.1 h
theorem US:CQ 1#8=some [0,0,0,0,0,1]:=by decide
theorem UR:CQ 2#8=some [0,0,0,0,0,1]:=by decide
theorem TR:CQ 3#8=some [2,2,0,0,0,0]:=by decide
theorem TQ:CQ 4#8=some [2,2,0,0,0,0]:=by decide
theorem UQ:CQ 5#8=some [1,1,0,0,0,0]:=by decide
theorem UP:CQ 6#8=some [1,1,0,31,0,0]:=by decide
theorem TP:CQ 7#8=some [2,2,0,0,0,0]:=by decide
theorem TO:CQ 8#8=some [2,2,1,8,8,0]:=by decide
theorem UO:CQ 9#8=some [1,1,1,64,0,0]:=by decide
theorem Rb:CQ 10#8=some [1,1,0,0,0,1]:=by decide
theorem Ra:CQ 11#8=some [1,1,0,0,0,2]:=by decide
theorem QZ:CQ 12#8=some [1,4,0,3,0,0]:=by decide
theorem QY:CQ 13#8=some [1,1,0,3,0,0]:=by decide
theorem O8:∀k:BitVec 8,(CQ k).isSome=true→(k=1#8∨k=2#8∨k=3#8∨k=4#8∨k=5#8∨k=6#8∨k=7#8∨k=8#8∨k=9#8∨k=10#8∨k=11#8∨k=12#8∨k=13#8):=by decide+kernel
theorem UU (n:Int) (h:0≤n):(n.toNat:Int)=n:=by omega
set_option maxHeartbeats 1000000 in
theorem Rm (x:N5) (v:Value) (ps:List (Value×List Int)) (w:World) (hx:N5.at w x) (h:LI w v ps) (E:DK x.k x.i x.s x.n x.p=true) (hi:∀j ∈ x.i,0≤j∧j<(ps.length:Int)) (M:∀p ∈ ps,Shapes.ok p.2=true):
  AN prog 220 [x.v, .func (.func 221) #[.agg [v].toArray] #[]] w (fun r w' =>BE (Value.int .i64) w' r (Hu x.k x.s x.n x.p (x.i.map fun j=>(ps.getD j.toNat default).2))∧Below w.heap.size w w' ∧∀b,r.ownBlock=some b→w.heap.size≤b∧b<w'.heap.size):=by
 obtain ⟨G,hG⟩:∃G,G=Hu x.k x.s x.n x.p (x.i.map fun j=>(ps.getD j.toNat default).2):=⟨_,rfl⟩
 rw [← hG]
 obtain ⟨W,hW⟩:∃W,W=w:=⟨_,rfl⟩
 have N:=Below.refl W.heap.size W
 have h_i:=hx.i
 have V:=hx.s
 have hli:=h_i.le
 obtain ⟨s,hqs⟩:∃s,s=x.i.map fun j=>ps.getD j.toNat default:=⟨_,rfl⟩
 have hq2:BB s=x.i.map fun j=>(ps.getD j.toNat default).2:=by rw [hqs];simp [BB]
 have lq:s.length=x.i.length:=by rw [hqs,length_map]
 have K:∀p ∈ s,p ∈ ps:=fun p hp=>by
  rw [hqs] at hp
  obtain ⟨j,hj,rfl⟩:=List.mem_map.1 hp
  have:=hi j hj
  rw [getD_eq_getElem?_getD,getElem?_eq_getElem (by omega)]
  exact getElem_mem _
 have li4:x.i.length≤4:=by
  unfold DK at E
  split at E
  ·rename_i a b c d e f he
   have h1:=(GC.1 E).1
   have h2:∀p ∈ LY,p.2.2.getD 1 0≤4:=by decide
   unfold CQ at he
   cases hf:LY.find? (fun p=>decide (p.2.1=(x.k.toNat:Int))) with
   |none=>rw [hf] at he;cases he
   |some p=>
    rw [hf] at he
    have h3:=h2 p (mem_of_find?_eq_some hf)
    have h4:p.2.2=[a,b,c,d,e,f]:=by simpa using he
    rw [h4] at h3
    simp at h3
    omega
  ·cases E
 rw [← hW] at hx h h_i V
 rw [← hW]
 refine A4 (n:=124) func220 O<|Ai<|Cl (cs:=x.cells) O O O ?_
 rintro A_x w eA_x X hn -
 have N:=N.bs hn
 have h_i:=h_i.bs hn
 have V:=V.bs hn
 refine Ab O<|A3<|Ab O<|A8<|A9 underlying79 O (BL _)<|Aa (Ao (AY _) O ‹_› rfl) O ?_
 refine Aa (Aq AH O ‹_›) O ?_
 refine Ad O<|Ak<|Ar ?_
 have zx:=AW X
 have zW:=AA N
 obtain ⟨B,hBd⟩:∃B,B=w.heap.size:=⟨_,rfl⟩
 rw [← hBd] at zx zW
 refine Bu (S:=(Nat×Value)) (fun z=>[(1, .func (.func 221) #[.agg [v].toArray] #[]),(2, .pointer (some ⟨A_x,0,none⟩)),(4, .slice none 0 0),(5,z.2),(9,x.x),(10, .int .i64 (x.i.length:Int)),(11, .int .i64 (z.1:Int))]) (fun z w' =>z.1≤x.i.length∧Below W.heap.size W w' ∧AP w' A_x 79 x.cells∧w'.ownsRow B 70 1 z.2 z.1 ((s.take z.1).map (·.1))∧B≤w'.heap.size) (fun z=>x.i.length - z.1) ((0, .slice none 0 0)) ⟨rfl,rfl,rfl,rfl,rfl,rfl,rfl,trivial⟩ ?_ ?_
 ·exact ⟨Nat.zero_le _,N,X,⟨rfl, .inl ⟨rfl,rfl⟩⟩,by omega⟩
 rintro ⟨i,u⟩ k ⟨hi1,N,X,o_u,hAx⟩
 dsimp only at hi1 N X o_u ⊢
 have h1:=h.bs N
 have h_i:=hx.i.bs N
 have V:=hx.s.bs N
 have zB:=AA N
 refine Ai<|B8 O<|Ak<|Ap<|Am O ?_ ?_
 ·intro g
  have hi' :i<x.i.length:=by have:=AE g;omega
  obtain ⟨j,hj⟩:∃j,j=x.i.getD i default:=⟨_,rfl⟩
  have hjm:j ∈ x.i:=by rw [hj];exact I1 hi'
  obtain ⟨q,hq⟩:∃q,q=ps.getD j.toNat default:=⟨_,rfl⟩
  have hqi:s[i]'(by omega)=q:=by
   have ej:x.i[i]=j:=by rw [hj,getD_eq_getElem?_getD,getElem?_eq_getElem hi'];rfl
   simp only [hqs,getElem_map,ej];exact hq.symm
  refine B1<|Ap<|Ar<|Ai<|Aa (Bb AH O O ‹_› _ O (by omega)) O ?_
  refine Aa (Ex.as (Bf (BD _) O h_i hi') (cngA (Value.int .i64) hj.symm)) O<|Ab O<|Ak<|A5<|Ad O<|Ad O<|Ad O<|Ee (p:=[.agg [v].toArray]) (q:=[]) O O O (Tu v ps j k h1 (hi j hjm)) ?_
  rintro _ w2 ⟨rfl,hn⟩
  rw [← hq]
  have s_q:BE (Value.int .i64) w2 q.1 q.2:=(h1.bs hn).each q (K q (hqi ▸ getElem_mem _))
  have o_u:=AF o_u hn
  have X:=X.bs hn
  have z2:=hn.size
  refine An (B7 (vs:=[q.1]) BO OB O O O (by rw [all_cons,s_q.one'];rfl) O) O ?_
  rintro r Y ⟨o_r, -,o, -⟩
  have o_u:=AF o_u o
  have X:=X.bs o
  have z3:=o.size
  refine An (Bv (base:=B) BO OB O (by decide) O O o_u (AG o_r) (by rw [all_cons,s_q.one'];rfl) (by omega) (by omega) (by omega)) O ?_
  rintro u' w4 ⟨o_u',hn4,hg4, -⟩
  have ub:=AB o_u
  have X:=X.by hg4 (fun e=>by have:=ub _ e.symm;omega)
  have e1:(s.take i).map (·.1)++[q.1]=(s.take (i+1)).map (·.1):=by
   rw [take_succ_eq_append_getElem (by omega),map_append,hqi];rfl
  rw [e1] at o_u'
  refine Ab O<|A7<|Ba<|Cr<|Ca O (by omega)<|Ad O<|A7 ?_
  exact Ay (Br ((i+1,u')) ⟨rfl,rfl,rfl,rfl,rfl,rfl,rfl,trivial⟩ (⟨hi',((N.trans (hn.mono zB)).trans (o.mono (by omega))).trans (hn4.mono zW),X,o_u',by have:=hn4.size;omega⟩) (by simp only;omega))
 intro g
 have hi' :i=x.i.length:=by have:=AD g;omega
 subst hi'
 rw [← lq,take_length] at o_u
 have Q:LI k u s:=⟨AL o_u,fun p hp=>h1.each p (K p hp)⟩
 have hq4:∀p ∈ s,p.2.length≤4∧∀y ∈ p.2,0≤y∧y≤64:=fun p hp=>⟨(FR (M p (K p hp))).2,fun y hy=>by have:=UJ (M p (K p hp)) y hy;omega⟩
 have h0:∀(hl:0<s.length),∃q,s.getD 0 default=q∧(BB s).getD 0 []=q.2∧q ∈ s:=fun hl=>⟨s[0],by rw [getD_eq_getElem?_getD,getElem?_eq_getElem hl];rfl,by rw [getD_eq_getElem?_getD,getElem?_map,getElem?_eq_getElem hl];rfl,getElem_mem hl⟩
 have h1q:∀(hl:1<s.length),∃q,s.getD 1 default=q∧(BB s).getD 1 []=q.2∧q ∈ s:=fun hl=>⟨s[1],by rw [getD_eq_getElem?_getD,getElem?_eq_getElem hl];rfl,by rw [getD_eq_getElem?_getD,getElem?_map,getElem?_eq_getElem hl];rfl,getElem_mem hl⟩
 have A:=Q.sl
 rw [← hq2] at hG
 refine Bq<|Au<|Au<|Bc<|Ay<|B9<|Ap<|Ai<|A9 underlying79 O (FK _)<|Aa (Ao (He _) O ‹_› rfl) O ?_
 refine Ak ?_
 refine D6 (St:=Value) (fun y=>[(4,y)]) (fun y w' =>Below W.heap.size W w' ∧BE (Value.int .i64) w' y G∧G.length≤4) ?_ ?_
 ·refine Ar<|Ap<|Ai<|Aa (Db O (show _=some (b8 (1#8)) from rfl)) O<|Ab O<|Ak<|Am O ?_ ?_
  ·intro g
   have g:x.k=1#8:=AE g
   refine Ey 24 (v' := .bool true) O (cngA Value.bool (decide_eq_true g))<|B1<|B6 O<|A5<|A9 underlying79 O (BL _)<|Aa (Ao (AY _) O ‹_› rfl) O ?_
   refine Ab O<|A7<|Ba ?_
   have k_s:Shapes.ok x.s=true:=(BG (by rw [g] at E;exact E) US).2
   have F:G=x.s:=by rw [hG,g];rfl
   exact B4 (x.y) ⟨rfl,trivial⟩ (⟨N,by rw [F];exact V,by rw [F];exact (FR k_s).2⟩)
  intro g1
  have g1:¬x.k=1#8:=AD g1
  refine A5<|Aa (Db O (show _=some (b8 (2#8)) from rfl)) O<|Ab O<|Ak<|Am O ?_ ?_
  ·intro g
   have g:x.k=2#8:=AE g
   refine A5<|A9 underlying79 O (BL _)<|Aa (Ao (AY _) O ‹_› rfl) O ?_
   refine Ab O<|A7<|Ba ?_
   have k_s:Shapes.ok x.s=true:=(BG (by rw [g] at E;exact E) UR).2
   have F:G=x.s:=by rw [hG,g];rfl
   exact B4 (x.y) ⟨rfl,trivial⟩ (⟨N,by rw [F];exact V,by rw [F];exact (FR k_s).2⟩)
  intro g2
  have g2:¬x.k=2#8:=AD g2
  refine Ap<|Ai<|Aa (Db O (show _=some (b8 (5#8)) from rfl)) O<|Ab O<|Ak<|Am O ?_ ?_
  ·intro g
   have g:x.k=5#8:=AE g
   have H:0<s.length:=by have:=(BG (by rw [g] at E;exact E) UQ).1;omega
   obtain ⟨a,ea,ga,U⟩:=h0 H
   have J:=Q.each a U
   have T:=M a (K a U)
   have I:(s.getD 0 default).1=a.1:=by rw [ea]
   have F:G=a.2:=by rw [hG,g];exact ga
   refine Ey 29 (v' := .bool true) O (cngA Value.bool (decide_eq_true g))<|B1<|B6 O<|A5<|Ad O<|Aa (Bb BO O O A 0 O H) O<|Aa (Ex.as (Bf (AY _) O A H) I) O<|Ab O<|A7<|Ba ?_
   exact B4 (a.1) ⟨rfl,trivial⟩ (⟨N,by rw [F];exact J,by rw [F];exact (FR T).2⟩)
  intro g5
  have g5:¬x.k=5#8:=AD g5
  refine A5<|Aa (Db O (show _=some (b8 (6#8)) from rfl)) O<|Ab O<|Ak<|Am O ?_ ?_
  ·intro g
   have g:x.k=6#8:=AE g
   have H:0<s.length:=by have:=(BG (by rw [g] at E;exact E) UP).1;omega
   obtain ⟨a,ea,ga,U⟩:=h0 H
   have J:=Q.each a U
   have T:=M a (K a U)
   have I:(s.getD 0 default).1=a.1:=by rw [ea]
   have F:G=a.2:=by rw [hG,g];exact ga
   refine A5<|Ad O<|Aa (Bb BO O O A 0 O H) O<|Aa (Ex.as (Bf (AY _) O A H) I) O<|Ab O<|A7<|Ba ?_
   exact B4 (a.1) ⟨rfl,trivial⟩ (⟨N,by rw [F];exact J,by rw [F];exact (FR T).2⟩)
  intro g6
  have g6:¬x.k=6#8:=AD g6
  refine Ap<|Ai<|Aa (Db O (show _=some (b8 (3#8)) from rfl)) O<|Ab O<|Ak<|Am O ?_ ?_
  ·intro g
   have g:x.k=3#8:=AE g
   refine Ey 35 (v' := .bool true) O (cngA Value.bool (decide_eq_true g))<|B1<|B6 O<|Ap ?_
   have H:0<s.length:=by have:=(BG (by rw [g] at E;exact E) TR).1;omega
   obtain ⟨a,ea,ga,U⟩:=h0 H
   have J:=Q.each a U
   have T:=M a (K a U)
   have I:(s.getD 0 default).1=a.1:=by rw [ea]
   have l2:1<s.length:=by have:=(BG (by rw [g] at E;exact E) TR).1;omega
   obtain ⟨b,eb,gb,mb⟩:=h1q l2
   have s_b:=Q.each b mb
   have k_b:=M b (K b mb)
   have eb' :(s.getD 1 default).1=b.1:=by rw [eb]
   have F:G=if a.2=b.2 then a.2 else []:=by rw [hG,g,← ga,← gb];rfl
   refine Cw.any mixed (fun w2 t _=> ?_)
   refine C5 (fun w' =>Below k.heap.size k w') (fun hC=> ?_) (t)
   have C:=N.trans (t.mono (AA N))
   have R:=V.bs t
   have D:=J.bs t
   have Z:=s_b.bs t
   refine Bz (Av (Bp Bo))<|Af 0 O (fun k l=>Bl O) O<|Af 1 O (fun k l=>Bb BO O O (A.bs l) 0 O H) O<|Af 2 O (fun k l=>Ex.as (Bf (AY _) O (A.bs l) H) I) O<|Af 3 O (fun k l=>Bl O) O<|Af 4 O (fun k l=>Bb BO O O (A.bs l) 1 O l2) O<|Af 5 O (fun k l=>Ex.as (Bf (AY _) O (A.bs l) l2) eb') O<|Bj<|AK.only ‹_› (i:=6) (by kernel_rfl) O ?_
   refine Ah O O (Hw a.1 b.1 a.2 b.2 w2 D Z) ?_
   rintro _ Y ⟨rfl,o⟩
   have hd3:Below k.heap.size k Y:=t.trans (o.mono t.size)
   have L:=C.trans (o.mono (AA C))
   have hql3:=(A.bs t).bs o
   refine AK.back<|AK.done ‹_› (by kernel_rfl) ?_
   refine Ay<|B9<|Am O ?_ ?_
   ·intro e
    have e:a.2=b.2:=AE e
    refine A5<|Ad O<|Aa (Bb BO O O hql3 0 O H) O<|Aa (Ex.as (Bf (AY _) O hql3 H) I) O<|Ab O<|A7<|Ba ?_
    exact B4 (a.1) ⟨rfl,trivial⟩ (⟨L,by rw [F,if_pos e];exact D.bs o,by rw [F,if_pos e];exact (FR T).2⟩)
   intro e
   have e:¬a.2=b.2:=AD e
   refine Cj<|Ba ?_
   exact B4 ((.slice none 0 0)) ⟨rfl,trivial⟩ (⟨L,by rw [F,if_neg e];exact Cv _ _,by rw [F,if_neg e];exact Nat.zero_le _⟩)
  intro g3
  have g3:¬x.k=3#8:=AD g3
  refine A5<|Aa (Db O (show _=some (b8 (4#8)) from rfl)) O<|Ab O<|Ak<|Am O ?_ ?_
  ·intro g
   have g:x.k=4#8:=AE g
   refine Ap ?_
   have H:0<s.length:=by have:=(BG (by rw [g] at E;exact E) TQ).1;omega
   obtain ⟨a,ea,ga,U⟩:=h0 H
   have J:=Q.each a U
   have T:=M a (K a U)
   have I:(s.getD 0 default).1=a.1:=by rw [ea]
   have l2:1<s.length:=by have:=(BG (by rw [g] at E;exact E) TQ).1;omega
   obtain ⟨b,eb,gb,mb⟩:=h1q l2
   have s_b:=Q.each b mb
   have k_b:=M b (K b mb)
   have eb' :(s.getD 1 default).1=b.1:=by rw [eb]
   have F:G=if a.2=b.2 then a.2 else []:=by rw [hG,g,← ga,← gb];rfl
   refine Cw.any mixed (fun w2 t _=> ?_)
   refine C5 (fun w' =>Below k.heap.size k w') (fun hC=> ?_) (t)
   have C:=N.trans (t.mono (AA N))
   have R:=V.bs t
   have D:=J.bs t
   have Z:=s_b.bs t
   refine Bz (Av (Bp Bo))<|Af 0 O (fun k l=>Bl O) O<|Af 1 O (fun k l=>Bb BO O O (A.bs l) 0 O H) O<|Af 2 O (fun k l=>Ex.as (Bf (AY _) O (A.bs l) H) I) O<|Af 3 O (fun k l=>Bl O) O<|Af 4 O (fun k l=>Bb BO O O (A.bs l) 1 O l2) O<|Af 5 O (fun k l=>Ex.as (Bf (AY _) O (A.bs l) l2) eb') O<|Bj<|AK.only ‹_› (i:=6) (by kernel_rfl) O ?_
   refine Ah O O (Hw a.1 b.1 a.2 b.2 w2 D Z) ?_
   rintro _ Y ⟨rfl,o⟩
   have hd3:Below k.heap.size k Y:=t.trans (o.mono t.size)
   have L:=C.trans (o.mono (AA C))
   have hql3:=(A.bs t).bs o
   refine AK.back<|AK.done ‹_› (by kernel_rfl) ?_
   refine Ay<|B9<|Am O ?_ ?_
   ·intro e
    have e:a.2=b.2:=AE e
    refine A5<|Ad O<|Aa (Bb BO O O hql3 0 O H) O<|Aa (Ex.as (Bf (AY _) O hql3 H) I) O<|Ab O<|A7<|Ba ?_
    exact B4 (a.1) ⟨rfl,trivial⟩ (⟨L,by rw [F,if_pos e];exact D.bs o,by rw [F,if_pos e];exact (FR T).2⟩)
   intro e
   have e:¬a.2=b.2:=AD e
   refine Cj<|Ba ?_
   exact B4 ((.slice none 0 0)) ⟨rfl,trivial⟩ (⟨L,by rw [F,if_neg e];exact Cv _ _,by rw [F,if_neg e];exact Nat.zero_le _⟩)
  intro g4
  have g4:¬x.k=4#8:=AD g4
  refine Ai<|Aa (Db O (show _=some (b8 (10#8)) from rfl)) O<|Ab O<|Ak<|Am O ?_ ?_
  ·intro g
   have g:x.k=10#8:=AE g
   refine Ap ?_
   have H:0<s.length:=by have:=(BG (by rw [g] at E;exact E) Rb).1;omega
   obtain ⟨a,ea,ga,U⟩:=h0 H
   have J:=Q.each a U
   have T:=M a (K a U)
   have I:(s.getD 0 default).1=a.1:=by rw [ea]
   have k_s:Shapes.ok x.s=true:=(BG (by rw [g] at E;exact E) Rb).2
   have F:G=if Shapes.size a.2=Shapes.size x.s then x.s else []:=by rw [hG,g,← ga];rfl
   refine Cw.any mixed (fun w2 t _=> ?_)
   refine C5 (fun w' =>Below k.heap.size k w') (fun hC=> ?_) (t)
   have C:=N.trans (t.mono (AA N))
   have R:=V.bs t
   have D:=J.bs t
   refine Bz (Av (Bp Bo))<|Af 0 O (fun k l=>Bl O) O<|Af 1 O (fun k l=>Bb BO O O (A.bs l) 0 O H) O<|Af 2 O (fun k l=>Ex.as (Bf (AY _) O (A.bs l) H) I) O<|Af 4 O (fun k l=>Ch underlying79 O (BL _)) O<|Af 5 O (fun k l=>Ao (AY _) O (AP.bs ‹_› l) O) O<|Bj ?_
   refine AK.only ‹_› (i:=3) (by kernel_rfl) O ?_
   refine Ah O O (JL a.1 a.2 w2 D) ?_
   rintro _ Y ⟨rfl,o⟩
   have hd3:Below k.heap.size k Y:=t.trans (o.mono t.size)
   refine AK.back<|AK.only ‹_› (i:=6) (by kernel_rfl) O ?_
   refine Ah O O (JL x.y x.s Y (R.bs o)) ?_
   rintro _ w4 ⟨rfl,hn4⟩
   have hn34:=o.trans (hn4.mono o.size)
   have hB4:=C.trans (hn34.mono (AA C))
   have hd4:Below k.heap.size k w4:=t.trans (hn34.mono t.size)
   have X:=(X.bs t).bs hn34
   refine AK.back<|Bz (Av (Bp Bo))<|Af 7 O (fun k l=>Cn O O) O<|Bj<|AK.done ‹_› (by kernel_rfl) ?_
   refine Ay<|B9<|Am O ?_ ?_
   ·intro e
    have e:Shapes.size a.2=Shapes.size x.s:=by have:=AE e;omega
    refine A5<|A9 underlying79 O (BL _)<|Aa (Ao (AY _) O ‹_› rfl) O ?_
    refine Ab O<|A7<|Ba ?_
    exact B4 (x.y) ⟨rfl,trivial⟩ (⟨hB4,by rw [F,if_pos e];exact R.bs hn34,by rw [F,if_pos e];exact (FR k_s).2⟩)
   intro e
   have e:¬Shapes.size a.2=Shapes.size x.s:=by have:=AD e;omega
   refine Cj<|Ba ?_
   exact B4 ((.slice none 0 0)) ⟨rfl,trivial⟩ (⟨hB4,by rw [F,if_neg e];exact Cv _ _,by rw [F,if_neg e];exact Nat.zero_le _⟩)
  intro g10
  have g10:¬x.k=10#8:=AD g10
  refine Ai<|Aa (Db O (show _=some (b8 (7#8)) from rfl)) O<|Ab O<|Ak<|Am O ?_ ?_
  ·intro g
   have g:x.k=7#8:=AE g
   have F:G=if HE ((BB s).getD 0 []) ((BB s).getD 1 [])=0 then [((BB s).getD 0 []).getD 0 default,((BB s).getD 1 []).getD 1 default] else []:=by rw [hG,g];rfl
   have H:0<s.length:=by have:=(BG (by rw [g] at E;exact E) TP).1;omega
   obtain ⟨a,ea,ga,U⟩:=h0 H
   have J:=Q.each a U
   have T:=M a (K a U)
   have I:(s.getD 0 default).1=a.1:=by rw [ea]
   have l2:1<s.length:=by have:=(BG (by rw [g] at E;exact E) TP).1;omega
   obtain ⟨b,eb,gb,mb⟩:=h1q l2
   have s_b:=Q.each b mb
   have k_b:=M b (K b mb)
   have eb' :(s.getD 1 default).1=b.1:=by rw [eb]
   refine Cw.any mixed (fun w2 t _=> ?_)
   refine C5 (fun w' =>Below k.heap.size k w') (fun hC=> ?_) (t)
   have C:=N.trans (t.mono (AA N))
   have R:=V.bs t
   have D:=J.bs t
   have Z:=s_b.bs t
   refine Bz (Bp Bo)<|Af 0 O (fun k l=>Bl O) O<|Af 1 O (fun k l=>Bb BO O O (A.bs l) 0 O H) O<|Af 2 O (fun k l=>Ex.as (Bf (AY _) O (A.bs l) H) I) O<|Af 3 O (fun k l=>Bl O) O<|Af 4 O (fun k l=>Bb BO O O (A.bs l) 1 O l2) O<|Af 5 O (fun k l=>Ex.as (Bf (AY _) O (A.bs l) l2) eb') O<|Bj<|AK.only ‹_› (i:=6) (by kernel_rfl) O ?_
   rw [ga,gb] at F
   refine Ah O O (Q7 a.1 b.1 a.2 b.2 w2 D Z) ?_
   rintro _ Y ⟨o,y,rfl,hy0,hy1⟩
   have hd3:Below k.heap.size k Y:=t.trans (o.mono t.size)
   have L:=C.trans (o.mono (AA C))
   have hy:BE (Value.int .i64) Y y G∧G.length≤4:=by
    by_cases e:HE a.2 b.2=0
    ·rw [F,if_pos e];exact ⟨AL (hy1 e),by simp⟩
    ·rw [F,if_neg e,hy0 e];exact ⟨Cv _ _,by simp⟩
   refine AK.back<|Bz (Bp Bo)<|Af 7 O (fun k l=>Bl O) O<|Af 8 O (fun k l=>Az (i:=0) O O) O<|Af 9 O (fun k l=>Az (i:=1) O O) O<|Af 10 O (fun k l=>Bx O) O<|Bj<|AK.done ‹_› (by kernel_rfl) ?_
   exact Ba<|B4 (y) ⟨rfl,trivial⟩ (⟨L,hy.1,hy.2⟩)
  intro g7
  have g7:¬x.k=7#8:=AD g7
  refine Ai<|Aa (Db O (show _=some (b8 (8#8)) from rfl)) O<|Ab O<|Ak<|Am O ?_ ?_
  ·intro g
   have g:x.k=8#8:=AE g
   have F:G=if EC ((BB s).getD 0 []) ((BB s).getD 1 []) x.n x.p=0 then Nj ((BB s).getD 0 []) ((BB s).getD 1 []) x.n x.p else []:=by rw [hG,g];rfl
   have H:0<s.length:=by have:=(BG (by rw [g] at E;exact E) TO).1;omega
   obtain ⟨a,ea,ga,U⟩:=h0 H
   have J:=Q.each a U
   have T:=M a (K a U)
   have I:(s.getD 0 default).1=a.1:=by rw [ea]
   have l2:1<s.length:=by have:=(BG (by rw [g] at E;exact E) TO).1;omega
   obtain ⟨b,eb,gb,mb⟩:=h1q l2
   have s_b:=Q.each b mb
   have k_b:=M b (K b mb)
   have eb' :(s.getD 1 default).1=b.1:=by rw [eb]
   refine Cw.any mixed (fun w2 t _=> ?_)
   refine C5 (fun w' =>Below k.heap.size k w') (fun hC=> ?_) (t)
   have C:=N.trans (t.mono (AA N))
   have R:=V.bs t
   have D:=J.bs t
   have Z:=s_b.bs t
   refine Bz (Bp Bo)<|Af 0 O (fun k l=>Bl O) O<|Af 1 O (fun k l=>Bb BO O O (A.bs l) 0 O H) O<|Af 2 O (fun k l=>Ex.as (Bf (AY _) O (A.bs l) H) I) O<|Af 3 O (fun k l=>Bl O) O<|Af 4 O (fun k l=>Bb BO O O (A.bs l) 1 O l2) O<|Af 5 O (fun k l=>Ex.as (Bf (AY _) O (A.bs l) l2) eb') O<|Af 6 O (fun k l=>Ch underlying79 O (BZ _)) O<|Af 7 O (fun k l=>Ao (BD _) O (AP.bs ‹_› l) O) O<|Af 8 O (fun k l=>Ch underlying79 O (BZ _)) O<|Af 9 O (fun k l=>Ao (BD _) O (AP.bs ‹_› l) O) O<|Bj ?_
   refine AK.only ‹_› (i:=10) (by kernel_rfl) O ?_
   rw [ga,gb] at F
   refine Ah O O (Qa a.2 b.2 x.n x.p a.1 b.1 w2 D Z) ?_
   rintro _ Y ⟨o,y,m,rfl,o_y,hy0,hy1⟩
   have hd3:Below k.heap.size k Y:=t.trans (o.mono t.size)
   have L:=C.trans (o.mono (AA C))
   have hy:BE (Value.int .i64) Y y G∧G.length≤4:=by
    by_cases e:EC a.2 b.2 x.n x.p=0
    ·rw [F,if_pos e,← hy1 e];exact ⟨AL o_y,by rw [hy1 e];simp [Nj]⟩
    ·rw [F,if_neg e,(hy0 e).1];exact ⟨Cv _ _,by simp⟩
   refine AK.back<|Bz (Bp Bo)<|Af 11 O (fun k l=>Bl O) O<|Af 12 O (fun k l=>Az (i:=0) O O) O<|Af 13 O (fun k l=>Az (i:=1) O O) O<|Af 14 O (fun k l=>Bx O) O<|Bj<|AK.done ‹_› (by kernel_rfl) ?_
   exact Ba<|B4 (y) ⟨rfl,trivial⟩ (⟨L,hy.1,hy.2⟩)
  intro g8
  have g8:¬x.k=8#8:=AD g8
  refine Ai<|Aa (Db O (show _=some (b8 (9#8)) from rfl)) O<|Ab O<|Ak<|Am O ?_ ?_
  ·intro g
   have g:x.k=9#8:=AE g
   have F:G=if EN ((BB s).getD 0 []) x.n=0 then Q8 ((BB s).getD 0 []) x.n else []:=by rw [hG,g];rfl
   have H:0<s.length:=by have:=(BG (by rw [g] at E;exact E) UO).1;omega
   obtain ⟨a,ea,ga,U⟩:=h0 H
   have J:=Q.each a U
   have T:=M a (K a U)
   have I:(s.getD 0 default).1=a.1:=by rw [ea]
   refine Cw.any mixed (fun w2 t _=> ?_)
   refine C5 (fun w' =>Below k.heap.size k w') (fun hC=> ?_) (t)
   have C:=N.trans (t.mono (AA N))
   have R:=V.bs t
   have D:=J.bs t
   refine Bz (Bp Bo)<|Af 0 O (fun k l=>Bl O) O<|Af 1 O (fun k l=>Bb BO O O (A.bs l) 0 O H) O<|Af 2 O (fun k l=>Ex.as (Bf (AY _) O (A.bs l) H) I) O<|Af 3 O (fun k l=>Ch underlying79 O (BZ _)) O<|Af 4 O (fun k l=>Ao (BD _) O (AP.bs ‹_› l) O) O<|Bj ?_
   refine AK.only ‹_› (i:=5) (by kernel_rfl) O ?_
   rw [ga] at F
   refine Ah O O (OS a.2 x.n a.1 w2 D) ?_
   rintro _ Y ⟨o,y,m,rfl,o_y,hy0,hy1⟩
   have hd3:Below k.heap.size k Y:=t.trans (o.mono t.size)
   have L:=C.trans (o.mono (AA C))
   have hy:BE (Value.int .i64) Y y G∧G.length≤4:=by
    by_cases e:EN a.2 x.n=0
    ·rw [F,if_pos e,← hy1 e];exact ⟨AL o_y,by rw [hy1 e];simp [Q8]⟩
    ·rw [F,if_neg e,(hy0 e).1];exact ⟨Cv _ _,by simp⟩
   refine AK.back<|Bz (Bp Bo)<|Af 6 O (fun k l=>Bl O) O<|Af 7 O (fun k l=>Az (i:=0) O O) O<|Af 8 O (fun k l=>Az (i:=1) O O) O<|Af 9 O (fun k l=>Bx O) O<|Bj<|AK.done ‹_› (by kernel_rfl) ?_
   exact Ba<|B4 (y) ⟨rfl,trivial⟩ (⟨L,hy.1,hy.2⟩)
  intro g9
  have g9:¬x.k=9#8:=AD g9
  refine Ai<|Aa (Db O (show _=some (b8 (11#8)) from rfl)) O<|Ab O<|Ak<|Am O ?_ ?_
  ·intro g
   have g:x.k=11#8:=AE g
   have k_s:Jr x.s=true:=(BG (by rw [g] at E;exact E) Ra).2
   have k_c:Td x.s=true∧x.s.length≤4:=by unfold Jr at k_s;rw [Bool.and_eq_true] at k_s;exact ⟨k_s.1,AE k_s.2⟩
   have F:G=Np ((BB s).getD 0 []) x.s:=by rw [hG,g];rfl
   have H:0<s.length:=by have:=(BG (by rw [g] at E;exact E) Ra).1;omega
   obtain ⟨a,ea,ga,U⟩:=h0 H
   have J:=Q.each a U
   have T:=M a (K a U)
   have I:(s.getD 0 default).1=a.1:=by rw [ea]
   refine Cw.any mixed (fun w2 t _=> ?_)
   refine C5 (fun w' =>Below k.heap.size k w') (fun hC=> ?_) (t)
   have C:=N.trans (t.mono (AA N))
   have R:=V.bs t
   have D:=J.bs t
   refine Bz (Bp Bo)<|Af 0 O (fun k l=>Bl O) O<|Af 1 O (fun k l=>Bb BO O O (A.bs l) 0 O H) O<|Af 2 O (fun k l=>Ex.as (Bf (AY _) O (A.bs l) H) I) O<|Af 3 O (fun k l=>Ch underlying79 O (BL _)) O<|Af 4 O (fun k l=>Ao (AY _) O (AP.bs ‹_› l) O) O<|Bj ?_
   refine AK.only ‹_› (i:=5) (by kernel_rfl) O ?_
   rw [ga] at F
   refine Ah O O (PC a.1 x.y a.2 x.s w2 D R (Ul k_c.1 k_c.2) (by omega)) ?_
   rintro y Y ⟨s_y,o⟩
   have hd3:Below k.heap.size k Y:=t.trans (o.mono t.size)
   have L:=C.trans (o.mono (AA C))
   have lG:G.length≤4:=by rw [F];unfold Np;split;rw [length_map];exact k_c.2;simp
   refine AK.back<|Bz (Bp Bo)<|Af 6 O (fun k l=>Bx O) O<|Bj<|AK.done ‹_› (by kernel_rfl) ?_
   refine Ba ?_
   exact B4 (y) ⟨rfl,trivial⟩ (⟨L,by rw [F];exact s_y,lG⟩)
  intro g11
  have g11:¬x.k=11#8:=AD g11
  refine Ai<|Aa (Db O (show _=some (b8 (12#8)) from rfl)) O<|Ab O<|Ak<|Am O ?_ ?_
  ·intro g
   have g:x.k=12#8:=AE g
   refine A5<|Ad O<|A9 underlying79 O (BZ _)<|Aa (Ao (BD _) O ‹_› rfl) O ?_
   have H:0<s.length:=by have:=(BG (by rw [g] at E;exact E) QZ).1;omega
   have n0:0≤x.n:=by have:=(BG (by rw [g] at E;exact E) QZ).1;omega
   have F:G=SY (BB s) x.n.toNat:=by rw [hG,g];rfl
   have hj:=PJ u s x.n.toNat k Q H (by omega) hq4
   rw [UU x.n n0] at hj
   have lG:G.length≤4:=by
    rw [F]
    obtain ⟨a, -,ga,U⟩:=h0 H
    refine S4 ?_
    have:(BB s).headD []=(BB s).getD 0 []:=by cases BB s<;>rfl
    rw [this,ga];exact (hq4 a U).1
   refine Ah O O (hj) ?_
   rintro y Y ⟨s_y,o⟩
   have L:=N.trans (o.mono (AA N))
   refine Ab O<|A7<|Ba ?_
   exact B4 (y) ⟨rfl,trivial⟩ (⟨L,by rw [F];exact s_y,lG⟩)
  intro g12
  have g12:¬x.k=12#8:=AD g12
  refine Ai<|Aa (Db O (show _=some (b8 (13#8)) from rfl)) O<|Ab O<|Ak<|Am O ?_ ?_
  ·intro g
   have g:x.k=13#8:=AE g
   have n0:0≤x.n:=by have:=(BG (by rw [g] at E;exact E) QY).1;omega
   have F:G=Tp ((BB s).getD 0 []) x.n:=by rw [hG,g];rfl
   have H:0<s.length:=by have:=(BG (by rw [g] at E;exact E) QY).1;omega
   obtain ⟨a,ea,ga,U⟩:=h0 H
   have J:=Q.each a U
   have T:=M a (K a U)
   have I:(s.getD 0 default).1=a.1:=by rw [ea]
   refine Cw.any mixed (fun w2 t _=> ?_)
   refine C5 (fun w' =>Below k.heap.size k w') (fun hC=> ?_) (t)
   have C:=N.trans (t.mono (AA N))
   have R:=V.bs t
   have D:=J.bs t
   refine Bz (Bp Bo)<|Af 0 O (fun k l=>Bl O) O<|Af 1 O (fun k l=>Bb BO O O (A.bs l) 0 O H) O<|Af 2 O (fun k l=>Ex.as (Bf (AY _) O (A.bs l) H) I) O<|Af 3 O (fun k l=>Ch underlying79 O (BZ _)) O<|Af 4 O (fun k l=>Ao (BD _) O (AP.bs ‹_› l) O) O<|Bj ?_
   refine AK.only ‹_› (i:=5) (by kernel_rfl) O ?_
   rw [ga] at F
   refine Ah O O (NM a.1 a.2 x.n w2 D n0 (by have:=(FR T).2;omega)) ?_
   rintro y Y ⟨s_y,o⟩
   have hd3:Below k.heap.size k Y:=t.trans (o.mono t.size)
   have L:=C.trans (o.mono (AA C))
   have lG:G.length≤4:=by
    have:=(FR T).2
    rw [F];unfold Tp
    split
    ·simp
    ·split
     ·simp
     ·rw [length_eraseIdx];split<;>omega
   refine AK.back<|Bz (Bp Bo)<|Af 6 O (fun k l=>Bx O) O<|Bj<|AK.done ‹_› (by kernel_rfl) ?_
   refine Ba ?_
   exact B4 (y) ⟨rfl,trivial⟩ (⟨L,by rw [F];exact s_y,lG⟩)
  intro g13
  have g13:¬x.k=13#8:=AD g13
  exfalso
  have hs:(CQ x.k).isSome=true:=by
   cases e:CQ x.k with
   |some _=>rfl
   |none=>unfold DK at E;rw [e] at E;cases E
  rcases O8 x.k hs with e|e|e|e|e|e|e|e|e|e|e|e|e
  ·exact g1 e
  ·exact g2 e
  ·exact g3 e
  ·exact g4 e
  ·exact g5 e
  ·exact g6 e
  ·exact g7 e
  ·exact g8 e
  ·exact g9 e
  ·exact g10 e
  ·exact g11 e
  ·exact g12 e
  ·exact g13 e
 rintro y w2 ⟨C,s_y,hG4⟩
 refine Ai<|Ad O<|Ah O O (J4 y G w2 s_y (by omega)) ?_
 rintro r Y ⟨o_r,o⟩
 refine Ah O O (Ky r G Y (AL o_r)) ?_
 rintro _ w4 ⟨rfl,hn4⟩
 refine Ab O<|As<|Al O O ?_
 have kr:=(AQ.clip o_r).bs hn4
 have z2:=AA C
 exact ⟨kr.slT,(C.trans (o.mono (AA C))).trans (hn4.mono (by have:=o.size;omega)),fun b e=>by have:=kr.lt b e;omega⟩
end Go.Proofs.YtblbopcaflaldaaGreatDoor
