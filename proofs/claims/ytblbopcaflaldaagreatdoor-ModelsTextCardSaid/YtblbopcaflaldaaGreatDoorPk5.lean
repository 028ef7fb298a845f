/- Texts of this proof, one behind the other: Rmp, TxtRows, TxtCode, TxtPl, ParPl, TxtText, ParTx, ParNum, RefTxt, ParLine, ParNode, RefLn, RefPar, ParPrs, ParAll, RefNod, TxtMake, TxtGot, BookArg. -/
import Derived.Test.YtblbopcaflaldaaGreatDoorPk1
import Derived.Maps.RangeRun
import Derived.Test.YtblbopcaflaldaaGreatDoorPk4
import Derived.Test.YtblbopcaflaldaaGreatDoorPk2
import Derived.Test.YtblbopcaflaldaaGreatDoorPk3
import Derived.Test.YtblbopcaflaldaaGreatDoorCards
import Derived.Test.YtblbopcaflaldaaGreatDoorTie
import Derived.SevenTiedAt
import Derived.LaidLaws
import Derived.LaidHandle
import Derived.JoinedOf

namespace Go.Dd
open Go Go.RowKit
open List hiding all
theorem Ln {α β:Type} {f:α→β}:∀{l:List α},(l.map f).Nodup→∀{x y:α},x ∈ l→y ∈ l→f x=f y→x=y
 |[],_,_,_,h,_,_=>by cases h
 |a::l,hn,x,y,hx,hy,e=>by
  rw [map_cons,nodup_cons] at hn
  rcases List.mem_cons.1 hx with rfl|b<;>rcases List.mem_cons.1 hy with rfl|c
  ·rfl
  ·exact absurd (show f x ∈ l.map f from List.mem_map.2 ⟨y,c,e.symm⟩) hn.1
  ·exact absurd (show f y ∈ l.map f from List.mem_map.2 ⟨x,b,e⟩) hn.1
  ·exact Ln hn.2 b c e
structure UR (d:TypeDesc) (S:Value→Value→Prop) (es:Array MapEntry) (c:Nat):Prop where
 key:∀x ∈ es.toList,MapKept.IsKey d x.key
 all:∀k v,(∃x ∈ es.toList,x.key=k∧x.val=v)↔S k v
 old:∀x ∈ es.toList,x.born<c
 bn:(es.toList.map (·.born)).Nodup
 kn:(es.toList.map (·.key)).Nodup
def FK (w:World) (M:Nat) (d:TypeDesc) (S:Value→Value→Prop):Prop:=∃es c,w.heap[M]? =some (.map es c)∧UR d S es c
theorem FK.in {w:World} {M:Nat} {d:TypeDesc} {S:Value→Value→Prop} (h:FK w M d S):BX w M d S:=by
 obtain ⟨e,c,b,a⟩:=h
 exact ⟨e,c,b,a.key,a.all⟩
theorem FK.lt {w:World} {M:Nat} {d:TypeDesc} {S:Value→Value→Prop} (h:FK w M d S):M<w.heap.size:=h.in.lt
theorem FK.keep {w w' :World} {M:Nat} {d:TypeDesc} {S:Value→Value→Prop} (h:FK w M d S) (g:w'.heap[M]? =w.heap[M]?):FK w' M d S:=by
 obtain ⟨b,c,a,e⟩:=h
 exact ⟨b,c,by rw [g];exact a,e⟩
theorem FK.bs {w w' :World} {M:Nat} {d:TypeDesc} {S:Value→Value→Prop} (h:FK w M d S) (g:Below w.heap.size w w'):FK w' M d S:=h.keep (g.block M h.lt)
theorem FK.congr {w:World} {M:Nat} {d:TypeDesc} {S T:Value→Value→Prop} (h:FK w M d S) (b:∀k v,S k v↔T k v):FK w M d T:=by
 obtain ⟨f,c,e,a⟩:=h
 exact ⟨f,c,e,a.key,fun k v=>(a.all k v).trans (b k v),a.old,a.bn,a.kn⟩
section
variable {P : Program} {n : Nat} {E : BZ} {w : World} {ty : TypeId} {t kt et : TypeId} {d : TypeDesc} {M : Nat} {S : Value → Value → Prop} {x y z : Operand} {k u : Value}
theorem Fx:Xw P n E (.makeMap t none) ty w (fun v w' =>v= .map (some w.heap.size)∧FK w' w.heap.size d (fun _ _=>False)∧Below w.heap.size w w' ∧w'.heap.size=w.heap.size+1):=fun a b=>by
 refine ⟨.map (some w.heap.size),w.alloc (.map #[] 0),fun _ _ _ _=> ?_,rfl,⟨#[],0,(MapKept.heap_alloc w _).1,by simp,by simp,by simp,by simp,by simp⟩,DR w _,by simp⟩
 have:(Instr.makeMap t none).run P w= .ok (.map (some w.heap.size)) (w.alloc (.map #[] 0)):=rfl
 simp [execOp,this]
theorem JK (G:P.underlying t=some (.map kt et)) (s:P.underlying kt=some d) (p:MapKept.IsKey d k) (h:FK w M d S) (i:∀v,¬S k v):
  ∃w',(Instr.mapUpdate t (.map (some M)) k u).run P w= .ok () w' ∧FK w' M d (fun q v' =>S q v' ∨(q=k∧v' =u))∧w.grownBy w' (some M)∧w'.heap.size=w.heap.size:=by
 obtain ⟨A,c,l,H⟩:=h
 obtain ⟨D,F⟩|⟨j,e, -,J,o⟩:=MapKept.findNow_spec p A.toList 0 H.key
 ·refine ⟨{w with heap:=w.heap.setIfInBounds M (.map (A.push {key:=k,val:=u,born:=c}) (c+1))}, ?_,⟨_,_,(MapKept.heap_set l).1,⟨fun x f=> ?_,fun q v' => ?_,fun x f=> ?_, ?_, ?_⟩⟩,⟨rfl,rfl,rfl,by simp,fun b _ m=>(MapKept.heap_set l).2 b (fun e=>m (by rw [e]))⟩,by simp⟩
  ·unfold Instr.mapUpdate
   simp only [Sem.run_bind,run_underlying G,Result.andThen,MapKept.run_getObj_map l,MapKept.run_checkKey s p,MapKept.run_findKey s D,MapKept.run_setObj_map _ l]
  ·rw [Array.toList_push,mem_append] at f
   rcases f with f|f
   ·exact H.key x f
   ·rw [List.mem_singleton.1 f];exact p
  ·rw [Array.toList_push]
   constructor
   ·rintro ⟨x,f,rfl,rfl⟩
    rcases List.mem_append.1 f with f|f
    ·exact .inl ((H.all _ _).1 ⟨x,f,rfl,rfl⟩)
    ·rw [List.mem_singleton.1 f];exact .inr ⟨rfl,rfl⟩
   ·rintro (h|⟨rfl,rfl⟩)
    ·obtain ⟨x,f,C,B⟩:=(H.all _ _).2 h
     exact ⟨x,mem_append_left _ f,C,B⟩
    ·exact ⟨_,mem_append_right _ (List.mem_singleton.2 rfl),rfl,rfl⟩
  ·rw [Array.toList_push,mem_append] at f
   rcases f with f|f
   ·exact Nat.lt_succ_of_lt (H.old x f)
   ·rw [List.mem_singleton.1 f];exact Nat.lt_succ_self _
  ·rw [Array.toList_push,map_append]
   refine List.nodup_append.2 ⟨H.bn,by simp, ?_⟩
   rintro a r b g rfl
   obtain ⟨x,f,rfl⟩:=List.mem_map.1 r
   have:=H.old x f
   rw [map_cons,map_nil,mem_singleton] at g
   simp only at g
   omega
  ·rw [Array.toList_push,map_append]
   refine List.nodup_append.2 ⟨H.kn,by simp, ?_⟩
   rintro a r b g rfl
   obtain ⟨x,f,rfl⟩:=List.mem_map.1 r
   rw [map_cons,map_nil,mem_singleton] at g
   exact i x.val ((H.all _ _).1 ⟨x,f,g,rfl⟩)
 ·exact absurd ((H.all k e.val).1 ⟨e,mem_of_getElem? J,o,rfl⟩) (i _)
theorem Db (g:P.underlying t=some (.map kt et)) (f:P.underlying kt=some d) (o:ev E x=some (.map (some M))) (j:ev E y=some k) (p:ev E z=some u) (i:MapKept.IsKey d k) (h:FK w M d S) (b:∀v,¬S k v):
  Xu P n E (.insert t x y z) ty w (fun w' =>FK w' M d (fun e v' =>S e v' ∨(e=k∧v' =u))∧w.grownBy w' (some M)∧w'.heap.size=w.heap.size):=fun a c=>by
 obtain ⟨w',l,m⟩:=JK (P:=P) (u:=u) g f i h b
 exact ⟨w',fun _ _ _ _=>by simp [execOp,c.ev o,c.ev j,c.ev p,l],m⟩
theorem Gz (g:P.underlying t=some (.map kt et)) (f:P.underlying kt=some d) (o:ev E x=some (.map (some M))) (j:ev E y=some k) (p:ev E z=some u) (i:MapKept.IsKey d k) (h:FK w M d S) (b:∀v,¬S k v):
  Xu P n E (.mapUpdate t x y z) ty w (fun w' =>FK w' M d (fun e v' =>S e v' ∨(e=k∧v' =u))∧w.grownBy w' (some M)∧w'.heap.size=w.heap.size):=fun a c=>by
 obtain ⟨w',l,m⟩:=JK (P:=P) (u:=u) g f i h b
 exact ⟨w',fun _ _ _ _=>by simp [execOp,c.ev o,c.ev j,c.ev p,l],m⟩
end
def LB (w:World) (I M:Nat) (d:TypeDesc) (S Dn:Value→Value→Prop):Prop:=
 ∃es c seen,w.heap[I]? =some (.mapIter (some M) c seen c)∧w.heap[M]? =some (.map es c)∧UR d S es c∧∀k v,Dn k v↔∃x ∈ es.toList,x.born ∈ seen∧x.key=k∧x.val=v
def UO (w:World) (I M:Nat) (k v:Value):Prop:=∃(es:Array MapEntry) (c:Nat) (seen:Array Nat) (e:MapEntry),w.heap[I]? =some (.mapIter (some M) c (seen.push e.born) c)∧w.heap[M]? =some (.map es c)∧e ∈ es.toList∧(es.toList.map (·.born)).Nodup∧e.key=k∧e.val=v
theorem LB.ne {w:World} {I M:Nat} {d:TypeDesc} {S Dn:Value→Value→Prop} (h:LB w I M d S Dn):I≠M:=by
 obtain ⟨g,c,b,a,f, -⟩:=h
 intro e
 rw [e,f] at a
 cases a
theorem LB.lt {w:World} {I M:Nat} {d:TypeDesc} {S Dn:Value→Value→Prop} (h:LB w I M d S Dn):I<w.heap.size∧M<w.heap.size:=by
 obtain ⟨f,c,a,e,b, -⟩:=h
 exact ⟨(Array.getElem?_eq_some_iff.1 e).1,(Array.getElem?_eq_some_iff.1 b).1⟩
theorem LB.map {w:World} {I M:Nat} {d:TypeDesc} {S Dn:Value→Value→Prop} (h:LB w I M d S Dn):FK w M d S:=by
 obtain ⟨e,c,a, -,b,f, -⟩:=h
 exact ⟨e,c,b,f⟩
theorem LB.keep {w w' :World} {I M:Nat} {d:TypeDesc} {S Dn:Value→Value→Prop} (h:LB w I M d S Dn) (e:w'.heap[I]? =w.heap[I]?) (b:w'.heap[M]? =w.heap[M]?):LB w' I M d S Dn:=by
 obtain ⟨i,c,a,g,f,j⟩:=h
 exact ⟨i,c,a,by rw [e];exact g,by rw [b];exact f,j⟩
theorem LB.bs {w w' :World} {I M:Nat} {d:TypeDesc} {S Dn:Value→Value→Prop} (h:LB w I M d S Dn) (g:Below w.heap.size w w'):LB w' I M d S Dn:=h.keep (g.block I h.lt.1) (g.block M h.lt.2)
theorem LB.congr {w:World} {I M:Nat} {d:TypeDesc} {S Dn a:Value→Value→Prop} (h:LB w I M d S Dn) (e:∀k v,Dn k v↔a k v):LB w I M d S a:=by
 obtain ⟨j,c,b,i,f,l,g⟩:=h
 exact ⟨j,c,b,i,f,l,fun k v=>(e k v).symm.trans (g k v)⟩
section
variable {P : Program} {n : Nat} {E : BZ} {w : World} {ty : TypeId} {t kt et : TypeId} {d : TypeDesc} {I M : Nat} {S Dn : Value → Value → Prop} {x y z : Operand} {k u : Value}
theorem Xw.rangeM (e:P.underlying t=some (.map kt et)) (l:ev E x=some (.map (some M))) (h:FK w M d S):
  Xw P n E (.range t x) ty w (fun v w' =>v= .pointer (some ⟨w.heap.size,0,none⟩)∧LB w' w.heap.size M d S (fun _ _=>False)∧Below w.heap.size w w' ∧w'.heap.size=w.heap.size+1):=fun a f=>by
 have i:=h.lt
 obtain ⟨j,c,b,g⟩:=h
 refine ⟨.pointer (some ⟨w.heap.size,0,none⟩),w.alloc (.mapIter (some M) c #[] c),fun _ _ _ _=> ?_,rfl,⟨j,c, #[],heap_alloc_new w _, ?_,g,by simp⟩,DR w _,by simp⟩
 ·have:(Instr.range t (.map (some M))).run P w= .ok (.pointer (some ⟨w.heap.size,0,none⟩)) (w.alloc (.mapIter (some M) c #[] c)):=by
   unfold Instr.range
   simp only [Sem.run_bind,run_underlying e,Result.andThen,MapKept.run_getObj_map b]
   rfl
  simp [execOp,f.ev l,this]
 ·rw [(DR w _).block M i];exact b
theorem Xw.nextM (R:ev E x=some (.pointer (some ⟨I,0,none⟩))) (h:LB w I M d S Dn):
  Xw P n E (.next x false) ty w (fun v w' =>(v= .tuple #[.bool false]∧w' =w∧∀k v,S k v→Dn k v)∨∃k u,v= .tuple #[.bool true,k,u]∧S k u∧(∀v,¬Dn k v)∧LB w' I M d S (fun K v' =>Dn K v' ∨(K=k∧v' =u))∧UO w' I M k u∧w.grownBy w' (some I)∧w'.heap.size=w.heap.size):=fun a T=>by
 have G:=h.ne
 obtain ⟨r,c,f,Q,N,o,D⟩:=h
 rcases run_next_at (P:=P) w ty I M c c f r c Q N o.old (AX _) with ⟨A,hr⟩|⟨e,he,w1,hw1,hr⟩
 ·refine ⟨_,w,fun _ _ _ _=>by simp [execOp,T.ev R,hr], .inl ⟨rfl,rfl,fun k v V=> ?_⟩⟩
  obtain ⟨q,j,m,F⟩:=(o.all k v).2 V
  refine (D k v).2 ⟨q,j, ?_,m,F⟩
  have A:leftOf r f= #[]:=Array.eq_empty_of_size_eq_zero A
  unfold leftOf at A
  rw [Array.filter_eq_empty_iff] at A
  have:=A q (Array.mem_toList_iff.1 j)
  simpa using this
 ·have p:w1.heap=w.heap∧w1.os=w.os∧w1.tape=w.tape∧w1.output=w.output:=by rcases hw1 with rfl|rfl<;>exact ⟨rfl,rfl,rfl,rfl⟩
  have U:I<w.heap.size:=(Array.getElem?_eq_some_iff.1 Q).1
  unfold leftOf at he
  rw [Array.mem_toList_iff,Array.mem_filter] at he
  have i:e ∈ r.toList:=Array.mem_toList_iff.2 he.1
  have L:e.born ∉ f:=by simpa using he.2
  have s:(ChangeMaps.setBlock w1 I (.mapIter (some M) c (f.push e.born) c)).heap[I]? =some (.mapIter (some M) c (f.push e.born) c):=by
   simp [ChangeMaps.setBlock,p.1,U]
  have l:∀b,b≠I→(ChangeMaps.setBlock w1 I (.mapIter (some M) c (f.push e.born) c)).heap[b]? =w.heap[b]? :=fun b H=>by
   simp [ChangeMaps.setBlock,p.1,Ne.symm H]
  have B:(ChangeMaps.setBlock w1 I (.mapIter (some M) c (f.push e.born) c)).heap[M]? =some (.map r c):=by rw [l M G.symm];exact N
  have C:(ChangeMaps.setBlock w1 I (.mapIter (some M) c (f.push e.born) c)).heap.size=w.heap.size:=by simp [ChangeMaps.setBlock,p.1]
  refine ⟨_,_,fun _ _ _ _=>by simp [execOp,T.ev R,hr], .inr ⟨e.key,e.val,rfl,(o.all _ _).1 ⟨e,i,rfl,rfl⟩,fun v J=> ?_,⟨r,c,_,s,B,o,fun K v' => ?_⟩,⟨r,c,f,e,s,B,i,o.bn,rfl,rfl⟩,⟨?_, ?_, ?_,by rw [C];exact AX _,fun b _ H=>l b fun e=>H (by rw [e])⟩,C⟩⟩
  ·obtain ⟨q,j,g,m, -⟩:=(D _ _).1 J
   have:q=e:=Ln o.kn j i m
   rw [this] at g
   exact L g
  ·constructor
   ·rintro (J|⟨rfl,rfl⟩)
    ·obtain ⟨q,j,g,m⟩:=(D _ _).1 J
     exact ⟨q,j,by simp [g],m⟩
    ·exact ⟨e,i,by simp,rfl,rfl⟩
   ·rintro ⟨q,j,g,m,F⟩
    rcases Array.mem_push.1 g with g|g
    ·exact .inl ((D _ _).2 ⟨q,j,g,m,F⟩)
    ·right
     have:q=e:=Ln o.bn j i g
     rw [← this]
     exact ⟨m.symm,F.symm⟩
  ·exact p.2.1
  ·exact p.2.2.1
  ·exact p.2.2.2
theorem Ex.entryM (o:ev E x=some (.pointer (some ⟨I,0,none⟩))) (h:UO w I M k u):Ex P n E (.entry x) ty w (.tuple #[k,u]):=fun a f _ _ _ _=>by
 obtain ⟨l,c,b,e,j,g,m,i,rfl,rfl⟩:=h
 have:=run_entry_at (P:=P) w I M c b l c e j g m i
 simp [execOp,f.ev o,this]
end
end Go.Dd

namespace Go.Proofs.YtblbopcaflaldaaGreatDoor
open Go Go.Dd Go.RowKit List Go.Proofs.Tryz
set_option maxRecDepth 100000
-- dd: text
structure Rw where
 k:Nat
 word:List UInt8
 least:Nat
 most:Nat
 nxt:List UInt8
 last:List UInt8
 deriving DecidableEq
def Rw.cells (r:Rw):List Value:=[st r.word, .int .i64 (r.least:Int), .int .i64 (r.most:Int),st r.nxt,st r.last]
def HI:List Rw:=[⟨1,[105,110,112,117,116],0,0,[],[]⟩,⟨2,[119,101,105,103,104,116],0,0,[],[]⟩,⟨3,[97,100,100],2,2,[],[]⟩,⟨4,[109,117,108],2,2,[],[]⟩,⟨7,[112,114,111,100,117,99,116],2,2,[],[]⟩,⟨5,[114,101,108,117],1,1,[],[]⟩,⟨6,[115,104,105,102,116],1,1,[98,121],[]⟩,⟨8,[119,105,110,100,111,119],2,2,[115,116,101,112],[112,97,100]⟩,⟨9,[112,111,111,108],1,1,[119,105,100,101],[]⟩,⟨10,[115,104,97,112,101],1,1,[116,111],[]⟩,⟨11,[116,117,114,110],1,1,[116,111],[]⟩,⟨12,[106,111,105,110],1,65536,[97,108,111,110,103],[]⟩,⟨13,[115,117,109],1,1,[97,108,111,110,103],[]⟩]
def RD (k v:Value):Prop:=∃r ∈ HI,k= .int .u8 (r.k:Int)∧v= .agg r.cells.toArray
set_option maxRecDepth 4000 in
theorem Qz (w:World):AJ prog 118 [] w (fun r w' =>Below w.heap.size w w' ∧∃M,r= .map (some M)∧w.heap.size≤M∧FK w' M (.int .u8) RD):=by
 refine Bd (n:=16) func118 O<|Ah<|Ab O<|Bg<|Bq (Fx (d:= .int .u8)) O ?_
 rintro _ u ⟨rfl,b,c,f⟩
 obtain ⟨M,g⟩:∃M,M=w.heap.size:=⟨_,rfl⟩
 rw [← g] at b ⊢
 have e:M<u.heap.size:=by omega
 refine Aa (Cc (vs:=[(0,st [105,110,112,117,116])]) (cs:=Rw.cells ⟨1,[105,110,112,117,116],0,0,[],[]⟩) O (by kernel_rfl)) O<|Br (Db (d:= .int .u8) underlying122 CJ O O O O b (by intro v h;simp at h)) ?_
 rintro p ⟨b,a,f⟩
 have c:=c.grown a (by omega) (by rintro _ ⟨⟩;omega)
 have e:M<p.heap.size:=by omega
 clear a
 refine Aa (Cc (vs:=[(0,st [119,101,105,103,104,116])]) (cs:=Rw.cells ⟨2,[119,101,105,103,104,116],0,0,[],[]⟩) O (by kernel_rfl)) O<|Br (Db (d:= .int .u8) underlying122 CJ O O O O b (by intro v h;simp at h)) ?_
 rintro z ⟨b,a,f⟩
 have c:=c.grown a (by omega) (by rintro _ ⟨⟩;omega)
 have e:M<z.heap.size:=by omega
 clear a
 refine Aa (Cc (vs:=[(0,st [97,100,100]),(1, .int .i64 2),(2, .int .i64 2),(3,st []),(4,st [])]) (cs:=Rw.cells ⟨3,[97,100,100],2,2,[],[]⟩) O (by kernel_rfl)) O<|Br (Db (d:= .int .u8) underlying122 CJ O O O O b (by intro v h;simp at h)) ?_
 rintro q ⟨b,a,f⟩
 have c:=c.grown a (by omega) (by rintro _ ⟨⟩;omega)
 have e:M<q.heap.size:=by omega
 clear a
 refine Aa (Cc (vs:=[(0,st [109,117,108]),(1, .int .i64 2),(2, .int .i64 2),(3,st []),(4,st [])]) (cs:=Rw.cells ⟨4,[109,117,108],2,2,[],[]⟩) O (by kernel_rfl)) O<|Br (Db (d:= .int .u8) underlying122 CJ O O O O b (by intro v h;simp at h)) ?_
 rintro o ⟨b,a,f⟩
 have c:=c.grown a (by omega) (by rintro _ ⟨⟩;omega)
 have e:M<o.heap.size:=by omega
 clear a
 refine Aa (Cc (vs:=[(0,st [112,114,111,100,117,99,116]),(1, .int .i64 2),(2, .int .i64 2),(3,st []),(4,st [])]) (cs:=Rw.cells ⟨7,[112,114,111,100,117,99,116],2,2,[],[]⟩) O (by kernel_rfl)) O<|Br (Db (d:= .int .u8) underlying122 CJ O O O O b (by intro v h;simp at h)) ?_
 rintro A ⟨b,a,f⟩
 have c:=c.grown a (by omega) (by rintro _ ⟨⟩;omega)
 have e:M<A.heap.size:=by omega
 clear a
 refine Aa (Cc (vs:=[(0,st [114,101,108,117]),(1, .int .i64 1),(2, .int .i64 1),(3,st []),(4,st [])]) (cs:=Rw.cells ⟨5,[114,101,108,117],1,1,[],[]⟩) O (by kernel_rfl)) O<|Br (Db (d:= .int .u8) underlying122 CJ O O O O b (by intro v h;simp at h)) ?_
 rintro s ⟨b,a,f⟩
 have c:=c.grown a (by omega) (by rintro _ ⟨⟩;omega)
 have e:M<s.heap.size:=by omega
 clear a
 refine Aa (Cc (vs:=[(0,st [115,104,105,102,116]),(1, .int .i64 1),(2, .int .i64 1),(3,st [98,121]),(4,st [])]) (cs:=Rw.cells ⟨6,[115,104,105,102,116],1,1,[98,121],[]⟩) O (by kernel_rfl)) O<|Br (Db (d:= .int .u8) underlying122 CJ O O O O b (by intro v h;simp at h)) ?_
 rintro t ⟨b,a,f⟩
 have c:=c.grown a (by omega) (by rintro _ ⟨⟩;omega)
 have e:M<t.heap.size:=by omega
 clear a
 refine Aa (Cc (vs:=[(0,st [119,105,110,100,111,119]),(1, .int .i64 2),(2, .int .i64 2),(3,st [115,116,101,112]),(4,st [112,97,100])]) (cs:=Rw.cells ⟨8,[119,105,110,100,111,119],2,2,[115,116,101,112],[112,97,100]⟩) O (by kernel_rfl)) O<|Br (Db (d:= .int .u8) underlying122 CJ O O O O b (by intro v h;simp at h)) ?_
 rintro x ⟨b,a,f⟩
 have c:=c.grown a (by omega) (by rintro _ ⟨⟩;omega)
 have e:M<x.heap.size:=by omega
 clear a
 refine Aa (Cc (vs:=[(0,st [112,111,111,108]),(1, .int .i64 1),(2, .int .i64 1),(3,st [119,105,100,101]),(4,st [])]) (cs:=Rw.cells ⟨9,[112,111,111,108],1,1,[119,105,100,101],[]⟩) O (by kernel_rfl)) O<|Br (Db (d:= .int .u8) underlying122 CJ O O O O b (by intro v h;simp at h)) ?_
 rintro y ⟨b,a,f⟩
 have c:=c.grown a (by omega) (by rintro _ ⟨⟩;omega)
 have e:M<y.heap.size:=by omega
 clear a
 refine Aa (Cc (vs:=[(0,st [115,104,97,112,101]),(1, .int .i64 1),(2, .int .i64 1),(3,st [116,111]),(4,st [])]) (cs:=Rw.cells ⟨10,[115,104,97,112,101],1,1,[116,111],[]⟩) O (by kernel_rfl)) O<|Br (Db (d:= .int .u8) underlying122 CJ O O O O b (by intro v h;simp at h)) ?_
 rintro m ⟨b,a,f⟩
 have c:=c.grown a (by omega) (by rintro _ ⟨⟩;omega)
 have e:M<m.heap.size:=by omega
 clear a
 refine Aa (Cc (vs:=[(0,st [116,117,114,110]),(1, .int .i64 1),(2, .int .i64 1),(3,st [116,111]),(4,st [])]) (cs:=Rw.cells ⟨11,[116,117,114,110],1,1,[116,111],[]⟩) O (by kernel_rfl)) O<|Br (Db (d:= .int .u8) underlying122 CJ O O O O b (by intro v h;simp at h)) ?_
 rintro i ⟨b,a,f⟩
 have c:=c.grown a (by omega) (by rintro _ ⟨⟩;omega)
 have e:M<i.heap.size:=by omega
 clear a
 refine Aa (Cc (vs:=[(0,st [106,111,105,110]),(1, .int .i64 1),(2, .int .i64 65536),(3,st [97,108,111,110,103]),(4,st [])]) (cs:=Rw.cells ⟨12,[106,111,105,110],1,65536,[97,108,111,110,103],[]⟩) O (by kernel_rfl)) O<|Br (Db (d:= .int .u8) underlying122 CJ O O O O b (by intro v h;simp at h)) ?_
 rintro l ⟨b,a,f⟩
 have c:=c.grown a (by omega) (by rintro _ ⟨⟩;omega)
 have e:M<l.heap.size:=by omega
 clear a
 refine Aa (Cc (vs:=[(0,st [115,117,109]),(1, .int .i64 1),(2, .int .i64 1),(3,st [97,108,111,110,103]),(4,st [])]) (cs:=Rw.cells ⟨13,[115,117,109],1,1,[97,108,111,110,103],[]⟩) O (by kernel_rfl)) O<|Br (Db (d:= .int .u8) underlying122 CJ O O O O b (by intro v h;simp at h)) ?_
 rintro j ⟨b,a,f⟩
 have c:=c.grown a (by omega) (by rintro _ ⟨⟩;omega)
 have e:M<j.heap.size:=by omega
 clear a
 refine Ad O<|Ab O<|Ay<|Ax O O ?_
 refine ⟨by rw [g];exact c,M,rfl,by omega,b.congr fun k v=> ?_⟩
 unfold RD HI
 simp only [mem_cons,not_mem_nil,or_false,exists_eq_or_imp,exists_eq_left,false_or,or_assoc]
 rfl

-- dd: text
theorem H6 (v u:Value) (d:List (List UInt8)) (a:List Int) (W w:World) (Y:Jr W) (L:Below W.heap.size W w) (h:w.ownsRow W.heap.size 9 1 v d.length (d.map st)) (Q:∀w',Below W.heap.size W w' →w.grownBy w' v.ownBlock→CA (Value.int .i64) w' u a) (Z:∀n ∈ a, -9223372036854775808≤n∧n≤9223372036854775807) (hl:d.length+a.length≤1000000):
  AJ prog 119 [v,u] w (fun r w' =>Below W.heap.size W w' ∧w'.ownsRow W.heap.size 9 1 r (d++a.map Lib.itoa).length ((d++a.map Lib.itoa).map st)∧PE w w' v r):=by
 have X:=Q w L (Gu w v).g
 refine Bd (n:=20) func119 O<|Ah<|Ab O<|Bj<|Ad O<|Aa (Au AD O ‹_›) O ?_
 refine Ad O<|Aj<|Ar ?_
 refine Bo (S:=(Nat×Value)) (fun z=>[(0,z.2),(7,u),(8, .int .i64 (a.length:Int)),(9, .int .i64 (z.1:Int))]) (fun z w' =>z.1≤a.length∧Below W.heap.size W w' ∧w'.ownsRow W.heap.size 9 1 z.2 (d++(a.take z.1).map Lib.itoa).length ((d++(a.take z.1).map Lib.itoa).map st)∧PE w w' v z.2) (fun z=>a.length - z.1) ((0,v)) ⟨rfl,rfl,rfl,rfl,trivial⟩ ?_ ?_
 ·exact ⟨Nat.zero_le _,L,by simpa using h,Gu w v⟩
 rintro ⟨i,y⟩ s ⟨V,l,m,o⟩
 dsimp only at V m o ⊢
 have T:=Q s l o.g
 have K:Jr s:=Y.bs l
 have zB:=l.size
 refine Ah<|B1 O<|Aj<|Aq<|Ao O ?_ ?_
 ·intro g
  have c:i<a.length:=by have:=AC g;omega
  have H:=Z (a.getD i default) (by rw [getD_eq_getElem?_getD,getElem?_eq_getElem c];exact getElem_mem c)
  obtain ⟨x,t⟩:∃x,x=a.getD i default:=⟨_,rfl⟩
  rw [← t] at H
  have N:(a.take (i+1)).map Lib.itoa=(a.take i).map Lib.itoa++[Lib.itoa x]:=by
   rw [take_succ_eq_append_getElem c,map_append,t,getD_eq_getElem?_getD,getElem?_eq_getElem c];rfl
  refine B2<|Aq<|Ar<|Ah<|Aa (Bf AD O O ‹_› _ O (by omega)) O ?_
  refine Aa (Bl (AI _) O ‹_› (by omega)) O ?_
  refine Ab O<|Aj<|Bh<|Ad O<|Ad O ?_
  rw [← t]
  refine An O O (TN x s K H.1 H.2) ?_
  rintro _ w2 ⟨rfl,j⟩
  have z2:=j.size
  have I:=AH m j
  have J:=o.bs j
  refine Bq (C2 (vs:=[Lib.itoa x].map st) AS HU O O O O O) O ?_
  rintro q w3 ⟨F, -,f, -⟩
  have z3:=f.size
  have A:=AH I f
  have C:=J.bs f
  refine Bq (C5 (base:=W.heap.size) AS HU O (by decide) O O A (AG F) (HQ _) (by simp;omega) (by simp;omega) (by omega)) O ?_
  rintro M w4 ⟨k,p,B,G⟩
  have E:=C.app B (G.imp id fun e b (U:M.ownBlock=some b)=>Nat.le_of_eq (Option.some.inj (e.symm.trans U)))
  have D:=((l.trans (j.mono (by omega))).trans (f.mono (by omega))).trans p
  have R:(d++(a.take i).map Lib.itoa).map st++[Lib.itoa x].map st=(d++(a.take (i+1)).map Lib.itoa).map st:=by rw [N,← map_append,append_assoc]
  have e1:(d++(a.take i).map Lib.itoa).length+1=(d++(a.take (i+1)).map Lib.itoa).length:=by rw [N,← append_assoc,length_append (bs:=[_])];rfl
  rw [R,e1] at k
  refine Ab O<|Be<|Bi<|Cd<|B9 O (by omega)<|Ad O<|Be ?_
  exact Av (Bw ((i+1,M)) ⟨rfl,rfl,rfl,rfl,trivial⟩ (⟨c,D,k,E⟩) (by simp only;omega))
 intro g
 have c:i=a.length:=by have:=AB g;omega
 subst c
 rw [take_length] at m
 exact Bn<|Al<|Al<|Bc<|Ci<|Ad rfl<|Ab rfl<|Ay<|Ax rfl rfl<|⟨l,m,o⟩
def Rw.shaped (r:Rw):Bool:=decide (r.least=0)||decide (r.nxt=[116,111])
theorem LQ (r:Rw) (w:World):AJ prog 120 [.agg r.cells.toArray] w (fun v w' =>v= .bool r.shaped∧Below w.heap.size w w'):=by
 have a:=Below.refl w.heap.size w
 refine Bd (n:=11) func120 O<|Ah<|C0 (cs:=r.cells) O O O ?_
 rintro d w b c f -
 have a:=a.bs f
 refine Ab O<|Bg<|A0 underlying125 O (AV _)<|Aa (Ak (AI _) O ‹_› rfl) O ?_
 refine Aa (Cl O O) O<|Ad O ?_
 refine Bx 6 O ?_ ?_
 ·intro g
  have g:r.least=0:=by have:=AC g;omega
  refine Ae (dj:=6) O O O O<|Ae (dj:=6) O O O O<|Ae (dj:=6) O O O O<|Bu O<|Ab O<|Ay<|Ax O O ?_
  exact ⟨by unfold Rw.shaped;rw [decide_eq_true g];rfl,a⟩
 intro g
 have g:¬r.least=0:=fun e=>by have:=AB g;omega
 refine Af (dj:=6) O O<|A0 underlying125 O (Ic _)<|Af (dj:=6) O O<|Aa (Ak (EB _) O ‹_› rfl) O ?_
 refine Af (dj:=6) O O<|Aa (En O O) O<|B4 O<|Ab O<|Ay<|Ax O O ?_
 exact ⟨by unfold Rw.shaped;rw [decide_eq_false g];rfl,a⟩
end Go.Proofs.YtblbopcaflaldaaGreatDoor

namespace Go.Proofs.YtblbopcaflaldaaGreatDoor
open Go Go.Dd Go.RowKit List
set_option maxRecDepth 100000
def CD (k:BitVec 8):Rw:=(HI.find? fun r=>decide (r.k=k.toNat)).getD ⟨0,[],0,0,[],[]⟩
def EJ (r:Rw) (x:N5):List (List UInt8):=
 [r.word]++x.i.map Lib.itoa++(if r.nxt=[] then [] else [r.nxt])++(if r.shaped then x.s.map Lib.itoa else if r.nxt=[] then [] else [Lib.itoa x.n])++(if r.last=[] then [] else [r.last,Lib.itoa x.p])
def JY (x:N5):List UInt8:=Lib.join (EJ (CD x.k) x) [32]++[10]
def CZ (ls:List N5):List UInt8:=(ls.map JY).flatten
def G4 (ls:List N5):Int:=if (Hg ls).isSome then 0 else 1
def FZ (ls:List N5):List UInt8:=if (Hg ls).isSome then CZ ls else []
theorem Si:∀k:BitVec 8,(CT k).isSome=true→CD k ∈ HI∧((CD k).k:Int)=(k.toNat:Int):=by decide+kernel
theorem LW:∀r ∈ HI,∀q ∈ HI,r.k=q.k→r=q:=by decide+kernel
theorem Q3 {k:BitVec 8} (h:(CT k).isSome=true):RD (b8 k) (.agg (CD k).cells.toArray)∧∀v,RD (b8 k) v→v= .agg (CD k).cells.toArray:=by
 obtain ⟨a,d⟩:=Si k h
 refine ⟨⟨CD k,a,by rw [d],rfl⟩,fun v ⟨q,b,c,e⟩=> ?_⟩
 have:(k.toNat:Int)=(q.k:Int):=by injection c
 rw [e,LW (CD k) a q b (by omega)]
structure HZ (x:N5):Prop where
 kd:(CT x.k).isSome=true
 ii:∀j ∈ x.i,0≤j∧j≤65536
 ss:∀d ∈ x.s,0≤d∧d≤65536
 nn:0≤x.n∧x.n≤64
 pp:0≤x.p∧x.p≤64
 il:((CD x.k).least:Int)≤x.i.length∧x.i.length≤4
 sl:x.s.length≤4
 s0:(CD x.k).shaped=false→x.s=[]
 n0:((CD x.k).nxt=[]∨(CD x.k).shaped=true)→x.n=0
 p0:(CD x.k).last=[]→x.p=0
 im:(x.i.length:Int)≤(CD x.k).most
theorem Sw {s:List Int} (h:G6 s=true) (c:s.length≤4):∀d ∈ s,0≤d∧d≤65536:=fun d b=>by
 obtain ⟨j,a,rfl⟩:=List.mem_iff_getElem.1 b
 have:=IK h a
 rw [getD_eq_getElem?_getD,getElem?_eq_getElem a] at this
 simp only [Option.getD_some] at this
 omega
theorem Tt:∀k:BitVec 8,(match CT k with
  |some [a,b,c,d,e,f]=>decide (((CD k).least:Int)=a) && decide (b≤(CD k).most) && decide (b≤4) && decide (0≤c) && decide (d≤64) && decide (e≤64) && (decide (f=0)||(CD k).shaped) && (!(decide ((CD k).nxt=[])||(CD k).shaped)||(decide (c=0) && decide (d=0))) && (!decide ((CD k).last=[])||decide (e=0))
  |_=>true)=true:=by decide+kernel
theorem S0 {x:N5} (h:CQ x.k x.i x.s x.n x.p=true) (q:∀j ∈ x.i,0≤j∧j≤65536):HZ x:=by
 unfold CQ at h
 have l:=Tt x.k
 cases i:CT x.k with
 |none=>rw [i] at h;cases h
 |some r=>
  obtain ⟨_,_,s⟩:=Jw i
  obtain ⟨a,b,c,d,e,f,rfl⟩:=Nl s
  rw [i] at h l
  simp only [Bool.and_eq_true,Bool.or_eq_true,Bool.not_eq_true',decide_eq_true_eq] at l
  obtain ⟨⟨⟨⟨⟨⟨⟨⟨t,D⟩,v⟩,E⟩,y⟩,C⟩,n⟩,m⟩,o⟩:=l
  obtain ⟨⟨w,F,z,B,A,u⟩,g⟩:=HE.1 h
  refine ⟨by rw [i];rfl,q, ?_,by omega,by omega,by omega, ?_,fun hs=> ?_,fun k=> ?_,fun p=> ?_,by omega⟩
  ·split at g
   ·intro d i
    rw [eq_nil_of_length_eq_zero (AC g)] at i
    cases i
   ·split at g
    ·intro d i
     have:=((Shapes.ok_iff _).1 g).2.1 d i
     omega
    ·rw [I1,Bool.and_eq_true,decide_eq_true_eq] at g
     exact Sw g.2 g.1
  ·split at g
   ·have:=AC g
    omega
   ·split at g
    ·exact ((Shapes.ok_iff _).1 g).1.2
    ·rw [I1,Bool.and_eq_true,decide_eq_true_eq] at g
     exact g.1
  ·rcases n with e|e
   ·rw [if_pos e] at g
    exact eq_nil_of_length_eq_zero (AC g)
   ·rw [e] at hs;cases hs
  ·rcases m with e|e
   ·simp only [Bool.or_eq_false_iff,decide_eq_false_iff_not] at e
    rcases k with k|k
    ·exact absurd k e.1
    ·rw [e.2] at k;cases k
   ·omega
  ·rcases o with e|e
   ·exact absurd p (by simpa using e)
   ·omega

def GA (a:Nat) (s:List UInt8):Nat:=s.foldl (fun a c=>10*a+(c.toNat - 48)) a
def GM (s:List UInt8):Bool:=s.all fun c=>decide (48≤c.toNat) && decide (c.toNat≤57)
def CN (s:List UInt8):Option Int:=if (decide (1≤s.length) && decide (s.length≤9) && (decide (s.length=1)|| !decide (s.headD 0=48)) && GM s)=true then some (GA 0 s:Int) else none
theorem Jz {d:Nat} (h:d<10):(UInt8.ofNat (48+d)).toNat=48+d:=by
 rw [UInt8.toNat_ofNat'];omega
theorem Rr {c:UInt8} (h:48≤c.toNat∧c.toNat≤57):UInt8.ofNat (48+(c.toNat - 48))=c:=by
 apply UInt8.toNat_inj.1
 rw [Jz (by omega)]
 omega
theorem H8 (s:List UInt8) (c:UInt8):GA 0 (s++[c])=10*GA 0 s+(c.toNat - 48):=by simp [GA]
theorem ME (u:Nat):GM (Lib.decDigits u)=true∧GA 0 (Lib.decDigits u)=u∧(0<u→(Lib.decDigits u).headD 0≠48)∧Lib.decDigits u≠[]:=by
 induction u using Nat.strongRecOn with
 |_ u ih=>
  rw [Lib.decDigits]
  split
  ·rename_i h
   have e:=Jz h
   refine ⟨by simp only [GM,all_cons,all_nil,e];simp;omega,by simp only [GA,foldl_cons,List.foldl_nil,e];omega,fun i b=> ?_,by simp⟩
   have b:UInt8.ofNat (48+u)=48:=b
   rw [b] at e
   have e:48=48+u:=e
   omega
  ·rename_i h
   obtain ⟨c,f,d,g⟩:=ih (u / 10) (by omega)
   have e:=Jz (show u % 10<10 by omega)
   refine ⟨?_, ?_,fun _=> ?_,by simp⟩
   ·unfold GM at c ⊢
    rw [List.all_append,c,Bool.true_and,all_cons,all_nil,e];simp;omega
   ·rw [H8,f,e];omega
   ·cases hd:Lib.decDigits (u / 10) with
    |nil=>exact absurd hd g
    |cons a l=>rw [hd] at d;exact d (by omega)
theorem Rq:∀(n:Nat) (s:List UInt8),s.length=n→s≠[]→GM s=true→s.headD 0≠48→Lib.decDigits (GA 0 s)=s∧0<GA 0 s:=by
 intro n
 induction n with
 |zero=>intro s h d;exact absurd (eq_nil_of_length_eq_zero h) d
 |succ n ih=>
  intro s hs d b i
  obtain ⟨l,c,rfl⟩:∃l c,s=l++[c]:=⟨s.dropLast,s.getLast d,(List.dropLast_concat_getLast d).symm⟩
  have g:GM l=true∧48≤c.toNat∧c.toNat≤57:=by
   unfold GM at b ⊢
   rw [List.all_append,Bool.and_eq_true] at b
   refine ⟨b.1, ?_⟩
   have:=b.2
   simp only [all_cons,all_nil,Bool.and_true,Bool.and_eq_true,decide_eq_true_eq] at this
   exact this
  obtain ⟨o,k⟩:=g
  rw [H8]
  cases hl:l with
  |nil=>
   subst hl
   have p:c≠48:=i
   have:c.toNat≠48:=fun e=>p (UInt8.toNat_inj.1 e)
   rw [show GA 0 []=0 from rfl,Nat.mul_zero,Nat.zero_add,Lib.decDigits_one (by omega),Rr k]
   exact ⟨rfl,by omega⟩
  |cons a t=>
   have f:l≠[]:=by rw [hl];simp
   have j:l.headD 0≠48:=by rw [hl] at i ⊢;exact i
   obtain ⟨m,q⟩:=ih l (by simp at hs;omega) f o j
   rw [← hl,Lib.decDigits,dif_neg (by omega),show (10*GA 0 l+(c.toNat - 48)) / 10=GA 0 l by omega,show (10*GA 0 l+(c.toNat - 48)) % 10=c.toNat - 48 by omega,m,Rr k]
   exact ⟨rfl,by omega⟩
theorem KV {u:Nat} (h:(Lib.decDigits u).length≤9):u<1000000000:=by
 have a:=Lib.lt_pow_nDigits u
 rw [Lib.decDigits_length] at h
 have b:10 ^ Lib.nDigits u≤10 ^ 9:=Nat.pow_le_pow_right (by decide) h
 have:(10:Nat) ^ 9=1000000000:=by decide
 omega
theorem Ip {s:List UInt8} {n:Int}:CN s=some n↔∃u:Nat,n=(u:Int)∧Lib.decDigits u=s∧s.length≤9:=by
 unfold CN
 constructor
 ·intro h
  split at h
  ·rename_i g
   simp only [Bool.and_eq_true,Bool.or_eq_true,decide_eq_true_eq,Bool.not_eq_true',decide_eq_false_iff_not] at g
   obtain ⟨⟨⟨f,j⟩,b⟩,i⟩:=g
   refine ⟨GA 0 s,(Option.some.inj h).symm, ?_,j⟩
   have d:s≠[]:=fun e=>by rw [e] at f;exact absurd f (by decide)
   by_cases a:s.headD 0=48
   ·rcases b with b|b
    ·obtain ⟨c,rfl⟩:=List.length_eq_one_iff.1 b
     have a:c=48:=a
     subst a
     rw [show GA 0 [48]=0 from rfl,Lib.decDigits_one (by omega)]
     rfl
    ·exact absurd a b
   ·exact (Rq _ s rfl d i a).1
  ·cases h
 ·rintro ⟨u,rfl,rfl,k⟩
  obtain ⟨o,l,p,m⟩:=ME u
  rw [if_pos,l]
  simp only [Bool.and_eq_true,Bool.or_eq_true,decide_eq_true_eq,Bool.not_eq_true',decide_eq_false_iff_not]
  refine ⟨⟨⟨?_,k⟩, ?_⟩,o⟩
  ·exact List.length_pos_iff.2 m
  by_cases hu:u<10
  ·left;rw [Lib.decDigits_one hu];rfl
  ·exact .inr (p (by omega))
theorem Pd {n:Int} (h:0≤n∧n≤999999999):CN (Lib.itoa n)=some n:=by
 obtain ⟨u,rfl⟩:∃u:Nat,n=(u:Int):=⟨n.toNat,by omega⟩
 rw [Lib.itoa_nonneg]
 refine Ip.2 ⟨u,rfl,rfl, ?_⟩
 rw [Lib.decDigits_length]
 rcases Nat.lt_or_ge 9 (Lib.nDigits u) with a|a
 ·exfalso
  have c:10 ^ 9≤u:=by
   have:∀k u,k<Lib.nDigits u→1≤k→10 ^ k≤u:=by
    intro k
    induction k with
    |zero=>intro u _ h;omega
    |succ k ih=>
     intro u b _
     by_cases hu:u<10
     ·rw [Lib.nDigits_small hu] at b;omega
     ·rw [Lib.nDigits_big hu] at b
      by_cases hk0:k=0
      ·subst hk0;omega
      ·have:=ih (u / 10) (by omega) (by omega)
       rw [Nat.pow_succ];omega
   exact this 9 u a (by decide)
  have:(10:Nat) ^ 9=1000000000:=by decide
  omega
 ·exact a
theorem KO {s:List UInt8} {n:Int} (h:CN s=some n):Lib.itoa n=s∧0≤n∧n≤999999999:=by
 obtain ⟨u,rfl,rfl,a⟩:=Ip.1 h
 have:=KV a
 exact ⟨Lib.itoa_nonneg u,by omega,by omega⟩
theorem Q7 (M:Nat):∀(l r:List UInt8) (a:Nat),Lib.parseUintM M a (l++r)=match Lib.parseUintM M a l with
  | .ok v=>Lib.parseUintM M v r
  |x=>x
 |[],r,a=>by simp only [Lib.parseUintM,nil_append]
 |c::l,r,a=>by
  simp only [cons_append,Lib.parseUintM]
  split
  ·split
   ·rfl
   ·split
    ·rfl
    ·exact Q7 M l r _
  ·rfl
theorem Tu (u:Nat):u≤4294967295→Lib.parseUintM 4294967295 0 (Lib.decDigits u)= .ok u:=by
 have b:∀a d,d<10→a<1844674407370955162→a*10+d≤4294967295→Lib.parseUintM 4294967295 a [UInt8.ofNat (48+d)]= .ok (a*10+d):=by
  intro a d e g f
  unfold Lib.parseUintM
  rw [Jz e,if_pos (by omega),if_neg (by omega),if_neg (by omega)]
  unfold Lib.parseUintM
  rw [show 48+d - 48=d by omega]
 induction u using Nat.strongRecOn with
 |_ u ih=>
  intro h
  rw [Lib.decDigits]
  split
  ·rename_i c
   have:=b 0 u c (by omega) (by omega)
   rwa [show 0*10+u=u by omega] at this
  ·rename_i c
   rw [Q7,ih (u / 10) (by omega) (by omega)]
   simp only
   rw [b (u / 10) (u % 10) (by omega) (by omega) (by omega)]
   congr 1
   omega
theorem Pc (s:List UInt8):CN s=match Lib.parseUintB 32 s with
  | .ok u=>if s.length≤9∧Lib.decDigits u=s then some (u:Int) else none
  |_=>none:=by
 cases hn:CN s with
 |some n=>
  obtain ⟨u,rfl,rfl,a⟩:=Ip.1 hn
  have b:Lib.parseUintB 32 (Lib.decDigits u)= .ok u:=by
   unfold Lib.parseUintB
   rw [if_neg (ME u).2.2.2]
   exact Tu u (by have:=KV a;omega)
  rw [b]
  simp only
  simp [a]
 |none=>
  cases b:Lib.parseUintB 32 s with
  |ok u=>
   simp only
   rw [if_neg]
   rintro ⟨c,d⟩
   rw [Ip.2 ⟨u,rfl,d,c⟩] at hn
   cases hn
  |_=>rfl
def BT:Nat→List (List UInt8)→List Int×List (List UInt8)
 |0,l=>([],l)
 |_+1,[]=>([],[])
 |m+1,w::l=>match CN w with
  |some n=>(n::(BT m l).1,(BT m l).2)
  |none=>([],w::l)
theorem GG:∀(m:Nat) (l:List (List UInt8)),(BT m l).1.map Lib.itoa++(BT m l).2=l∧(BT m l).1.length≤m∧∀n ∈ (BT m l).1,0≤n∧n≤999999999
 |0,l=>⟨rfl,AX _,fun n a=>by cases a⟩
 |_+1,[]=>⟨rfl,Nat.zero_le _,fun n a=>by cases a⟩
 |m+1,w::l=>by
  cases h:CN w with
  |none=>simp only [BT,h];exact ⟨rfl,Nat.zero_le _,fun n a=>by cases a⟩
  |some n=>
   obtain ⟨e,g,f⟩:=GG m l
   obtain ⟨c,d⟩:=KO h
   simp only [BT,h]
   refine ⟨by rw [map_cons,cons_append,e,c],by rw [length_cons];omega,fun x b=> ?_⟩
   rcases List.mem_cons.1 b with rfl|b
   ·exact d
   ·exact f x b
def BP (s:List UInt8) (l:List (List UInt8)):Option (List (List UInt8)):=if s=[] then some l else match l with
 |[]=>none
 |x::r=>if x=s then some r else none
def LC (least most:Nat) (l:List (List UInt8)):Option (List Int×List (List UInt8)):=if (BT most l).1.length<least then none else some (BT most l)
def CM (s:List UInt8):BitVec 8:=((HI.find? fun r=>decide (r.word=s)).map fun r=>BitVec.ofNat 8 r.k).getD 0#8
def GH (r:Rw) (l:List (List UInt8)):Option (List Int×Int×List (List UInt8)):=if r.shaped=true then (LC 1 65536 l).map fun q=>(q.1,0,q.2) else if r.nxt=[] then some ([],0,l) else (LC 1 1 l).map fun q=>([],q.1.headD 0,q.2)
def GZ (r:Rw) (l:List (List UInt8)):Option (Int×List (List UInt8)):=if r.last=[] then some (0,l) else (BP r.last l).bind fun l5=>(LC 1 1 l5).map fun q=>(q.1.headD 0,q.2)
def CH (l:List (List UInt8)):Option PN:=
 if (CD (CM (l.headD []))).word=[] then none else
 (BP (CD (CM (l.headD []))).word l).bind fun l1=>(LC (CD (CM (l.headD []))).least (CD (CM (l.headD []))).most l1).bind fun q=>
 (BP (CD (CM (l.headD []))).nxt q.2).bind fun l3=>(GH (CD (CM (l.headD []))) l3).bind fun t=>(GZ (CD (CM (l.headD []))) t.2.2).bind fun e=>
 if e.2=[] then some (CM (l.headD []),q.1,t.1,t.2.1,e.1) else none
theorem FL {s:List UInt8} {l r:List (List UInt8)} (h:BP s l=some r):l=(if s=[] then [] else [s])++r:=by
 unfold BP at h
 split at h
 ·rename_i e;rw [if_pos e];exact Option.some.inj h
 ·rename_i e
  rw [if_neg e]
  split at h
  ·cases h
  ·split at h
   ·rename_i a;rw [a,Option.some.inj h];rfl
   ·cases h
theorem HH {a b:Nat} {l:List (List UInt8)} {q:List Int×List (List UInt8)} (h:LC a b l=some q):l=q.1.map Lib.itoa++q.2∧a≤q.1.length∧q.1.length≤b∧∀n ∈ q.1,0≤n∧n≤999999999:=by
 unfold LC at h
 split at h
 ·cases h
 ·rename_i e
  cases h
  obtain ⟨d,c,f⟩:=GG b l
  exact ⟨d.symm,by omega,c,f⟩
theorem Mf {l:List (List UInt8)} {q:List Int×List (List UInt8)} (h:LC 1 1 l=some q):l=[Lib.itoa (q.1.headD 0)]++q.2:=by
 obtain ⟨a,b,c, -⟩:=HH h
 obtain ⟨n,e⟩:=List.length_eq_one_iff.1 (show q.1.length=1 by omega)
 rw [a,e];rfl
theorem Mk {r:Rw} {l:List (List UInt8)} {t:List Int×Int×List (List UInt8)} (h:GH r l=some t):l=(if r.shaped then t.1.map Lib.itoa else if r.nxt=[] then [] else [Lib.itoa t.2.1])++t.2.2:=by
 unfold GH at h
 split at h
 ·rename_i e
  rw [if_pos e]
  obtain ⟨q,b,rfl⟩:=Option.map_eq_some_iff.1 h
  exact (HH b).1
 ·rename_i e
  rw [if_neg e]
  split at h
  ·rename_i a;rw [if_pos a];cases h;rfl
  ·rename_i a
   rw [if_neg a]
   obtain ⟨q,b,rfl⟩:=Option.map_eq_some_iff.1 h
   exact Mf b
theorem Rp {r:Rw} {l:List (List UInt8)} {e:Int×List (List UInt8)} (h:GZ r l=some e):l=(if r.last=[] then [] else [r.last,Lib.itoa e.1])++e.2:=by
 unfold GZ at h
 split at h
 ·rename_i a;rw [if_pos a];cases h;rfl
 ·rename_i a
  rw [if_neg a]
  obtain ⟨d,c,h⟩:=Option.bind_eq_some_iff.1 h
  obtain ⟨q,b,rfl⟩:=Option.map_eq_some_iff.1 h
  have:=FL c
  rw [if_neg a] at this
  rw [this,Mf b];rfl
theorem Pj {l:List (List UInt8)} {p:PN} (h:CH l=some p):EJ (CD p.1) (un p)=l:=by
 unfold CH at h
 obtain ⟨r,b⟩:∃r,r=CD (CM (l.headD [])):=⟨_,rfl⟩
 rw [← b] at h
 split at h
 ·cases h
 ·rename_i e
  obtain ⟨s,k,h⟩:=Option.bind_eq_some_iff.1 h
  obtain ⟨q,i,h⟩:=Option.bind_eq_some_iff.1 h
  obtain ⟨u,n,h⟩:=Option.bind_eq_some_iff.1 h
  obtain ⟨t,j,h⟩:=Option.bind_eq_some_iff.1 h
  obtain ⟨z,m,h⟩:=Option.bind_eq_some_iff.1 h
  split at h
  ·rename_i d
   cases h
   have a:=FL k
   rw [if_neg e] at a
   have f:=(HH i).1
   have g:=FL n
   have o:=Mk j
   have c:=Rp m
   rw [d,append_nil] at c
   show EJ (CD (CM (l.headD []))) _=l
   rw [← b,a,f,g,o,c]
   unfold EJ un
   simp only [append_assoc]
  ·cases h

-- dd: text
theorem Tg.bs {w w' :World} {b:Nat} {l:List UInt8} (h:Tg w b l) (g:Below w.heap.size w w'):Tg w' b l:=by
 have key:∀p,Lib.BuilderAtF 121 5 b b p (Lib.byteCells l) w→Lib.BuilderAtF 121 5 b b p (Lib.byteCells l) w' :=by
  rintro p ⟨e,v,d,i,f⟩
  have a:∀k o,w.heap[k]? =some o→w'.heap[k]? =some o:=fun k o c=>by rw [g.block k (Array.getElem?_eq_some_iff.1 c).1];exact c
  refine ⟨e,v,a _ _ d,i.kept (BU g none) ?_,f⟩
  cases v.ownBlock with
  |none=>exact .inl rfl
  |some b=>exact .inr (by simp)
 exact h.imp (key _) (key _)
theorem Ms (c:UInt8):∀xs:List (List UInt8),(Lib.join xs [c]).length≤(xs.map length).sum+xs.length
 |[]=>AX 0
 |x::xs=>by
  rw [Lib.join_cons,length_append]
  have:(Lib.joinTail [c] xs).length=(xs.map length).sum+xs.length:=by
   unfold Lib.joinTail
   induction xs with
   |nil=>rfl
   |cons y ys ih=>simp only [map_cons,flatten_cons,length_append,ih,List.sum_cons,length_cons,length_nil];omega
  simp only [map_cons,List.sum_cons,length_cons]
  omega
theorem Nj {m:Nat}:∀{xs:List (List UInt8)},(∀x ∈ xs,x.length≤m)→(xs.map length).sum≤m*xs.length
 |[],_=>Nat.zero_le _
 |x::xs,h=>by
  have b:=h x (by simp)
  have c:=Nj (xs:=xs) fun y a=>h y (by simp [a])
  simp only [map_cons,List.sum_cons,length_cons,Nat.mul_succ]
  omega
theorem Ts:∀k:BitVec 8,(CD k).word.length≤21∧(CD k).nxt.length≤21∧(CD k).last.length≤21:=by decide+kernel
theorem DZ {n:Int} (h:0≤n∧n≤65536):(Lib.itoa n).length≤21:=Lib.itoa_length_le n (by omega) (by omega)
theorem KL {x:N5} (h:HZ x):(EJ (CD x.k) x).length≤12∧∀y ∈ EJ (CD x.k) x,y.length≤21:=by
 obtain ⟨e,c,d⟩:=Ts x.k
 have g:=h.il.2
 have f:=h.sl
 unfold EJ
 constructor
 ·simp only [length_append,length_map,length_singleton]
  split<;>split<;>(try split)<;>simp<;>omega
 ·intro y a
  simp only [mem_append,mem_singleton] at a
  rcases a with (((rfl|a)|a)|a)|a
  ·exact e
  ·obtain ⟨n,b,rfl⟩:=List.mem_map.1 a
   exact DZ (h.ii n b)
  ·split at a
   ·cases a
   ·rw [List.mem_singleton.1 a];exact c
  ·split at a
   ·obtain ⟨n,b,rfl⟩:=List.mem_map.1 a
    exact DZ (h.ss n b)
   ·split at a
    ·cases a
    ·rw [List.mem_singleton.1 a];exact DZ ⟨h.nn.1,by have:=h.nn.2;omega⟩
  ·split at a
   ·cases a
   ·rcases List.mem_cons.1 a with rfl|a
    ·exact d
    ·rw [List.mem_singleton.1 a];exact DZ ⟨h.pp.1,by have:=h.pp.2;omega⟩
theorem KM {x:N5} (h:HZ x):(JY x).length≤300:=by
 obtain ⟨c,a⟩:=KL h
 have d:=Ms 32 (EJ (CD x.k) x)
 have b:=Nj a
 unfold JY
 rw [length_append]
 simp only [length_singleton]
 omega
theorem KA (a b:List N5):CZ (a++b)=CZ a++CZ b:=by simp [CZ]
theorem IF:∀{ls:List N5},(∀x ∈ ls,HZ x)→(CZ ls).length≤300*ls.length
 |[],_=>Nat.zero_le _
 |x::ls,h=>by
  have c:=KM (h x (by simp))
  have b:=IF (ls:=ls) fun y a=>h y (by simp [a])
  have e:CZ (x::ls)=JY x++CZ ls:=rfl
  rw [e,length_append,length_cons]
  omega
theorem Kj {ls:List N5} (h:(Hg ls).isSome=true):ls.length≤32∧∀x ∈ ls,HZ x:=by
 obtain ⟨b,hs⟩:=Option.isSome_iff_exists.1 h
 have c:=SA hs
 refine ⟨c, ?_⟩
 have k:EK [] ls=some b:=by
  unfold Hg at hs
  split at hs
  ·cases hs
  ·split at hs
   ·split at hs
    ·rename_i e _;cases hs;exact e
    ·cases hs
   ·cases hs
 have key:∀(l:List N5) (a:List (List Int)),(∃b,EK a l=some b)→a.length+l.length≤32→∀x ∈ l,HZ x:=by
  intro l
  induction l with
  |nil=>intro _ _ _ x d;cases d
  |cons y l ih=>
   rintro a ⟨b,h⟩ i x d
   unfold EK at h
   cases e:JD a y with
   |none=>rw [e] at h;cases h
   |some s=>
    rw [e] at h
    simp only [length_cons] at i
    rcases List.mem_cons.1 d with rfl|d
    ·unfold JD at e
     split at e
     ·rename_i f
      simp only [Bool.and_eq_true,Bool.not_eq_true'] at f
      refine S0 f.1.1 fun j g=> ?_
      have:=f.1.2
      unfold M0 at this
      have:=List.any_eq_false.1 this j g
      simp at this
      omega
     ·cases e
    ·exact ih (a++[s]) ⟨b,h⟩ (by rw [length_append,length_singleton];omega) x d
 exact key ls [] ⟨b,k⟩ (by simpa using c)

theorem FP (c:UInt8) (x y:List UInt8) (a:List (List UInt8)):Lib.join (x::y::a) [c]=x++c::Lib.join (y::a) [c]:=by
 rw [Lib.join_cons,Lib.join_cons]
 simp [Lib.joinTail]
theorem HF (c:UInt8) (x:List UInt8):Lib.join [x] [c]=x:=by
 rw [Lib.join_cons]
 simp [Lib.joinTail]
theorem IT {c:UInt8}:∀s:List UInt8,Lib.join (BQ c s) [c]=s
 |[]=>HF c []
 |b::l=>by
  have d:=IT (c:=c) l
  obtain ⟨y,a,e⟩:∃y a,BQ c l=y::a:=by
   cases h:BQ c l with
   |nil=>exact absurd h (Ha c l)
   |cons y a=>exact ⟨y,a,rfl⟩
  rw [e] at d
  unfold BQ
  rw [e]
  split
  ·rename_i f;rw [FP,d,f];rfl
  ·rw [Lib.join_cons] at d ⊢
   show (b::y)++_=b::l
   rw [cons_append]
   exact cngA (List.cons b) d
def HY (ls:List (List UInt8)):List UInt8:=(ls.map (·++[10])).flatten
theorem IS:∀(xs:List (List UInt8)) (x:List UInt8),Lib.join (x::xs) [10]++[10]=HY (x::xs)
 |[],x=>by rw [HF];simp [HY]
 |y::ys,x=>by
  have:=IS ys y
  rw [FP,append_assoc,cons_append,this]
  simp [HY]
def DX (s:List UInt8):List (List UInt8):=if (BQ 10 s).getLastD []=[] then (BQ 10 s).dropLast else BQ 10 s
theorem N2 (s:List UInt8):HY (DX s)=s∨HY (DX s)=s++[10]:=by
 have d:=IT (c:=10) s
 have b:=Ha 10 s
 unfold DX
 split
 ·rename_i e
  left
  obtain ⟨l,x,g⟩:∃l x,BQ 10 s=l++[x]:=⟨_,_,(List.dropLast_concat_getLast b).symm⟩
  rw [g] at e d ⊢
  have f:x=[]:=by simpa [List.getLastD_eq_getLast?] using e
  subst f
  rw [List.dropLast_concat,← d]
  cases l with
  |nil=>rfl
  |cons y a=>
   rw [← IS]
   have:∀(a:List (List UInt8)) (y:List UInt8),Lib.join (y::(a++[[]])) [10]=Lib.join (y::a) [10]++[10]:=by
    intro a
    induction a with
    |nil=>intro y;rw [nil_append,FP,HF,HF]
    |cons z zs ih=>intro y;rw [cons_append,FP,ih,FP,append_assoc,cons_append]
   exact (this a y).symm
 ·right
  cases hc:BQ 10 s with
  |nil=>exact absurd hc b
  |cons y a=>rw [hc] at d;rw [← IS,d]
def EP:Nat→List (List UInt8)→Nat ⊕ List PN
 |_,[]=> .inr []
 |i,t::ts=>if 32≤i then .inl i else match CH (BQ 32 t) with
  |none=> .inl i
  |some p=>match EP (i+1) ts with
   | .inl j=> .inl j
   | .inr ns=> .inr (p::ns)
def Hs (s:List UInt8):Int:=if 65536<s.length then 3 else match EP 0 (DX s) with
 | .inl _=>4
 | .inr ns=>if (NG ns).isSome then 0 else 1
def Jp (s:List UInt8):Int:=if 65536<s.length then 0 else match EP 0 (DX s) with
 | .inl i=>(i:Int)
 | .inr _=>0
def GW (s:List UInt8):List PN:=if 65536<s.length then [] else match EP 0 (DX s) with
 | .inl _=>[]
 | .inr ns=>if (NG ns).isSome then ns else []
theorem QB {c:List (List UInt8)} {i:Nat} {b:List PN} {t:List UInt8} {a:List (List UInt8)} {p:PN} (h:EP 0 c=match EP i (t::a) with
   | .inl j=> .inl j
   | .inr ns=> .inr (b++ns)) (e:i<32) (d:CH (BQ 32 t)=some p):EP 0 c=match EP (i+1) a with
   | .inl j=> .inl j
   | .inr ns=> .inr (b++[p]++ns):=by
 rw [h,EP,if_neg (by omega),d]
 simp only
 cases EP (i+1) a with
 |inl j=>rfl
 |inr ns=>simp
theorem T1 {d:List (List UInt8)} {i:Nat} {c:List PN} {t:List UInt8} {a:List (List UInt8)} (h:EP 0 d=match EP i (t::a) with
   | .inl j=> .inl j
   | .inr ns=> .inr (c++ns)) (b:32≤i∨CH (BQ 32 t)=none):EP 0 d= .inl i:=by
 rw [h,EP]
 rcases Nat.lt_or_ge i 32 with e|e
 ·rw [if_neg (by omega)]
  rcases b with b|b
  ·omega
  ·rw [b]
 ·rw [if_pos e]
def HO (x:N5):List UInt8:=Lib.join (EJ (CD x.k) x) [32]
theorem OQ (ls:List N5):CZ ls=HY (ls.map HO):=by
 unfold CZ HY
 rw [map_map]
 rfl
theorem KK:∀(a:List (List UInt8)) (i:Nat) (b:List PN),EP i a= .inr b→a=(b.map un).map HO
 |[],_,b,h=>by cases h;rfl
 |t::a,i,b,h=>by
  rw [EP] at h
  split at h
  ·cases h
  ·cases hp:CH (BQ 32 t) with
   |none=>rw [hp] at h;cases h
   |some p=>
    rw [hp] at h
    simp only at h
    cases hr:EP (i+1) a with
    |inl j=>rw [hr] at h;cases h
    |inr ns2=>
     rw [hr] at h
     cases h
     have e:HO (un p)=t:=by
      unfold HO
      rw [show (un p).k=p.1 from rfl,Pj hp,IT]
     rw [map_cons,map_cons,e,← KK a (i+1) ns2 hr]
theorem Na {s:List UInt8} (h:Hs s=0):(NG (GW s)).isSome=true∧(CZ ((GW s).map un)=s∨CZ ((GW s).map un)=s++[10]):=by
 unfold Hs at h
 unfold GW
 split at h
 ·cases h
 ·rename_i a
  rw [if_neg a]
  cases hp:EP 0 (DX s) with
  |inl i=>rw [hp] at h;cases h
  |inr ns=>
   rw [hp] at h
   simp only at h ⊢
   split at h
   ·rename_i g
    rw [if_pos g]
    refine ⟨g, ?_⟩
    rw [OQ,← KK _ 0 ns hp]
    exact N2 s
   ·cases h
theorem Su {s:List UInt8} (h:Hs s≠0):GW s=[]:=by
 unfold Hs at h
 unfold GW
 split
 ·rfl
 ·rename_i a
  rw [if_neg a] at h
  cases hp:EP 0 (DX s) with
  |inl i=>rfl
  |inr ns=>
   rw [hp] at h
   simp only at h ⊢
   split at h
   ·exact absurd rfl h
   ·rename_i g;rw [if_neg g]
end Go.Proofs.YtblbopcaflaldaaGreatDoor

namespace Go.Proofs.YtblbopcaflaldaaGreatDoor
open Go Go.Dd Go.RowKit Go.Proofs.Tryz
open List hiding range
set_option maxRecDepth 100000
-- dd: text
theorem Sd (i:Nat) (h:i<100) (w:World):AJ prog 278 [.int .i64 (i:Int)] w (fun r w' =>r=st (Lib.decDigits i)∧w' =w):=
 GY func278 (by kernel_rfl) (by kernel_rfl) ((Eb i h w).mono fun e w' ⟨a,b⟩=>⟨_,a,rfl,b⟩)
theorem Mh (u:Nat) (a:1≤u) (b:u<18446744073709551616) (w:World) (h:Jr w):AJ prog 279 [.int .u64 (u:Int)] w (fun r w' =>r= .int .i64 (Lib.nDigits u:Int)∧w' =w):=
 GY func279 (by kernel_rfl) (by kernel_rfl) ((D6 u a b w h.tab).mono fun e w' ⟨a,b⟩=>⟨_,a,rfl,b⟩)
def MB (b:UInt8):Value:= .int .u8 (b.toNat:Int)
theorem Lu {w:World} {g n:Nat} (d:Array UInt8):w.grownBy ((Sort.putRow MB w g 0 d).drewN n) (some g):=by
 refine ⟨rfl,rfl,rfl,by show w.heap.size≤(Sort.putRow MB w g 0 d).heap.size;simp,fun k b a=> ?_⟩
 have:g≠k:=fun e=>a (by rw [e])
 show (Sort.putRow MB w g 0 d).heap[k]? =_
 simp [Sort.putRow,Sort.mapBlock,Array.getElem?_modify,this]
theorem NR (b u:Nat) (T:TypeId) (cs:List Value) (w:World) (k:AN w b T cs) (t:∀j,j<Lib.nDigits u→cs[j]? =some (.int .u8 0)) (A:u<1000000000000) (v:Lib.nDigits u≤24):
  AJ prog 280 [.slice (some ⟨b,0,none⟩) (Lib.nDigits u) 24, .int .u64 (u:Int)] w (fun r w' =>w.grownBy w' (some b)∧∃l,CA b8 w' (.slice (some ⟨b,0,none⟩) (Lib.nDigits u) 24) l∧l.map UInt8.ofBitVec=Lib.decDigits u):=by
 have m:Sort.Holds MB w b 0 (Array.replicate (Lib.nDigits u) (0:UInt8)):=fun j d=>by
  have g:j<Lib.nDigits u:=by simpa using d
  refine ⟨?_, ?_⟩
  ·rw [Nat.zero_add,k.cell,t j g,getElem!_pos _ j d]
   simp [MB]
  ·have i:w.heap[b]? =some (.cells cs.toArray T (0,0)):=k
   simp [World.frozen?,i]
 have hs:(Array.replicate (Lib.nDigits u) (0:UInt8)).size=Lib.nDigits u:=by simp
 have p:=D0 b 0 24 u (Array.replicate (Lib.nDigits u) (0:UInt8)) w m (by rw [hs];exact Lib.lt_pow_nDigits u) (by omega) (by rw [hs];omega)
 rw [hs] at p
 refine GY func280 (by kernel_rfl) (by kernel_rfl) (p.mono ?_)
 rintro e w' ⟨y,n,v',c,rfl,f⟩
 have q:c.toList=Lib.decDigits u:=by
  refine ext_getElem (by rw [Array.length_toList,f.size,Lib.decDigits_length]) fun j z s=> ?_
  rw [Lib.row_is_numeral f j s,Array.getElem_toList,getElem!_pos]
 refine ⟨_,y,Lu c,c.toList.map UInt8.toBitVec,⟨by rw [length_map,Nat.mul_one],some ⟨b,0,none⟩,24, ?_,by rw [length_map,Array.length_toList,f.size];exact v,by decide,(fun h=>by cases h), ?_⟩, ?_⟩
 ·rw [length_map,Array.length_toList,f.size]
 ·rintro a ⟨⟩ j x o
  have d:j<c.size:=by
   have:=(List.getElem?_eq_some_iff.1 o).1
   simpa using this
  have:=Sort.cell?_putRow MB w b 0 _ c m (by rw [f.size,hs]) j d
  rw [add_lit]
  show (Sort.putRow MB w b 0 c).cell? _=_
  rw [this,← o,getElem!_pos c j d]
  simp [MB,d]
 ·rw [map_map,← q]
  refine (map_congr_left fun a _=> ?_).trans (List.map_id _)
  rfl
theorem TP:He prog 324 [.int .u8 0, .int .u8 0, .int .u8 0, .int .u8 0, .int .u8 0, .int .u8 0, .int .u8 0, .int .u8 0, .int .u8 0, .int .u8 0, .int .u8 0, .int .u8 0, .int .u8 0, .int .u8 0, .int .u8 0, .int .u8 0, .int .u8 0, .int .u8 0, .int .u8 0, .int .u8 0, .int .u8 0, .int .u8 0, .int .u8 0, .int .u8 0] 24:=⟨⟨_,(show Tryz.prog.info? 324=some Tryz.t324 by kernel_rfl),rfl,rfl,_,rfl,rfl⟩⟩
theorem JR {u:Nat} (h:u<1000000000000):Lib.nDigits u≤24:=by
 have:=Lib.itoa_length_le (u:Int) (by omega) (by omega)
 rw [Lib.itoa_nonneg,Lib.decDigits_length] at this
 omega
theorem Ps (u:Nat) (w:World) (h:Jr w) (k:u<1000000000000):AJ prog 289 [.int .u64 (u:Int), .int .i64 10] w (fun r w' =>r=st (Lib.decDigits u)∧Below w.heap.size w w'):=by
 have b:=Below.refl w.heap.size w
 refine Bd (n:=32) func289 O<|Ah<|Ab O<|Bj<|Ad O<|Aa (Cl O O) O<|Aj<|Bv O true (rfl)<|Aq<|Ah<|Ad O<|B1 O<|Aj<|Ao O ?_ ?_
 ·intro g
  have g:u<100:=by have:=AC g;omega
  refine Ah<|Ad O<|Aa (E0 MY K2 O (by omega)) O<|An O O (Sd u g w) ?_
  rintro _ i ⟨rfl,rfl⟩
  exact Ab rfl<|Bz<|Ap<|Ax rfl rfl<|⟨rfl,b⟩
 intro g
 have g:100≤u:=by have:=AB g;omega
 refine Cp<|Dg TP O ?_
 rintro c i m d e p
 have y:=e.size
 replace b:=bt b e
 have f:=h.bs e
 refine Bg<|Ad O<|An O O (Mh u (by omega) (by omega) i f) ?_
 rintro _ t ⟨rfl,rfl⟩
 have a:=JR k
 refine Ab O<|Bg<|Ad O<|Aa (Ex.arrH underlying324 Tm O O a) O<|Ad O ?_
 refine An O O (NR c u _ _ t d (fun j x=>by show (replicate 24 (Value.int .u8 0))[j]? =_;rw [List.getElem?_replicate,if_pos (by omega)]) k a) ?_
 rintro _ v ⟨o,l,s,q⟩
 refine Bg<|Ad O<|Aa (Ex.arrH underlying324 Tm O O a) O<|Aa (Ex.as (Ex.strOf Hq RS FC O s) (by unfold Tr;rw [q])) O<|Ab O<|Bz<|Ax O O ?_
 exact ⟨rfl,b.grown o (AA b) (by rintro _ ⟨⟩;omega)⟩
theorem Rj (u:Nat) (w:World) (h:Jr w) (a:u<1000000000000):AJ prog 274 [.int .u64 (u:Int), .int .i64 10] w (fun r w' =>r=st (Lib.decDigits u)∧Below w.heap.size w w'):=by
 refine Bd (n:=8) func274 O<|Ah<|Ab O<|Bg<|Ad O<|Ad O<|An O O (Ps u w h a) ?_
 rintro _ c ⟨rfl,b⟩
 exact Ab rfl<|Ay<|Ax rfl rfl<|⟨rfl,b⟩
theorem Od (w:World) (T:TypeId) (s:ByteArray):Below w.heap.size w (Lib.bytesWorld w T s):=by
 exact ⟨rfl,rfl,rfl,by rw [Lib.bytesWorld_size];omega,fun k a=>Lib.bytesWorld_at_old w T s k a⟩
theorem Mc (s:List UInt8) (w:World) (h:Jr w) (hs:s.length≤281474976710656):AJ prog 273 [st s, .int .i64 10, .int .i64 32] w (fun r w' =>Below w.heap.size w w' ∧((∃u:Nat,Lib.parseUintB 32 s= .ok u∧u≤4294967295∧r= .tuple #[.int .u64 (u:Int), .nilIface])∨((∀u,Lib.parseUintB 32 s≠ .ok u)∧∃v T x,0≤v∧v≤4294967295∧r= .tuple #[.int .u64 v, .iface T x]))):=by
 refine GY func273 (by kernel_rfl) (by kernel_rfl) ?_
 have e:(ba s).data.toList=s:=FJ s
 have z:(ba s).size=s.length:=J1 s
 obtain ⟨k,j,f⟩:=h.es
 obtain ⟨l,i,g⟩:=h.er
 cases hp:Lib.parseUintB 32 s with
 |ok u=>
  refine (D2 (ba s) (by rw [z];omega) u (by rw [e];exact hp) w).mono ?_
  rintro e w' ⟨a,d⟩
  refine ⟨_,a, ?_, .inl ⟨u,rfl,Lib.parseUintB_le hp,rfl⟩⟩
  rcases d with rfl|rfl
  ·exact Below.refl _ _
  ·exact Od _ _ _
 |range=>
  refine (Dy (ba s) (by rw [z];omega) (by rw [e];exact hp) _ w g (.inr ⟨_,_,rfl⟩)).mono ?_
  rintro e w' ⟨N,a, -, -,c⟩
  exact ⟨_,a,c, .inr ⟨(fun u b=>by cases b),_,_,_,(by decide),(by decide),rfl⟩⟩
 |_=>
  refine (Dr (ba s) (by rw [z];omega) (by rw [e];exact hp) _ w f (.inr ⟨_,_,rfl⟩)).mono ?_
  rintro e w' ⟨N,a, -, -,c⟩
  exact ⟨_,a,c, .inr ⟨(fun u b=>by cases b),_,_,_,(by decide),(by decide),rfl⟩⟩
theorem QJ (s:List UInt8) (w:World) (h:Jr w) (hs:s.length≤281474976710656):AJ prog 246 [st s] w (fun r w' =>Below w.heap.size w w' ∧∃v,r= .tuple #[v, .bool (CN s).isSome]∧∀n,CN s=some n→v= .int .i64 n):=by
 have b:=Pc s
 refine Bd (n:=26) func246 O<|Ah<|Ab O<|Ab O<|Bg<|Ad O<|An O O (Mc s w h hs) ?_
 rintro _ f ⟨c,⟨u,e,m,rfl⟩|⟨d,v,T,x,j,l,rfl⟩⟩
 ·rw [e] at b
  simp only at b
  refine Ad O<|Aa (Ex.extract (i:=0) O O) O<|Aa (Ex.extract (i:=1) O O) O<|Ab O<|Ab O<|Bg<|Ad O<|Aa (E0 MY K2 O (by omega)) O<|Ad O<|Aa (Ga (by kernel_rfl) O) O<|Ad O<|Cm 15 (v' := .bool true) O (cngA Value.bool (rfl))<|Af (dj:=15) O O<|Ad O<|Af (dj:=15) O O<|Aa (Dw FC O) O<|Af (dj:=15) O O<|Aa (Ej O O) O<|Bu O<|Ad O ?_
  refine Bx 20 O ?_ ?_
  ·intro g
   have g:s.length≤9:=by have:=AC g;omega
   refine Af (dj:=20) O O<|Ad O<|Af (dj:=20) O O<|An O O (Rj u f (h.bs c) (by omega)) ?_
   rintro _ o ⟨rfl,a⟩
   refine Af (dj:=20) O O<|Ad O<|Af (dj:=20) O O<|Aa (En O O) O<|Bu O<|Ab O<|Ab O<|Ay<|Bp O O O ?_
   refine ⟨bt c a, .int .i64 (u:Int), ?_,fun n a=> ?_⟩
   ·rw [b]
    by_cases e2:Lib.decDigits u=s
    ·rw [decide_eq_true e2,if_pos ⟨g,e2⟩];rfl
    ·rw [decide_eq_false e2,if_neg fun k=>e2 k.2];rfl
   ·rw [b] at a
    split at a
    ·cases a;rfl
    ·cases a
  intro g
  have g:¬s.length≤9:=by have:=AB g;omega
  rw [if_neg fun k=>g k.1] at b
  refine Ae (dj:=20) O O O O<|Ae (dj:=20) O O O O<|Ae (dj:=20) O O O O<|Ae (dj:=20) O O O O<|B4 O<|Ab O<|Ab O<|Ay<|Bp O O O ?_
  exact ⟨c,_,(by rw [b];rfl),fun n a=>by rw [b] at a;cases a⟩
 have b:CN s=none:=by
  rw [b]
  cases hq:Lib.parseUintB 32 s with
  |ok u=>exact absurd hq (d u)
  |_=>rfl
 refine Ad O<|Aa (Ex.extract (i:=0) O O) O<|Aa (Ex.extract (i:=1) O O) O<|Ab O<|Ab O<|Bg<|Ad O<|Aa (E0 MY K2 O (by omega)) O<|Ad O<|Aa (Gb (by kernel_rfl) O) O<|Ad O<|Cm 15 (v' := .bool false) O (cngA Value.bool (rfl))<|Ae (dj:=15) O O O O<|Ae (dj:=15) O O O O<|Ae (dj:=15) O O O O<|B4 O<|Ad O<|Ae (dj:=20) O O O O<|Ae (dj:=20) O O O O<|Ae (dj:=20) O O O O<|Ae (dj:=20) O O O O<|B4 O<|Ab O<|Ab O<|Ay<|Bp O O O ?_
 exact ⟨c,_,(by rw [b];rfl),fun n a=>by rw [b] at a;cases a⟩
end Go.Proofs.YtblbopcaflaldaaGreatDoor

namespace Go.Proofs.YtblbopcaflaldaaGreatDoor
open Go Go.Dd Go.RowKit List Go.Proofs.Tryz
set_option maxRecDepth 100000
-- dd: text
def Vg:List UInt8:=[48,49,50,51,52,53,54,55,56,57]
theorem Tl:∀d:Fin 10,(Vg.drop d.val).take (d.val+1 - d.val)=[UInt8.ofNat (48+d.val)]:=by decide
def PD (N m:Nat) (s:List UInt8):Prop:=(s=[]∧m=N)∨(s≠[]∧m=0∧s=Lib.decDigits N)∨(s≠[]∧0<m∧Lib.decDigits N=Lib.decDigits m++s)
theorem PD.step {N m:Nat} {s:List UInt8} (h:PD N m s) (a:s=[]∨0<m):PD N (m / 10) ([UInt8.ofNat (48+m % 10)]++s):=by
 have e:Lib.decDigits N=Lib.decDigits m++s:=by
  rcases h with ⟨rfl,rfl⟩|⟨b,d,c⟩|⟨b,d,c⟩
  ·rw [append_nil]
  ·rcases a with a|a
   ·exact absurd a b
   ·omega
  ·exact c
 by_cases h10:m<10
 ·right;left
  refine ⟨by simp,by omega, ?_⟩
  rw [e,Lib.decDigits,dif_pos h10,Nat.mod_eq_of_lt h10]
 ·right;right
  refine ⟨by simp,by omega, ?_⟩
  rw [e,Lib.decDigits,dif_neg h10,append_assoc]
theorem PD.len {N m:Nat} {s:List UInt8} (h:PD N m s) (c:N<1000000000000):s.length≤24:=by
 have b:=JR c
 rw [← Lib.decDigits_length] at b
 rcases h with ⟨rfl,_⟩|⟨_,_,a⟩|⟨_,_,a⟩
 ·exact Nat.zero_le _
 ·rw [a];exact b
 ·have:=cngA length a
  rw [length_append] at this
  omega
theorem GO (n:Int) (W:World) (j:0≤n) (i:n<1000000000000):AJ prog 205 [.int .i64 n] W (fun r w' =>r=st (Lib.itoa n)∧w' =W):=by
 obtain ⟨N,rfl⟩:∃N:Nat,n=(N:Int):=⟨n.toNat,by omega⟩
 rw [Lib.itoa_nonneg]
 refine Bd (n:=21) func205 O<|Ah<|Ab O<|Bg<|Ab O<|Aj<|Aq<|Ar ?_
 refine Bo (S:=(Nat×List UInt8)) (fun z=>[(0, .int .i64 (z.1:Int)),(3,st z.2)]) (fun z w' =>w' =W∧z.1≤N∧PD N z.1 z.2) (fun z=>z.1+if z.2=[] then 1 else 0) ((N,[])) ⟨rfl,rfl,trivial⟩ ?_ ?_
 ·exact ⟨rfl,AX _, .inl ⟨rfl,rfl⟩⟩
 rintro ⟨m,s⟩ w ⟨rfl,e,c⟩
 dsimp only at e c ⊢
 have k:=c.len (by omega)
 have f:m % 10<10:=by omega
 have d:=Tl ⟨m % 10,f⟩
 simp only at d
 refine Aq<|Ah<|Ad O<|Aa (En O O) O<|Ad O ?_
 refine Bx 6 O ?_ ?_
 ·intro g
  have g:s=[]:=AC g
  refine Ae (dj:=6) O O O O<|Ae (dj:=6) O O O O<|Bu O<|Aj<|B3 O<|B2<|Ar<|Ah<|Ad O<|Aa (F0 O O (by omega) (by omega)) O<|Ad O<|Aa (F0 O O (by omega) (by omega)) O<|B9 O (by omega)<|Aa (Ex.as (Gk (a:=Vg) (m % 10) (m % 10+1) FC O O O (by omega) (by omega) (by omega) (by show m % 10+1≤10;omega)) (cngA st d)) O<|Ad O<|Aa (Ct O O (by simp only [length_singleton];omega)) O<|Ab O<|Aj<|Bh<|Ad O<|Aa (Ez O O (by omega) (by omega)) O<|Ab O<|Be<|Bi ?_
  exact Av (Bw ((m / 10,[UInt8.ofNat (48+m % 10)]++s)) ⟨cngA (fun x:Int=>some (Value.int .i64 x)) (by omega),rfl,trivial⟩ (⟨rfl,by omega,c.step (.inl g)⟩) (by subst g;simp;omega))
 intro g
 have g:¬s=[]:=AB g
 refine Af (dj:=6) O O<|Ad O<|Af (dj:=6) O O<|Aa (Da O O) O<|B4 O<|Aj<|Ao O ?_ ?_
 ·intro b
  have b:0<m:=by have:=AC b;omega
  refine B2<|Ar<|Ah<|Ad O<|Aa (F0 O O (by omega) (by omega)) O<|Ad O<|Aa (F0 O O (by omega) (by omega)) O<|B9 O (by omega)<|Aa (Ex.as (Gk (a:=Vg) (m % 10) (m % 10+1) FC O O O (by omega) (by omega) (by omega) (by show m % 10+1≤10;omega)) (cngA st d)) O<|Ad O<|Aa (Ct O O (by simp only [length_singleton];omega)) O<|Ab O<|Aj<|Bh<|Ad O<|Aa (Ez O O (by omega) (by omega)) O<|Ab O<|Be<|Bi ?_
  exact Av (Bw ((m / 10,[UInt8.ofNat (48+m % 10)]++s)) ⟨cngA (fun x:Int=>some (Value.int .i64 x)) (by omega),rfl,trivial⟩ (⟨rfl,by omega,c.step (.inr b)⟩) (by simp;split<;>omega))
 intro b
 have b:m=0:=by have:=AB b;omega
 refine Bn<|Al<|Al<|Bc<|Ci<|Ad O<|Ab O<|Ay<|Ax O O ?_
 refine ⟨?_,rfl⟩
 rcases c with ⟨h,_⟩|⟨_,_,h⟩|⟨_,h,_⟩
 ·exact absurd h g
 ·rw [h]
 ·omega
def BM (ws:List (List UInt8)):List UInt8:=(ws.map fun w=>32::w).flatten
theorem Hc (a b:List (List UInt8)):BM (a++b)=BM a++BM b:=by simp [BM]
theorem Mt (w:List UInt8) (ws:List (List UInt8)):Lib.join (w::ws) [32]=w++BM ws:=by
 rw [Lib.join_cons]
 rfl
theorem Hb {m:Nat}:∀{ws:List (List UInt8)},(∀w ∈ ws,w.length≤m)→(BM ws).length≤(m+1)*ws.length
 |[],_=>Nat.zero_le _
 |w::ws,h=>by
  have c:=h w (by simp)
  have b:=Hb (ws:=ws) fun y a=>h y (by simp [a])
  have e:BM (w::ws)=32::w++BM ws:=rfl
  rw [e,length_append,length_cons,length_cons,Nat.mul_succ]
  omega
theorem JX (v:Value) (l:List Int) (W:World) (p:CA (Value.int .i64) W v l) (h:∀d ∈ l,0≤d∧d≤65536) (q:l.length≤64):AJ prog 204 [v] W (fun r w' =>r=st (BM (l.map Lib.itoa))∧w' =W):=by
 have c:∀{k:Nat},(BM ((l.take k).map Lib.itoa)).length≤22*64:=fun {k}=>by
  have:=Hb (m:=21) (ws:=(l.take k).map Lib.itoa) fun w e=>by
   obtain ⟨d,a,rfl⟩:=List.mem_map.1 e
   exact DZ (h d (mem_of_mem_take a))
  rw [length_map,length_take] at this
  omega
 refine Bd (n:=20) func204 O<|Ah<|Ab O<|Bg<|Ab O<|Bj<|Ab O<|Aj<|Ar ?_
 refine Bo (S:=Nat) (fun i=>[(0,v),(3,st (BM ((l.take i).map Lib.itoa))),(4, .int .i64 (i:Int))]) (fun i w' =>w' =W∧i≤l.length) (fun i=>l.length - i) (0) ⟨rfl,rfl,rfl,trivial⟩ ?_ ?_
 ·exact ⟨rfl,Nat.zero_le _⟩
 rintro i w ⟨rfl,t⟩
 have u:=c (k:=i)
 refine Aq<|Ah<|Ad O<|Ad O<|Aa (Au AD O ‹_›) O ?_
 refine B1 O<|Aj<|Ao O ?_ ?_
 ·intro g
  have g:i<l.length:=by have:=AC g;omega
  obtain ⟨d,a⟩:∃d,d=l.getD i default:=⟨_,rfl⟩
  have f:d ∈ l:=by
   rw [a,getD_eq_getElem?_getD,getElem?_eq_getElem g]
   exact getElem_mem g
  have b:=h d f
  have lf:=DZ b
  have j:l.take (i+1)=l.take i++[d]:=by
   rw [take_succ_eq_append_getElem g,a,getD_eq_getElem?_getD,getElem?_eq_getElem g];rfl
  have o:BM ((l.take (i+1)).map Lib.itoa)=BM ((l.take i).map Lib.itoa)++[32]++Lib.itoa d:=by
   rw [j,map_append,Hc,append_assoc];simp [BM]
  refine B2<|Aq<|Ar<|Bh<|Ad O<|Aa (Ct O O (by simp only [length_singleton];omega)) O<|Ad O<|Ad O<|Aa (Bf AD O O ‹_› _ O (by omega)) O ?_
  refine Aa (Bl (AI _) O ‹_› (by omega)) O ?_
  rw [← a]
  refine An O O (GO d w b.1 (by omega)) ?_
  rintro _ s ⟨rfl,rfl⟩
  refine Aa (Ex.as (Ct O O (by simp only [length_append,length_singleton];omega)) (cngA st o.symm)) O<|Ab O<|Be<|Bi<|Cd<|Ad O<|B9 O (by omega)<|Ab O<|Be ?_
  exact Av (Bw (i+1) ⟨rfl,rfl,rfl,trivial⟩ (⟨rfl,g⟩) (by omega))
 intro g
 have g:i=l.length:=by have:=AB g;omega
 subst g
 rw [take_length]
 exact Bn<|Al<|Al<|Bc<|Ci<|Ad rfl<|Ab rfl<|Ay<|Ax rfl rfl<|⟨rfl,rfl⟩
theorem MD (n:Int) (W:World) (b:0≤n) (a:n<1000000000000):AJ prog 205 [.int .i64 n] W (fun r w' =>r=st (Lib.itoa n)∧Below W.heap.size W w'):=
 (GO n W b a).mono fun _ _ ⟨h,k⟩=>⟨h,k ▸ Below.refl _ _⟩
theorem DC {x:N5} {r:Rw} (e:CD x.k=r):HO x=r.word++(BM (x.i.map Lib.itoa)++(BM (if r.nxt=[] then [] else [r.nxt])++(BM (if r.shaped then x.s.map Lib.itoa else if r.nxt=[] then [] else [Lib.itoa x.n])++BM (if r.last=[] then [] else [r.last,Lib.itoa x.p])))):=by
 unfold HO EJ
 rw [e,append_assoc,append_assoc,append_assoc,List.singleton_append,Mt,Hc,Hc,Hc]
theorem TD:∀k:BitVec 8,(CT k).isSome=true→k ∈ [1#8,2#8,3#8,4#8,7#8,5#8,6#8,8#8,9#8,10#8,11#8,12#8,13#8]:=by decide+kernel
set_option maxHeartbeats 2000000 in
theorem Sn (x:N5) (W:World) (s:N5.at W x) (L:HZ x):AJ prog 124 [x.v] W (fun r w' =>r=st (HO x)∧Below W.heap.size W w'):=by
 have b:=Below.refl W.heap.size W
 have o:=s.i
 have i:=s.s
 have F:(BM (x.i.map Lib.itoa)).length≤100:=by
  have:=Hb (m:=21) (ws:=x.i.map Lib.itoa) fun w l=>by
   obtain ⟨d,j,rfl⟩:=List.mem_map.1 l
   exact DZ (L.ii d j)
  rw [length_map] at this
  have:=L.il
  omega
 have E:(BM (x.s.map Lib.itoa)).length≤100:=by
  have:=Hb (m:=21) (ws:=x.s.map Lib.itoa) fun w l=>by
   obtain ⟨d,j,rfl⟩:=List.mem_map.1 l
   exact DZ (L.ss d j)
  rw [length_map] at this
  have:=L.sl
  omega
 have K:=DZ (n:=x.n) ⟨L.nn.1,by have:=L.nn.2;omega⟩
 have N:=DZ (n:=x.p) ⟨L.pp.1,by have:=L.pp.2;omega⟩
 have q:=TD x.k L.kd
 simp only [mem_cons,not_mem_nil,or_false] at q
 refine Bd (n:=103) func124 O<|Ah<|C0 (cs:=x.cells) O O O ?_
 rintro u w t z p -
 have b:=b.bs p
 have o:=o.bs p
 have i:=i.bs p
 refine Ab O<|Bg<|A0 underlying79 O (AU _)<|Aa (Ak (AK _) O ‹_› rfl) O ?_
 refine An O O (JX x.x x.i _ o L.ii (by have:=L.il;omega)) ?_
 rintro _ w ⟨rfl,rfl⟩
 refine Ab O<|Bj<|A0 underlying79 O (DA _)<|Aa (Ak (DG _) O ‹_› rfl) O ?_
 refine Aj<|Ar<|Ah<|Aa (B0 O (show _=some (b8 (1#8)) from rfl)) O<|Ab O<|Aj<|Ao O ?_ ?_
 ·intro g
  have g:x.k=1#8:=AC g
  have e:=DC (x:=x) (r:=⟨1,[105,110,112,117,116],0,0,[],[]⟩) (by rw [g];rfl)
  have k:x.i=[]:=eq_nil_of_length_eq_zero (by have:=L.im;rw [g] at this;have this:(x.i.length:Int)≤0:=this;omega)
  refine Ah<|A0 underlying79 O (AU _)<|Aa (Ak (AK _) O ‹_› rfl) O ?_
  refine An O O (JX x.y x.s _ i L.ss (by have:=L.sl;omega)) ?_
  rintro _ f ⟨rfl,rfl⟩
  refine Aa (Ct O O (by simp only [length_append,length_cons,length_nil];omega)) O<|Ab O<|Ay<|Ba<|Ap<|Ax O O ?_
  exact ⟨cngA st (by rw [e,k];simp [BM,Rw.shaped]),b⟩
 intro g
 have J:x.k≠1#8:=AB g
 clear g
 refine Ah<|Aa (B0 O (show _=some (b8 (2#8)) from rfl)) O<|Ab O<|Aj<|Ao O ?_ ?_
 ·intro g
  have g:x.k=2#8:=AC g
  have e:=DC (x:=x) (r:=⟨2,[119,101,105,103,104,116],0,0,[],[]⟩) (by rw [g];rfl)
  have k:x.i=[]:=eq_nil_of_length_eq_zero (by have:=L.im;rw [g] at this;have this:(x.i.length:Int)≤0:=this;omega)
  refine Ah<|A0 underlying79 O (AU _)<|Aa (Ak (AK _) O ‹_› rfl) O ?_
  refine An O O (JX x.y x.s _ i L.ss (by have:=L.sl;omega)) ?_
  rintro _ f ⟨rfl,rfl⟩
  refine Aa (Ct O O (by simp only [length_append,length_cons,length_nil];omega)) O<|Ab O<|Ay<|Ba<|Ap<|Ax O O ?_
  exact ⟨cngA st (by rw [e,k];simp [BM,Rw.shaped]),b⟩
 intro g
 have D:x.k≠2#8:=AB g
 clear g
 refine Ah<|Aa (B0 O (show _=some (b8 (3#8)) from rfl)) O<|Ab O<|Aj<|Ao O ?_ ?_
 ·intro g
  have g:x.k=3#8:=AC g
  have e:=DC (x:=x) (r:=⟨3,[97,100,100],2,2,[],[]⟩) (by rw [g];rfl)
  refine Ah<|Ad O<|Aa (Ct O O (by simp only [length_append,length_cons,length_nil];omega)) O<|Ab O<|Ay<|Ba<|Ap<|Ax O O ?_
  exact ⟨cngA st (by rw [e];simp [BM,Rw.shaped]),b⟩
 intro g
 have Q:x.k≠3#8:=AB g
 clear g
 refine Ah<|Aa (B0 O (show _=some (b8 (4#8)) from rfl)) O<|Ab O<|Aj<|Ao O ?_ ?_
 ·intro g
  have g:x.k=4#8:=AC g
  have e:=DC (x:=x) (r:=⟨4,[109,117,108],2,2,[],[]⟩) (by rw [g];rfl)
  refine Ah<|Ad O<|Aa (Ct O O (by simp only [length_append,length_cons,length_nil];omega)) O<|Ab O<|Ay<|Ba<|Ap<|Ax O O ?_
  exact ⟨cngA st (by rw [e];simp [BM,Rw.shaped]),b⟩
 intro g
 have I:x.k≠4#8:=AB g
 clear g
 refine Ah<|Aa (B0 O (show _=some (b8 (7#8)) from rfl)) O<|Ab O<|Aj<|Ao O ?_ ?_
 ·intro g
  have g:x.k=7#8:=AC g
  have e:=DC (x:=x) (r:=⟨7,[112,114,111,100,117,99,116],2,2,[],[]⟩) (by rw [g];rfl)
  refine Ah<|Ad O<|Aa (Ct O O (by simp only [length_append,length_cons,length_nil];omega)) O<|Ab O<|Ay<|Ba<|Ap<|Ax O O ?_
  exact ⟨cngA st (by rw [e];simp [BM,Rw.shaped]),b⟩
 intro g
 have G:x.k≠7#8:=AB g
 clear g
 refine Ah<|Aa (B0 O (show _=some (b8 (5#8)) from rfl)) O<|Ab O<|Aj<|Ao O ?_ ?_
 ·intro g
  have g:x.k=5#8:=AC g
  have e:=DC (x:=x) (r:=⟨5,[114,101,108,117],1,1,[],[]⟩) (by rw [g];rfl)
  refine Ah<|Ad O<|Aa (Ct O O (by simp only [length_append,length_cons,length_nil];omega)) O<|Ab O<|Ay<|Ba<|Ap<|Ax O O ?_
  exact ⟨cngA st (by rw [e];simp [BM,Rw.shaped]),b⟩
 intro g
 have M:x.k≠5#8:=AB g
 clear g
 refine Ah<|Aa (B0 O (show _=some (b8 (6#8)) from rfl)) O<|Ab O<|Aj<|Ao O ?_ ?_
 ·intro g
  have g:x.k=6#8:=AC g
  have e:=DC (x:=x) (r:=⟨6,[115,104,105,102,116],1,1,[98,121],[]⟩) (by rw [g];rfl)
  refine Ah<|Ad O<|Aa (Ct O O (by simp only [length_append,length_cons,length_nil];omega)) O<|Aa (Ct O O (by simp only [length_append,length_cons,length_nil];omega)) O<|A0 underlying79 O (AV _)<|Aa (Ak (AI _) O ‹_› rfl) O ?_
  refine An O O (GO x.n _ L.nn.1 (by have:=L.nn.2;omega)) ?_
  rintro _ f ⟨rfl,rfl⟩
  refine Aa (Ct O O (by simp only [length_append,length_cons,length_nil];omega)) O<|Ab O<|Ay<|Ba<|Ap<|Ax O O ?_
  exact ⟨cngA st (by rw [e];simp [BM,Rw.shaped]),b⟩
 intro g
 have B:x.k≠6#8:=AB g
 clear g
 refine Ah<|Aa (B0 O (show _=some (b8 (8#8)) from rfl)) O<|Ab O<|Aj<|Ao O ?_ ?_
 ·intro g
  have g:x.k=8#8:=AC g
  have e:=DC (x:=x) (r:=⟨8,[119,105,110,100,111,119],2,2,[115,116,101,112],[112,97,100]⟩) (by rw [g];rfl)
  refine Aq<|C8 mixed (by kernel_rfl)<|Bt O<|Ai (fun c a=>Ct O O (by simp only [length_append,length_cons,length_nil];omega)) O<|Ai (fun c a=>Ct O O (by simp only [length_append,length_cons,length_nil];omega)) O<|Ai (fun c a=>Ck underlying79 O (AV _)) O<|Ai (fun c a=>Ak (AI _) O (AN.bs ‹_› a) O) O ?_
  refine C3 O O (fun c a=>(MD x.n c L.nn.1 (by have:=L.nn.2;omega)).q a)<|Ai (fun c a=>Ct O O (by simp only [length_append,length_cons,length_nil];omega)) O<|Ai (fun c a=>Ct O O (by simp only [length_append,length_cons,length_nil];omega)) O<|Ai (fun c a=>Ck underlying79 O (AV _)) O<|Ai (fun c a=>Ak (AI _) O (AN.bs ‹_› a) O) O ?_
  refine C3 O O (fun c a=>(MD x.p c L.pp.1 (by have:=L.pp.2;omega)).q a)<|Ai (fun c a=>Ct O O (by simp only [length_append,length_cons,length_nil];omega)) O<|D7 O ?_
  refine C1 (fun f a=> ?_)
  refine Av<|B8<|Ea<|Ba<|Ap<|Ax O O ?_
  exact ⟨cngA st (by rw [e];simp [BM,Rw.shaped]),bt b a⟩
 intro g
 have H:x.k≠8#8:=AB g
 clear g
 refine Ah<|Aa (B0 O (show _=some (b8 (9#8)) from rfl)) O<|Ab O<|Aj<|Ao O ?_ ?_
 ·intro g
  have g:x.k=9#8:=AC g
  have e:=DC (x:=x) (r:=⟨9,[112,111,111,108],1,1,[119,105,100,101],[]⟩) (by rw [g];rfl)
  refine Ah<|Ad O<|Aa (Ct O O (by simp only [length_append,length_cons,length_nil];omega)) O<|Aa (Ct O O (by simp only [length_append,length_cons,length_nil];omega)) O<|A0 underlying79 O (AV _)<|Aa (Ak (AI _) O ‹_› rfl) O ?_
  refine An O O (GO x.n _ L.nn.1 (by have:=L.nn.2;omega)) ?_
  rintro _ f ⟨rfl,rfl⟩
  refine Aa (Ct O O (by simp only [length_append,length_cons,length_nil];omega)) O<|Ab O<|Ay<|Ba<|Ap<|Ax O O ?_
  exact ⟨cngA st (by rw [e];simp [BM,Rw.shaped]),b⟩
 intro g
 have C:x.k≠9#8:=AB g
 clear g
 refine Ah<|Aa (B0 O (show _=some (b8 (10#8)) from rfl)) O<|Ab O<|Aj<|Ao O ?_ ?_
 ·intro g
  have g:x.k=10#8:=AC g
  have e:=DC (x:=x) (r:=⟨10,[115,104,97,112,101],1,1,[116,111],[]⟩) (by rw [g];rfl)
  refine Ah<|Ad O<|Aa (Ct O O (by simp only [length_append,length_cons,length_nil];omega)) O<|Aa (Ct O O (by simp only [length_append,length_cons,length_nil];omega)) O<|A0 underlying79 O (AU _)<|Aa (Ak (AK _) O ‹_› rfl) O ?_
  refine An O O (JX x.y x.s _ i L.ss (by have:=L.sl;omega)) ?_
  rintro _ f ⟨rfl,rfl⟩
  refine Aa (Ct O O (by simp only [length_append,length_cons,length_nil];omega)) O<|Ab O<|Ay<|Ba<|Ap<|Ax O O ?_
  exact ⟨cngA st (by rw [e];simp [BM,Rw.shaped]),b⟩
 intro g
 have A:x.k≠10#8:=AB g
 clear g
 refine Ah<|Aa (B0 O (show _=some (b8 (11#8)) from rfl)) O<|Ab O<|Aj<|Ao O ?_ ?_
 ·intro g
  have g:x.k=11#8:=AC g
  have e:=DC (x:=x) (r:=⟨11,[116,117,114,110],1,1,[116,111],[]⟩) (by rw [g];rfl)
  refine Ah<|Ad O<|Aa (Ct O O (by simp only [length_append,length_cons,length_nil];omega)) O<|Aa (Ct O O (by simp only [length_append,length_cons,length_nil];omega)) O<|A0 underlying79 O (AU _)<|Aa (Ak (AK _) O ‹_› rfl) O ?_
  refine An O O (JX x.y x.s _ i L.ss (by have:=L.sl;omega)) ?_
  rintro _ f ⟨rfl,rfl⟩
  refine Aa (Ct O O (by simp only [length_append,length_cons,length_nil];omega)) O<|Ab O<|Ay<|Ba<|Ap<|Ax O O ?_
  exact ⟨cngA st (by rw [e];simp [BM,Rw.shaped]),b⟩
 intro g
 have v:x.k≠11#8:=AB g
 clear g
 refine Ah<|Aa (B0 O (show _=some (b8 (12#8)) from rfl)) O<|Ab O<|Aj<|Ao O ?_ ?_
 ·intro g
  have g:x.k=12#8:=AC g
  have e:=DC (x:=x) (r:=⟨12,[106,111,105,110],1,65536,[97,108,111,110,103],[]⟩) (by rw [g];rfl)
  refine Ah<|Ad O<|Aa (Ct O O (by simp only [length_append,length_cons,length_nil];omega)) O<|Aa (Ct O O (by simp only [length_append,length_cons,length_nil];omega)) O<|A0 underlying79 O (AV _)<|Aa (Ak (AI _) O ‹_› rfl) O ?_
  refine An O O (GO x.n _ L.nn.1 (by have:=L.nn.2;omega)) ?_
  rintro _ f ⟨rfl,rfl⟩
  refine Aa (Ct O O (by simp only [length_append,length_cons,length_nil];omega)) O<|Ab O<|Ay<|Ba<|Ap<|Ax O O ?_
  exact ⟨cngA st (by rw [e];simp [BM,Rw.shaped]),b⟩
 intro g
 have y:x.k≠12#8:=AB g
 clear g
 refine Ca<|Bi<|Ci<|Ad O<|Aa (Ct O O (by simp only [length_append,length_cons,length_nil];omega)) O<|Aa (Ct O O (by simp only [length_append,length_cons,length_nil];omega)) O<|A0 underlying79 O (AV _)<|Aa (Ak (AI _) O ‹_› rfl) O ?_
 have g:x.k=13#8:=by rcases q with h|h|h|h|h|h|h|h|h|h|h|h|h<;>first|exact h|exact absurd h ‹_›
 have e:=DC (x:=x) (r:=⟨13,[115,117,109],1,1,[97,108,111,110,103],[]⟩) (by rw [g];rfl)
 refine An O O (GO x.n _ L.nn.1 (by have:=L.nn.2;omega)) ?_
 rintro _ f ⟨rfl,rfl⟩
 refine Aa (Ct O O (by simp only [length_append,length_cons,length_nil];omega)) O<|Ab O<|Ay<|Ax O O ?_
 exact ⟨cngA st (by rw [e];simp [BM,Rw.shaped]),b⟩
theorem Sh (v:Value) (ls:List N5) (W:World) (h:GN W v ls):AJ prog 26 [.agg [v].toArray] W (fun r w' =>Below W.heap.size W w' ∧r= .tuple #[st (FZ ls), .int .i64 (G4 ls)]):=by
 have d:=Below.refl W.heap.size W
 refine Bd (n:=26) func26 O<|Ah<|C0 (cs:=[v]) O O O ?_
 rintro k w s c b -
 have d:=d.bs b
 have h:=h.bs b
 refine Ab O<|Ab O<|Bj<|Aa (Cj (DW _) (DV _) O O ‹_›) O ?_
 refine An O O (Oz v ls w h) ?_
 rintro _ z ⟨rfl,b⟩
 replace d:=bt d b
 have h:=h.bs b
 have c:=c.bs b
 refine Aa (Co O) O<|Aj<|Ao O ?_ ?_
 ·intro g
  have g:(Hg ls).isSome=false:=by simpa using g
  refine Ah<|Ab O<|Ab O<|Bz<|Bp O O O ?_
  exact ⟨d,by unfold FZ G4;rw [g];rfl⟩
 intro g
 have g:(Hg ls).isSome=true:=by simpa using g
 obtain ⟨D,q⟩:=Kj g
 rw [show FZ ls=CZ ls by unfold FZ;rw [g];rfl,show G4 ls=0 by unfold G4;rw [g];rfl]
 clear g
 refine Cp<|Ab O<|Bj<|Ab O<|Aj<|Ar ?_
 refine Bo (S:=Nat) (fun i=>[(1, .pointer (some ⟨k,0,none⟩)),(4,st (CZ (ls.take i))),(5, .int .i64 (i:Int))]) (fun i w' =>i≤ls.length∧Below z.heap.size z w') (fun i=>ls.length - i) (0) ⟨rfl,rfl,rfl,trivial⟩ ?_ ?_
 ·exact ⟨Nat.zero_le _,Below.refl _ _⟩
 rintro i A ⟨J,b⟩
 replace d:=bt d b
 have m:=h.bs b
 have c:=c.bs b
 have t:=m.sl
 refine Aq<|Ah<|Ad O<|A0 underlying24 O (BY _)<|Aa (Ak (CS _) O ‹_› rfl) O ?_
 refine Aa (Au BA O ‹_›) O ?_
 refine B1 O<|Aj<|Ao O ?_ ?_
 ·intro p
  have a:i<ls.length:=by have:=AC p;omega
  obtain ⟨x,o⟩:∃x,x=ls[i]:=⟨_,rfl⟩
  have e:x ∈ ls:=o ▸ getElem_mem a
  have l:=m.each x e
  have f:=m.cells a
  rw [← o] at f
  have L:=q x e
  have I:=IF (ls:=ls.take i) fun y E=>q y (mem_of_mem_take E)
  have H:(ls.take i).length≤32:=by rw [length_take];omega
  have F:=KM L
  have u:JY x=HO x++[10]:=rfl
  have B:(HO x).length≤300:=by rw [u,length_append] at F;omega
  have C:CZ (ls.take (i+1))=CZ (ls.take i)++HO x++[10]:=by
   rw [take_succ_eq_append_getElem a,KA,← o,append_assoc]
   simp [CZ,u]
  refine B2<|Aq<|Ar<|Bh<|Ad O<|A0 underlying24 O (BY _)<|Aa (Ak (CS _) O ‹_› rfl) O ?_
  refine Ad O<|Aa (Cu BA O O t i O a) O<|Aa (C6 (cs:=x.cells) (CY _) (CW _) O t O (by decide) f) O<|An O O (Sn x A l L) ?_
  rintro _ G ⟨rfl,j⟩
  refine Aa (Ct O O (by omega)) O<|Aa (Ex.as (Ct O O (by simp only [length_append,length_singleton];omega)) (cngA st C.symm)) O<|Ab O<|Be<|Bi<|Cd<|Ad O<|B9 O (by omega)<|Ab O<|Be ?_
  exact Av (Bw (i+1) ⟨rfl,rfl,rfl,trivial⟩ (⟨a,bt b j⟩) (by omega))
 intro p
 have a:i=ls.length:=by have:=AB p;omega
 subst a
 rw [take_length]
 exact Bn<|Al<|Al<|Bc<|Ci<|Ad rfl<|Ab rfl<|Ab rfl<|Ay<|Bp rfl rfl rfl<|⟨d,rfl⟩

-- dd: text
structure LD (W w:World) (A:Nat) (v:Value) (l:List (List UInt8)):Prop where
 sl:CA st W v l
 bel:Below W.heap.size W w
 lo:W.heap.size≤A
 cell:AN w A 139 [v]
theorem LD.bs {W w w' :World} {A:Nat} {v:Value} {l:List (List UInt8)} (h:LD W w A v l) (g:Below w.heap.size w w'):LD W w' A v l:=⟨h.sl,bt h.bel g,h.lo,h.cell.bs g⟩
theorem LD.grow {W w w' :World} {A:Nat} {v:Value} {l:List (List UInt8)} {r:Option Nat} (h:LD W w A v l) (g:w.grownBy w' r) (a:∀b,r=some b→W.heap.size≤b∧b≠A):LD W w' A v l:=
 ⟨h.sl,h.bel.grown g (AA h.bel) fun b e=>(a b e).1,h.lo,h.cell.by g fun e=>(a A e.symm).2 rfl⟩
theorem MV (W w:World) (A:Nat) (v:Value) (l:List (List UInt8)) (s:List UInt8) (p:LD W w A v l):
  LF prog 207 [.pointer (some ⟨A,0,none⟩),st s] w SY
   (fun r w' =>∃m,BP s l=some m∧w.grownBy w' (some A)∧w'.heap.size=w.heap.size∧∃v',LD W w' A v' m) (fun w' =>BP s l=none∧w' =w):=by
 obtain ⟨c,h,f,b⟩:=p
 have j:=c.bs h
 refine E3 (n:=32) func207 (by kernel_rfl) O O O<|Aq<|Ah<|Ad O<|Aa (En O O) O<|Aj<|Ao O ?_ ?_
 ·intro g
  have g:s=[]:=AC g
  refine Ea<|Ap<|Pw.ret0q O ?_
  exact ⟨l,by unfold BP;rw [if_pos g],FQ _ _,rfl,v,c,h,f,b⟩
 intro g
 have g:¬s=[]:=AB g
 refine B2<|Aq<|Ah<|Ad O<|Aa (Bb O) O<|A0 underlying139 O (FD _)<|Aa (Ak (H4 _) O ‹_› rfl) O ?_
 refine Aa (Au AS O ‹_›) O ?_
 refine Aa (Cl O O) O<|Ad O ?_
 refine Bx 12 O ?_ ?_
 ·intro d
  have d:l=[]:=eq_nil_of_length_eq_zero (by have:=AC d;omega)
  refine Ae (dj:=12) O O O O<|Ae (dj:=12) O O O O<|Ae (dj:=12) O O O O<|Ae (dj:=12) O O O O<|Ae (dj:=12) O O O O<|Ae (dj:=12) O O O O<|Ae (dj:=12) O O O O<|Ae (dj:=12) O O O O<|Bu O<|Aj<|B3 O<|Bh<|Aa (Cc (vs:=[]) (cs:=[]) O (by kernel_rfl)) O<|Aa (Eu underlying106 O) O ?_
  refine E2 O (Dq (Du (⟨by unfold BP;rw [if_neg g,d],rfl⟩)))
 intro d
 have d:0<l.length:=by have:=AB d;omega
 have k:l=l.getD 0 default::l.drop 1:=by
  cases l with
  |nil=>exact absurd d (by simp)
  |cons a t=>rfl
 refine Af (dj:=12) O O<|Ad O<|Af (dj:=12) O O<|Aa (Bb O) O<|Af (dj:=12) O O<|A0 underlying139 O (FD _)<|Af (dj:=12) O O<|Aa (Ak (H4 _) O ‹_› rfl) O ?_
 refine Af (dj:=12) O O<|Aa (Bf AS O O ‹_› 0 O (by omega)) O ?_
 refine Af (dj:=12) O O<|Aa (Bl (EB _) O ‹_› (by omega)) O ?_
 refine Af (dj:=12) O O<|Ad O<|Af (dj:=12) O O<|Aa (Dz O O) O<|B4 O<|Aj<|Ao O ?_ ?_
 ·intro e
  have e:¬l.getD 0 default=s:=by simpa using e
  refine Bh<|Aa (Cc (vs:=[]) (cs:=[]) O (by kernel_rfl)) O<|Aa (Eu underlying106 O) O ?_
  refine E2 O (Dq (Du (⟨by unfold BP;rw [if_neg g,k];exact if_neg e,rfl⟩)))
 intro e
 have e:l.getD 0 default=s:=by simpa using e
 refine B2<|Bh<|Ad O<|Ad O<|Aa (Bb O) O<|A0 underlying139 O (FD _)<|Aa (Ak (H4 _) O ‹_› rfl) O ?_
 refine Aa (Fp (i:=1) AS O O j (by omega)) O<|Aa (Bb O) O<|A0 underlying139 O (FD _)<|Br (C4 (FD _) O O (c.drop (show 1≤l.length by omega)).one' b (show 0<1 by omega)) ?_
 rintro w ⟨b,o,q⟩
 refine Be<|Gq O ?_
 exact ⟨l.drop 1,by unfold BP;rw [if_neg g,k];exact if_pos e,o,q,_,⟨c.drop (show 1≤l.length by omega),h.grown o (AA h) (by rintro _ ⟨⟩;omega),f,b⟩⟩
def H5 (most:Nat) (l:List (List UInt8)) (ns:List Int) (rest:List (List UInt8)):Prop:=ns.length≤most∧BT most l=(ns++(BT (most - ns.length) rest).1,(BT (most - ns.length) rest).2)
theorem Fy (a:Nat) (l:List (List UInt8)):H5 a l [] l:=⟨Nat.zero_le _,rfl⟩
theorem H5.done {b:Nat} {l:List (List UInt8)} {c:List Int} {a:List (List UInt8)} (h:H5 b l c a) (e:a=[]∨b≤c.length∨CN (a.getD 0 default)=none):BT b l=(c,a):=by
 obtain ⟨f,d⟩:=h
 rw [d]
 have key:BT (b - c.length) a=([],a):=by
  cases hm:b - c.length with
  |zero=>rfl
  |succ m=>
   cases a with
   |nil=>rfl
   |cons w r=>
    rcases e with e|e|e
    ·cases e
    ·omega
    ·have e:CN w=none:=e
     simp only [BT,e]
 rw [key,append_nil]
theorem H5.step {a:Nat} {l:List (List UInt8)} {c:List Int} {b:List (List UInt8)} {n:Int} (h:H5 a l c b) (i:0<b.length) (g:c.length<a) (e:CN (b.getD 0 default)=some n):H5 a l (c++[n]) (b.drop 1):=by
 obtain ⟨j,f⟩:=h
 refine ⟨by rw [length_append];exact g, ?_⟩
 rw [f,length_append,length_singleton]
 obtain ⟨m,d⟩:∃m,a - c.length=m+1:=⟨a - c.length - 1,by omega⟩
 rw [d,show a - (c.length+1)=m by omega]
 cases b with
 |nil=>exact absurd i (by simp)
 |cons w r=>
  have e:CN w=some n:=e
  simp [BT,e]
set_option maxHeartbeats 1000000 in
theorem HB (W w:World) (A d c:Nat) (v:Value) (l:List (List UInt8)) (hG:Jr W) (I:LD W w A v l) (hl:∀x ∈ l,x.length≤65536) (hn:l.length≤65537) (hm:c≤65536):
  LF prog 208 [.pointer (some ⟨A,0,none⟩), .int .i64 (d:Int), .int .i64 (c:Int)] w SY
   (fun r w' =>∃f l',LC d c l=some (f,l')∧w.grownBy w' (some A)∧AT w' w.heap.size 3 1 r f.length (f.map (Value.int .i64))∧∃v',LD W w' A v' l')
   (fun w' =>LC d c l=none∧w.grownBy w' (some A)):=by
 have zW:=I.bel.size
 have zA:=BL I.cell
 refine E3 (n:=53) func208 (by kernel_rfl) O O O<|Ah<|Ab O<|Aj<|Aq ?_
 refine Dh (St:=(List Int×Value×Value×List (List UInt8))) (fun z=>[(1, .int .i64 (d:Int)),(6,z.2.1)]) (fun z w' =>BT c l=(z.1,z.2.2.2)∧w.grownBy w' (some A)∧w'.ownsRow w.heap.size 3 1 z.2.1 z.1.length (z.1.map (Value.int .i64))∧LD W w' A z.2.2.1 z.2.2.2) ?_ ?_
 ·refine Ar ?_
  refine Bo (S:=(List Int×Value×Value×List (List UInt8))) (fun z=>[(0, .pointer (some ⟨A,0,none⟩)),(1, .int .i64 (d:Int)),(2, .int .i64 (c:Int)),(6,z.2.1)]) (fun z w' =>H5 c l z.1 z.2.2.2∧(∃k,z.2.2.2=l.drop k)∧w.grownBy w' (some A)∧w'.ownsRow w.heap.size 3 1 z.2.1 z.1.length (z.1.map (Value.int .i64))∧LD W w' A z.2.2.1 z.2.2.2) (fun z=>z.2.2.2.length) (([], .slice none 0 0,v,l)) ⟨rfl,rfl,rfl,rfl,trivial⟩ ?_ ?_
  ·exact ⟨Fy c l,⟨0,rfl⟩,FQ _ _,World.ownsRow_nil _ _ _ _,I⟩
  rintro ⟨f,y,u,a⟩ j ⟨hS,⟨k,hk⟩,F,B,I⟩
  dsimp only at hS hk F B I ⊢
  obtain ⟨p,hB,H,E⟩:=I
  have s_u:=p.bs hB
  have rl:a.length≤l.length:=by rw [hk,length_drop];omega
  have nl:=hS.1
  refine Aq<|Ah<|Ad O<|Aa (Bb O) O<|A0 underlying139 O (FD _)<|Aa (Ak (H4 _) O ‹_› rfl) O ?_
  refine Aa (Au AS O ‹_›) O ?_
  refine Aa (Da O O) O<|Ad O ?_
  refine Bx 15 O ?_ ?_
  ·intro g
   have g:0<a.length:=by have:=AC g;omega
   have hl0:(a.getD 0 default).length≤65536:=hl _ (by
    rw [getD_eq_getElem?_getD,getElem?_eq_getElem g,Option.getD_some]
    have q:a[0] ∈ a:=getElem_mem g
    exact mem_of_mem_drop (i:=k) (hk ▸ q))
   have s_y:=AG B
   refine Af (dj:=15) O O<|Ad O<|Af (dj:=15) O O<|Aa (Au AD O ‹_›) O ?_
   refine Af (dj:=15) O O<|Ad O<|Af (dj:=15) O O<|B1 O<|Bu O<|Aj<|Ao O ?_ ?_
   ·intro Q
    have Q:f.length<c:=by have:=AC Q;omega
    refine B2<|Ar<|Ah<|Ad O<|Aa (Bb O) O<|A0 underlying139 O (FD _)<|Aa (Ak (H4 _) O ‹_› rfl) O ?_
    refine Aa (Bf AS O O ‹_› 0 O (by omega)) O ?_
    refine Aa (Bl (EB _) O ‹_› (by omega)) O ?_
    refine An O O (QJ (a.getD 0 default) j (hG.bs hB) (by omega)) ?_
    rintro _ w2 ⟨h,x,rfl,hx⟩
    have V:=BB F (BU h _)
    have ho2:=AH B h
    have X:=bt hB h
    have C:=E.bs h
    refine Ad O<|Aa (Ex.extract (i:=0) O O) O<|Aa (Ex.extract (i:=1) O O) O<|Ab O<|Ab O<|Bj<|Ad O<|Aa (Co O) O<|Aj<|Ao O ?_ ?_
    ·intro M
     have M:CN (a.getD 0 default)=none:=by
      cases e:CN (a.getD 0 default) with
      |none=>rfl
      |some n=>rw [e] at M;cases M
     exact Bn<|Al<|Pw.blkE rfl<|Al<|Bc<|B6 ((f,y,u,a)) ⟨rfl,rfl,trivial⟩ (⟨hS.done (.inr (.inr M)),V,ho2,p,X,H,C⟩)
    intro M
    obtain ⟨n,en⟩:∃n,CN (a.getD 0 default)=some n:=by
     cases e:CN (a.getD 0 default) with
     |none=>rw [e] at M;cases M
     |some n=>exact ⟨n,rfl⟩
    obtain rfl:=hx n en
    refine B2 ?_
    refine Cw.any mixed (fun w3 hd _=> ?_)
    have R:=BB V (BU hd _)
    have L:=AH ho2 hd
    have J:=bt X hd
    have m:=C.bs hd
    clear F V B ho2 hB X E C s_u s_y hd h
    refine Fw (St:=Value) (g:=1) [0,1,2,3,4,5,6,7,8,9,10,11,12] 13 (fun y=>[(0, .pointer (some ⟨A,0,none⟩)),(1, .int .i64 (d:Int)),(2, .int .i64 (c:Int)),(6,y),(42,cut u 1 1 a.length),(44, .pointer (some ⟨A,0,none⟩))]) (fun y w' =>w.grownBy w' (some A)∧w'.ownsRow w.heap.size 3 1 y (f++[n]).length ((f++[n]).map (Value.int .i64))∧AN w' A 139 [u]∧Below W.heap.size W w') (by kernel_rfl) O ?_ ?_
    ·refine Df (fun w' =>AN w' A 139 [u]∧Below W.heap.size W w') (fun hC=> ?_) (⟨m,J⟩)
     refine Cr (B5 (Ce (B5 (Ce C7))))<|Am 0 O (fun j s=>Cb O) O<|Am 1 O (fun j s=>Cb O) O<|Am 2 O (fun j s=>Cb O) O<|Am 5 O (fun j s=>Cb O) O<|Am 6 O (fun j s=>Bb O) O<|Am 7 O (fun j s=>Ck underlying139 O (FD _)) O<|Am 8 O (fun j s=>Ak (H4 _) O s.1 O) O<|Am 9 O (fun j s=>Fp (i:=1) AS O O (p.bs s.2) (by omega)) O<|Cf<|BV.only ((by constructor<;>assumption)) (i:=3) (by kernel_rfl) O ?_
     refine Bq (C2 (vs:=[n].map (Value.int .i64)) AD DT O O O O O) O ?_
     rintro q w4 ⟨o_q, -,D, -⟩
     have N:=BB R (BU D _)
     have T:=AH L D
     have hB4:=bt J D
     have K:=m.bs D
     clear R L J m
     refine BV.back<|BV.only ((by constructor<;>assumption)) (i:=4) (by kernel_rfl) O ?_
     refine Bq (C5 (base:=w.heap.size) AD DT O (by decide) O O T (AG o_q) (EI (fun _=>rfl) _) (by omega) (by omega) N.size) O ?_
     rintro y' w5 ⟨o,U,hy5, -⟩
     have Z:=EF N hy5 fun b e=>(AF T b e).1
     have G:=hB4.trans (U.mono zW)
     have t:=K.bl U zA
     rw [← map_append,show f.length+1=(f++[n]).length by rw [length_append];rfl] at o
     clear N T hB4 K U hy5
     refine BV.back<|Cr (B5 (Ce (B5 (Ce C7))))<|Am 10 O (fun j s=>Cq O) O<|Am 11 O (fun j s=>Bb O) O<|Am 12 O (fun j s=>Ck underlying139 O (FD _)) O<|Cf<|BV.done ((by constructor<;>assumption)) (by kernel_rfl) ?_
     exact Av (Fu (y') ⟨rfl,rfl,rfl,rfl,rfl,rfl,trivial⟩ (⟨Z,o,t,G⟩))
    clear R L J m
    rintro y' w5 ⟨Z,o,t,G⟩
    have s_d:=p.drop (show 1≤a.length by omega)
    refine Aw.only (i:=13) (by kernel_rfl) O<|Br (C4 (FD _) O O s_d.one' t (show 0<1 by omega)) ?_
    rintro w6 ⟨b_A6,Y,hz6⟩
    have ho6:=CL o fun b e=>Y.block b (AF o b e).2 fun e2=>by
     have:=Option.some.inj e2;have:=(AF o b e).1;omega
    refine Aw.back<|Aw.done (by kernel_rfl)<|Bi ?_
    exact Av (Bw ((f++[n],y',cut u 1 1 a.length,a.drop 1)) ⟨rfl,rfl,rfl,rfl,trivial⟩ (⟨hS.step g Q en,⟨k+1,by rw [hk,drop_drop]⟩,BB Z Y,ho6,s_d,G.grown Y (AA G) (by rintro _ ⟨⟩;omega),H,b_A6⟩) (by simp only [length_drop];omega))
   intro Q
   have Q:c≤f.length:=by have:=AB Q;omega
   exact Bn<|Al<|Al<|Bc<|B6 ((f,y,u,a)) ⟨rfl,rfl,trivial⟩ (⟨hS.done (.inr (.inl Q)),F,B,p,hB,H,E⟩)
  intro g
  have g:a=[]:=eq_nil_of_length_eq_zero (by have:=AB g;omega)
  exact Ae (dj:=15) rfl rfl rfl rfl<|Ae (dj:=15) rfl rfl rfl rfl<|Ae (dj:=15) rfl rfl rfl rfl<|Ae (dj:=15) rfl rfl rfl rfl<|B4 rfl<|Aj<|D5 rfl<|Bn<|Al<|Al<|Bc<|B6 ((f,y,u,a)) ⟨rfl,rfl,trivial⟩ (⟨hS.done (.inl g),F,B,p,hB,H,E⟩)
 rintro ⟨f,y,u,a⟩ j ⟨hN,F,B,I⟩
 dsimp only at hN F B I ⊢
 have s_y:=AG B
 refine B8<|Aq<|Ah<|Ad O<|Aa (Au AD O ‹_›) O ?_
 refine Ad O<|B1 O<|Aj<|Ao O ?_ ?_
 ·intro g
  have g:f.length<d:=by have:=AC g;omega
  refine Bh<|Aa (Cc (vs:=[]) (cs:=[]) O (by kernel_rfl)) O<|Aa (Eu underlying106 O) O ?_
  refine E2 O (Dq (Du (⟨by rw [LC,hN];exact if_pos g,F⟩)))
 intro g
 have g:¬f.length<d:=by have:=AB g;omega
 refine Cp<|Ad O<|An O O (Rv y f j (BD B)) ?_
 rintro _ w2 ⟨rfl,h⟩
 refine Ab O<|Ay<|Pw.ret1q O O ?_
 exact ⟨f,a,by rw [LC,hN];exact if_neg g,BB F (BU h _),(AT.clip B).bs h,u,I.bs h⟩
end Go.Proofs.YtblbopcaflaldaaGreatDoor

namespace Go.Proofs.YtblbopcaflaldaaGreatDoor
open Go Go.Dd Go.RowKit Go.Proofs.Tryz
open List hiding get
set_option maxRecDepth 100000
-- dd: text
theorem Pw.retCq {P:Program} {n:Nat} {E:BZ} {w:World} {pv:Value} {e:TypeId} {f:Func} {R:Value→World→Prop} {K:World→Prop} {p b k:Nat} {T:TypeId} {cs:List Value} {d:TypeDesc} (l:f.results= #[.cell p e]) (i:get E p=some (.pointer (some ⟨b,0,none⟩))) (o:AN w b T cs)
  (m:P.underlying e=some d) (g:(match d with| .struct _| .array _ _=>true|_=>false)=true) (q:(P.info? e).map (·.size)=some k) (j:cs.length=k) (h:R (.agg cs.toArray) w):Pw n E (Ot P f pv R K .ret) w:=fun a c=>by
 subst j
 exact bodyPost_ret (v:= .agg cs.toArray) (results_cell_row l a.tmps w b T cs.toArray (0,0) d (by simp [Array.getD_eq_getD_getElem?,c.has _ _ i]) o m g (by simpa using q)) c.dfr (.inl ⟨_,rfl,h⟩)
def Uo {St:Type} (n:Nat) (Ei:St→BZ) (I:St→World→Prop) (Q:BN):BN:=fun e a w=>match e with
 | .normal=>∃s,BR n (Ei s) a∧I s w
 |e=>Q e a w
section
variable {P : Program} {n : Nat} {E : BZ} {w : World} {St : Type} {Ei : St → BZ} {I : St → World → Prop} {Q : BN}
theorem Cw.midQ {c:Code} (Ei:St→BZ) (I:St→World→Prop) {K:Act→World→Prop} (h:Cw P (Uo n Ei I Q) n c E w) (k:∀s w',I s w' →Pw n (Ei s) K w'):Cw P (CI K Q) n c E w:=fun a e=>
 Code.wp_mono (fun x f w' b=>by
  cases x with
  |normal=>
   obtain ⟨s,d,g⟩:=b
   exact k s w' g f d
  |_=>exact b) (h a e)
theorem Fh (s:St) (hs:MP E (Ei s)) (b:I s w):Pw n E (Uo n Ei I Q .normal) w:=fun _ a=>⟨s,a.sub hs,b⟩
theorem Fg {c:List PanicEntry} (h:Pw n E (Q (.panic c)) w):Pw n E (Uo n Ei I Q (.panic c)) w:=h
end
def UP (k v:Value):Prop:=∃r ∈ HI,k=st r.word∧v=b8 (BitVec.ofNat 8 r.k)
theorem K9:∀r ∈ HI,∀q ∈ HI,r.word=q.word→r=q:=by decide+kernel
theorem Iy {r:Rw} (h:r ∈ HI):CM r.word=BitVec.ofNat 8 r.k:=by
 revert r
 unfold CM
 decide+kernel
theorem Iz {s:List UInt8} (h:∀r ∈ HI,r.word≠s):CM s=0#8:=by
 unfold CM
 rw [List.find?_eq_none.2 fun r a=>by simpa using h r a]
 rfl
section
variable {n : Nat} {E : BZ} {w : World} {ty : TypeId} {x y : Operand}
theorem Ex.kindL {M:Nat} {s:List UInt8} (g:ev E x=some (.map (some M))) (f:ev E y=some (st s)) (h:BX w M .string UP):Ex prog n E (.lookup 135 x y false) ty w (b8 (CM s)):=by
 by_cases a:∃r ∈ HI,r.word=s
 ·obtain ⟨r,a,rfl⟩:=a
  refine Fm underlying135 FC g f trivial h ⟨_,_,(show Tryz.prog.info? 77=some Tryz.t77 by kernel_rfl),rfl⟩ ⟨r,a,rfl,by rw [Iy a]⟩ ?_
  rintro v ⟨q,b,c,rfl⟩
  rw [K9 r a q b (Lf c),Iy b]
 ·rw [Iz fun r d e=>a ⟨r,d,e⟩]
  refine F9 underlying135 FC g f trivial h (show Tryz.prog.info? 77=some Tryz.t77 by kernel_rfl) O ?_
  rintro v ⟨q,b,c, -⟩
  exact a ⟨q,b,(Lf c).symm⟩
theorem Sj:∀k:BitVec 8,(∀r ∈ HI,¬r.k=k.toNat)→CD k=⟨0,[],0,0,[],[]⟩:=by decide+kernel
theorem Sk:∀k:BitVec 8,(∃r ∈ HI,r.k=k.toNat)→CD k ∈ HI∧(CD k).k=k.toNat:=by decide+kernel
theorem Ex.rowL {M:Nat} {k:BitVec 8} (g:ev E x=some (.map (some M))) (d:ev E y=some (b8 k)) (h:BX w M (.int .u8) RD):Ex prog n E (.lookup 122 x y false) ty w (.agg (CD k).cells.toArray):=by
 by_cases hr:∃r ∈ HI,r.k=k.toNat
 ·obtain ⟨f,i⟩:=Sk k hr
  refine Fm underlying122 CJ g d O h ⟨_,_,(show Tryz.prog.info? 125=some Tryz.t125 by kernel_rfl),rfl⟩ ⟨_,f,by rw [i],rfl⟩ ?_
  rintro v ⟨q,a,b,rfl⟩
  have:(k.toNat:Int)=(q.k:Int):=by injection b
  rw [LW (CD k) f q a (by omega)]
 ·rw [Sj k fun r c e=>hr ⟨r,c,e⟩]
  refine F9 underlying122 CJ g d O h (show Tryz.prog.info? 125=some Tryz.t125 by kernel_rfl) O ?_
  rintro v ⟨q,a,b, -⟩
  have:(k.toNat:Int)=(q.k:Int):=by injection b
  exact hr ⟨q,a,by omega⟩
end
theorem O7 {l:List (List UInt8)} {r:Rw} (a:r=CD (CM (l.getD 0 default))) (h:r.word=[]∨BP r.word l=none):CH l=none:=by
 have e:l.headD []=l.getD 0 default:=by cases l<;>rfl
 unfold CH
 rw [e,← a]
 rcases h with h|h
 ·rw [if_pos h]
 ·split
  ·rfl
  ·rw [h];rfl
theorem S1 {l a:List (List UInt8)} {r:Rw} (b:r=CD (CM (l.getD 0 default))) (c:¬r.word=[]) (h:BP r.word l=some a):CH l=(LC r.least r.most a).bind fun q=>
 (BP r.nxt q.2).bind fun d=>(GH r d).bind fun t=>(GZ r t.2.2).bind fun e=>
 if e.2=[] then some (CM (l.getD 0 default),q.1,t.1,t.2.1,e.1) else none:=by
 have e:l.headD []=l.getD 0 default:=by cases l<;>rfl
 unfold CH
 rw [e,← b,if_neg c,h]
 rfl
theorem Q2:∀k:BitVec 8,(CD k).most≤65536:=by decide+kernel
set_option maxHeartbeats 2000000 in
theorem T7 (W w:World) (A K M:Nat) (v:Value) (l:List (List UInt8)) (hG:Jr W) (h:LD W w A v l) (hl:∀x ∈ l,x.length≤65536) (hn:l.length≤65537) (h0:0<l.length) (t:BX w K .string UP) (hM:BX w M (.int .u8) RD) (hMA:M≠A):
  LF prog 127 [.pointer (some ⟨A,0,none⟩), .map (some K), .map (some M)] w SY
   (fun r w' =>∃c:N5,r=c.v∧CH l=some (pn c)∧w.grownBy w' (some A)∧(∃v' l',LD W w' A v' l')∧NK w' w.heap.size w'.heap.size c)
   (fun w' =>CH l=none∧w.grownBy w' (some A)):=by
 obtain ⟨k,ek⟩:∃k,k=CM (l.getD 0 default):=⟨_,rfl⟩
 obtain ⟨r,hr⟩:∃r,r=CD k:=⟨_,rfl⟩
 have U:=hr
 rw [ek] at U
 have zW:=h.bel.size
 have zA:=BL h.cell
 have lM:=hM.lt
 refine E3 (n:=77) func127 (by kernel_rfl) O O O<|Ah<|Dg EA O ?_
 rintro C w1 eA_x a G zhn1
 have z1:=G.size
 have h:=h.bs G
 have t:=t.bs G
 have hM:=hM.bs G
 have X:=h.sl
 have s_v:=X.bs h.bel
 have b_A:=h.cell
 have j:=BU G (some A)
 refine Bg<|Ad O<|Ad O<|Aa (Bb O) O<|A0 underlying139 O (FD _)<|Aa (Ak (H4 _) O ‹_› rfl) O ?_
 refine Aa (Bf AS O O ‹_› 0 O (by omega)) O ?_
 refine Aa (Bl (EB _) O ‹_› (by omega)) O ?_
 refine Aa (Ex.kindL O O t) O<|A0 underlying79 O (DA _) ?_
 rw [← ek]
 refine Br (C4 (DA _) O O O a (show 0<5 by decide)) ?_
 rintro w2 ⟨a,Z,hz2⟩
 replace a:AN w2 C 79 [b8 k, .slice none 0 0, .slice none 0 0, .int .i64 0, .int .i64 0]:=a
 replace hM:=GI hM Z (by intro e;have:=Option.some.inj e;omega)
 have h:=h.grow Z (by rintro _ ⟨⟩;omega)
 replace j:=EF j Z (by rintro _ ⟨⟩;omega)
 clear G Z X s_v b_A t
 refine Bg<|Ad O<|A0 underlying79 O (DA _)<|Aa (Ak (DG _) O ‹_› rfl) O ?_
 refine Aa (Ex.rowL O O hM) O ?_
 rw [← hr]
 refine Cv (cs:=r.cells) NC O O O O (fun _=>rfl) (rfl) ?_
 rintro A_r w3 eA_r f J zhn3
 have z3:=J.size
 have a:=a.bs J
 have h:=h.bs J
 replace j:=BB j (BU J _)
 have lx:=BL a
 have lr:=BL f
 have xr:C<A_r:=by omega
 clear J hM
 refine Bg<|Ad O<|A0 underlying125 O (Ic _)<|Aa (Ak (EB _) O ‹_› rfl) O ?_
 refine D1 O O (MV W w3 A v l r.word h) (fun w' t=>Dq (Du (⟨O7 U (.inr t.1),t.2 ▸ j⟩))) ?_
 rintro _ w4 ⟨l1,e1,Y,hz4,v1,hR1⟩
 have a:=a.by Y (fun e=>by have:=Option.some.inj e;omega)
 have f:=f.by Y (fun e=>by have:=Option.some.inj e;omega)
 replace j:=BB j Y
 have c1:=hR1
 clear h
 have k1:=FL e1
 have q1:∀x ∈ l1,x.length≤65536:=fun x S=>hl x (by rw [k1];exact mem_append_right _ S)
 have n1:l1.length≤65537:=by have:=cngA length k1;rw [length_append] at this;omega
 have hm:r.most≤65536:=by rw [hr];exact Q2 k
 refine Bj<|A0 underlying125 O (Ic _)<|Aa (Ak (EB _) O ‹_› rfl) O ?_
 refine Aa (En O O) O<|Aj<|Ao O ?_ ?_
 ·intro g
  have g:r.word=[]:=AC g
  refine Bh<|Aa (Cc (vs:=[]) (cs:=[]) O (by kernel_rfl)) O<|Aa (Eu underlying106 O) O ?_
  refine E2 O (Dq (Du (⟨O7 U (.inl g),j⟩)))
 intro g
 have g:¬r.word=[]:=AB g
 have D:=S1 U g e1
 rw [← ek] at D
 clear e1 g k1
 refine Cp<|Ad O<|A0 underlying125 O (AV _)<|Aa (Ak (AI _) O ‹_› rfl) O ?_
 refine A0 underlying125 O (AV _)<|Aa (Ak (AI _) O ‹_› rfl) O ?_
 refine D1 O O (HB W w4 A r.least r.most v1 l1 hG hR1 q1 n1 hm) (fun w' t=>Dq (Du (⟨by rw [D,t.1];rfl,BB j t.2⟩))) ?_
 rintro H w5 ⟨ns,l2,e2,N,d,v2,h⟩
 have a:=a.by N (fun e=>by have:=Option.some.inj e;omega)
 have f:=f.by N (fun e=>by have:=Option.some.inj e;omega)
 replace j:=BB j N
 rw [e2,Option.bind_some] at D
 dsimp only at D
 have k2:l1=ns.map Lib.itoa++l2:=(HH e2).1
 have q2:∀x ∈ l2,x.length≤65536:=fun x S=>q1 x (by rw [k2];exact mem_append_right _ S)
 have n2:l2.length≤65537:=by have:=cngA length k2;rw [length_append] at this;omega
 have z5:=N.size
 have i5:∀b,H.ownBlock=some b→b<w5.heap.size:=fun b e=>(d.lt b e).2
 clear hR1 e2 k2 c1
 refine A0 underlying79 O (AU _)<|Br (C4 (AU _) O O d.sl.one' a (show 1<5 by decide)) ?_
 rintro w6 ⟨q,i,T⟩
 replace d:=AE d i (fun b e=>by cases e;exact ⟨_,a⟩) (by decide)
 replace a:AN w6 C 79 [b8 k,H, .slice none 0 0, .int .i64 0, .int .i64 0]:=q
 have h:=h.grow i (by rintro _ ⟨⟩;omega)
 have f:=f.by i (fun e=>by have:=Option.some.inj e;omega)
 replace j:=EF j i (by rintro _ ⟨⟩;omega)
 clear q
 refine Bg<|Ad O<|A0 underlying125 O (Ic _)<|Aa (Ak (EB _) O ‹_› rfl) O ?_
 refine D1 O O (MV W w6 A v2 l2 r.nxt h) (fun w' t=>Dq (Du (⟨by rw [D,t.1];rfl,t.2 ▸ j⟩))) ?_
 rintro _ w7 ⟨l3,e3,B,hz7,v3,hR3⟩
 replace d:=AE d B (fun b e=>by cases e;exact ⟨_,h.cell⟩) (by decide)
 have a:=a.by B (fun e=>by have:=Option.some.inj e;omega)
 have f:=f.by B (fun e=>by have:=Option.some.inj e;omega)
 replace j:=BB j B
 rw [e3,Option.bind_some] at D
 have k3:=FL e3
 have q3:∀x ∈ l3,x.length≤65536:=fun x S=>q2 x (by rw [k3];exact mem_append_right _ S)
 have n3:l3.length≤65537:=by have:=cngA length k3;rw [length_append] at this;omega
 clear e3 k3 h
 refine Aj<|Aq ?_
 refine Cw.midQ (St:=(Value×List Int×Int×Value×List (List UInt8))) (fun z=>[(0, .pointer (some ⟨A,0,none⟩)),(6, .pointer (some ⟨C,0,none⟩)),(7, .pointer (some ⟨A_r,0,none⟩))]) (fun z w' =>GH r l3=some (z.2.1,z.2.2.1,z.2.2.2.2)∧w.grownBy w' (some A)∧AN w' C 79 [b8 k,H,z.1, .int .i64 z.2.2.1, .int .i64 0]∧AN w' A_r 125 r.cells∧AT w' w4.heap.size 3 1 H ns.length (ns.map (Value.int .i64))∧AT w' w7.heap.size 3 1 z.1 z.2.1.length (z.2.1.map (Value.int .i64))∧LD W w' A z.2.2.2.1 z.2.2.2.2) ?_ ?_
 ·refine Ar<|Ah<|Aa (Cj (RH _) (Qi _) O O ‹_›) O ?_
  refine An O O (LQ r w7) ?_
  rintro _ w8 ⟨rfl,F⟩
  have z8:=F.size
  have a:=a.bs F
  have f:=f.bs F
  have d:=d.bs F
  have h:=hR3.bs F
  replace j:=BB j (BU F _)
  clear hR3 F
  refine Ab O<|Aj<|Ao O ?_ ?_
  ·intro e
   refine Bh<|Ad O<|D1 O O (HB W w8 A 1 65536 v3 l3 hG h q3 n3 (AX _)) (fun w' t=>Pw.blkP (Fg (Du (⟨by rw [D,GH,if_pos e,t.1];rfl,BB j t.2⟩)))) ?_
   rintro y w9 ⟨s,R,V,o,m,v4,hR4⟩
   replace d:=AE d o (fun b e=>by cases e;exact ⟨_,h.cell⟩) (by decide)
   have a:=a.by o (fun e=>by have:=Option.some.inj e;omega)
   have f:=f.by o (fun e=>by have:=Option.some.inj e;omega)
   replace j:=BB j o
   replace h:=hR4
   have z9:=o.size
   refine A0 underlying79 O (AU _)<|Br (C4 (AU _) O O m.sl.one' a (show 2<5 by decide)) ?_
   rintro L ⟨q,i,T⟩
   replace d:=AE d i (fun b e=>by cases e;exact ⟨_,a⟩) (by decide)
   replace m:=AE m i (fun b e=>by cases e;exact ⟨_,a⟩) (by decide)
   replace a:AN L C 79 [b8 k,H,y, .int .i64 0, .int .i64 0]:=q
   have h:=h.grow i (by rintro _ ⟨⟩;omega)
   have f:=f.by i (fun e=>by have:=Option.some.inj e;omega)
   replace j:=EF j i (by rintro _ ⟨⟩;omega)
   refine Be<|Bi ?_
   exact Fh ((y,s,0,v4,R)) ⟨rfl,rfl,rfl,trivial⟩ (⟨by rw [GH,if_pos e,V];rfl,j,a,f,d,m.mono (by omega),h⟩)
  intro e
  have e:¬r.shaped=true:=by rw [e];decide
  refine Ah<|A0 underlying125 O (Ic _)<|Aa (Ak (EB _) O ‹_› rfl) O ?_
  refine Aa (Dz O O) O<|Ab O<|Aj<|Ao O ?_ ?_
  ·intro e9
   have e9:¬r.nxt=[]:=by simpa using e9
   refine Bh<|Ad O<|D1 O O (HB W w8 A 1 1 v3 l3 hG h q3 n3 (by decide)) (fun w' t=>Pw.blkP (Fg (Du (⟨by rw [D,GH,if_neg e,if_neg e9,t.1];rfl,BB j t.2⟩)))) ?_
   rintro y w9 ⟨s,R,V,o,m,v4,hR4⟩
   replace d:=AE d o (fun b e=>by cases e;exact ⟨_,h.cell⟩) (by decide)
   have a:=a.by o (fun e=>by have:=Option.some.inj e;omega)
   have f:=f.by o (fun e=>by have:=Option.some.inj e;omega)
   replace j:=BB j o
   replace h:=hR4
   have z9:=o.size
   have ls:1≤s.length:=(HH V).2.1
   have s_y:=m.slT
   have eh:s.getD 0 default=s.headD 0:=by cases s<;>rfl
   refine Aa (Bf AD O O ‹_› 0 O (by omega)) O ?_
   refine Aa (Bl (AI _) O ‹_› (by omega)) O ?_
   refine A0 underlying79 O (AV _) ?_
   rw [eh]
   refine Br (C4 (AV _) O O O a (show 3<5 by decide)) ?_
   rintro L ⟨q,i,T⟩
   replace d:=AE d i (fun b e=>by cases e;exact ⟨_,a⟩) (by decide)
   replace a:AN L C 79 [b8 k,H, .slice none 0 0, .int .i64 (s.headD 0), .int .i64 0]:=q
   have h:=h.grow i (by rintro _ ⟨⟩;omega)
   have f:=f.by i (fun e=>by have:=Option.some.inj e;omega)
   replace j:=EF j i (by rintro _ ⟨⟩;omega)
   refine Be<|Bi ?_
   exact Fh ((.slice none 0 0,[],s.headD 0,v4,R)) ⟨rfl,rfl,rfl,trivial⟩ (⟨by rw [GH,if_neg e,if_neg e9,V];rfl,j,a,f,d, .inl ⟨rfl, .inl ⟨rfl,rfl⟩⟩,h⟩)
  intro e9
  have e9:r.nxt=[]:=by simpa using e9
  exact Ca<|Bi<|Fh ((.slice none 0 0,[],0,v3,l3)) ⟨rfl,rfl,rfl,trivial⟩ (⟨by rw [GH,if_neg e,if_pos e9],j,a,f,d, .inl ⟨rfl, .inl ⟨rfl,rfl⟩⟩,h⟩)
 have zg7:=j.size
 clear j a f d hR3 Y N i B
 rintro ⟨y,s,n,v4,R⟩ L ⟨V,j,a,f,d,m,h⟩
 dsimp only at V j a f d m h ⊢
 rw [V,Option.bind_some] at D
 dsimp only at D
 have k4:=Mk V
 dsimp only at k4
 have q4:∀x ∈ R,x.length≤65536:=fun x S=>q3 x (by rw [k4];exact mem_append_right _ S)
 have n4:R.length≤65537:=by have:=cngA length k4;rw [length_append] at this;omega
 clear V k4
 refine B8<|Aq<|Ah<|A0 underlying125 O (Ic _)<|Aa (Ak (EB _) O ‹_› rfl) O ?_
 refine Aa (Dz O O) O<|Aj ?_
 refine Cw.midQ (St:=(Int×Value×List (List UInt8))) (fun z=>[(0, .pointer (some ⟨A,0,none⟩)),(6, .pointer (some ⟨C,0,none⟩))]) (fun z w' =>GZ r R=some (z.1,z.2.2)∧w.grownBy w' (some A)∧AN w' C 79 [b8 k,H,y, .int .i64 n, .int .i64 z.1]∧AT w' w4.heap.size 3 1 H ns.length (ns.map (Value.int .i64))∧AT w' w7.heap.size 3 1 y s.length (s.map (Value.int .i64))∧LD W w' A z.2.1 z.2.2) ?_ ?_
 ·refine Ao O ?_ ?_
  ·intro e
   have e:¬r.last=[]:=by simpa using e
   refine Ah<|Ad O<|A0 underlying125 O (Ic _)<|Aa (Ak (EB _) O ‹_› rfl) O ?_
   refine D1 O O (MV W L A v4 R r.last h) (fun w' t=>Dq (Fg (Du (⟨by rw [D,GZ,if_neg e,t.1];rfl,t.2 ▸ j⟩)))) ?_
   rintro _ w11 ⟨l5,e5,B,hz7,v5,hR5⟩
   replace d:=AE d B (fun b e=>by cases e;exact ⟨_,h.cell⟩) (by decide)
   replace m:=AE m B (fun b e=>by cases e;exact ⟨_,h.cell⟩) (by decide)
   have a:=a.by B (fun e=>by have:=Option.some.inj e;omega)
   have f:=f.by B (fun e=>by have:=Option.some.inj e;omega)
   replace j:=BB j B
   replace h:=hR5
   have k5:=FL e5
   have q5:∀x ∈ l5,x.length≤65536:=fun x S=>q4 x (by rw [k5];exact mem_append_right _ S)
   have n5:l5.length≤65537:=by have:=cngA length k5;rw [length_append] at this;omega
   refine Aj<|Bh<|Ad O<|D1 O O (HB W w11 A 1 1 v5 l5 hG h q5 n5 (by decide)) (fun w' t=>Fg (Du (⟨by rw [D,GZ,if_neg e,e5,Option.bind_some,t.1];rfl,BB j t.2⟩))) ?_
   rintro u w12 ⟨ps,l6,e6,o,o_u,v6,hR6⟩
   replace d:=AE d o (fun b e=>by cases e;exact ⟨_,h.cell⟩) (by decide)
   replace m:=AE m o (fun b e=>by cases e;exact ⟨_,h.cell⟩) (by decide)
   have a:=a.by o (fun e=>by have:=Option.some.inj e;omega)
   have f:=f.by o (fun e=>by have:=Option.some.inj e;omega)
   replace j:=BB j o
   replace h:=hR6
   have ls:1≤ps.length:=(HH e6).2.1
   have s_y:=o_u.slT
   have eh:ps.getD 0 default=ps.headD 0:=by cases ps<;>rfl
   refine Aa (Bf AD O O ‹_› 0 O (by omega)) O ?_
   refine Aa (Bl (AI _) O ‹_› (by omega)) O ?_
   refine A0 underlying79 O (AV _) ?_
   rw [eh]
   refine Br (C4 (AV _) O O O a (show 4<5 by decide)) ?_
   rintro w13 ⟨q,i,T⟩
   replace d:=AE d i (fun b e=>by cases e;exact ⟨_,a⟩) (by decide)
   replace m:=AE m i (fun b e=>by cases e;exact ⟨_,a⟩) (by decide)
   replace a:AN w13 C 79 [b8 k,H,y, .int .i64 n, .int .i64 (ps.headD 0)]:=q
   have h:=h.grow i (by rintro _ ⟨⟩;omega)
   have f:=f.by i (fun e=>by have:=Option.some.inj e;omega)
   replace j:=EF j i (by rintro _ ⟨⟩;omega)
   refine Be ?_
   exact Fh ((ps.headD 0,v6,l6)) ⟨rfl,rfl,trivial⟩ (⟨by rw [GZ,if_neg e,e5,Option.bind_some,e6];rfl,j,a,d,m,h⟩)
  intro e
  have e:r.last=[]:=by simpa using e
  exact Ca<|Fh ((0,v4,R)) ⟨rfl,rfl,trivial⟩ (⟨by rw [GZ,if_pos e],j,a,d,m,h⟩)
 clear j a f d m h
 rintro ⟨p,v5,l5⟩ w11 ⟨e5,j,a,d,m,h⟩
 dsimp only at e5 j a d m h ⊢
 rw [e5,Option.bind_some] at D
 dsimp only at D
 refine B8 ?_
 have X:=h.sl
 have s_v:=X.bs h.bel
 have b_A:=h.cell
 refine Aq<|Ah<|Ad O<|Aa (Bb O) O<|A0 underlying139 O (FD _)<|Aa (Ak (H4 _) O ‹_› rfl) O ?_
 refine Aa (Au AS O ‹_›) O ?_
 refine Aa (Da O O) O<|Aj<|Ao O ?_ ?_
 ·intro g
  have g:¬l5=[]:=fun e=>by rw [e] at g;exact absurd (AC g) (by decide)
  refine Bh<|Aa (Cc (vs:=[]) (cs:=[]) O (by kernel_rfl)) O<|Aa (Eu underlying106 O) O ?_
  refine E2 O (Dq (Du (⟨by rw [D];exact if_neg g,j⟩)))
 intro g
 have g:l5=[]:=eq_nil_of_length_eq_zero (by have:=AB g;omega)
 rw [if_pos g] at D
 have one:[b8 k,H,y, .int .i64 n, .int .i64 p].all (·.oneCell')=true:=by
  rw [all_cons,all_cons,all_cons,d.sl.one',m.sl.one'];rfl
 have zz:=j.size
 refine Cp<|Aa (Cj (CY _) (CW _) O O ‹_›) O ?_
 refine Br (Cz (cs:=[b8 k,H,y, .int .i64 n, .int .i64 p]) (k:=5) (by kernel_rfl) O O O one a O) ?_
 rintro w12 ⟨q,i,T⟩
 replace d:=AE d i (fun b e=>by cases e;exact ⟨_,a⟩) (by decide)
 replace m:=AE m i (fun b e=>by cases e;exact ⟨_,a⟩) (by decide)
 have h:=h.grow i (by rintro _ ⟨⟩;omega)
 replace j:=EF j i (by rintro _ ⟨⟩;omega)
 clear a
 refine Ay<|Pw.retCq O O ‹_› underlying79 O O O ?_
 refine ⟨⟨k,H,y,ns,s,n,p⟩,rfl,D,j,⟨_,_,h⟩,d.mono (by omega),m.mono (by omega),fun b e=> ?_,fun b e=> ?_,fun b h1 h2=> ?_⟩
 ·have:=d.lt b e;omega
 ·have:=m.lt b e;omega
 ·have:=i5 b h1
  have:=(m.lt b h2).1
  omega
end Go.Proofs.YtblbopcaflaldaaGreatDoor

namespace Go.Proofs.YtblbopcaflaldaaGreatDoor
open Go Go.Dd Go.RowKit List
set_option maxRecDepth 100000
theorem Mg:∀(l:List (List UInt8)) (b:Nat),BT b l=((BT l.length l).1.take b,((BT l.length l).1.drop b).map Lib.itoa++(BT l.length l).2)
 |[],b=>by cases b<;>simp [BT]
 |w::l,b=>by
  rw [length_cons]
  cases h:CN w with
  |none=>cases b<;>simp [BT,h]
  |some n=>
   have e:=(KO h).1
   have k:=(GG l.length l).1
   cases b with
   |zero=>simp only [BT,h,take_zero,drop_zero,map_cons,cons_append,e,k]
   |succ b=>simp only [BT,h,Mg l b,take_succ_cons,List.drop_succ_cons]
theorem Og {l:List (List UInt8)} {F:List Int} {R:List (List UInt8)} (h:BT l.length l=(F,R)) (a b:Nat):LC a b l=if min F.length b<a then none else some (F.take b,(F.drop b).map Lib.itoa++R):=by
 unfold LC
 rw [Mg,h]
 simp only [length_take,Nat.min_comm]
theorem Q1:∀r ∈ HI,(CD (BitVec.ofNat 8 r.k)).word=r.word:=by decide+kernel
theorem Q0 (s:List UInt8):(CD (CM s)).word=[]∨(CD (CM s)).word=s:=by
 by_cases h:∃r ∈ HI,r.word=s
 ·obtain ⟨r,a,rfl⟩:=h
  right
  rw [Iy a,Q1 r a]
 ·left
  rw [Iz fun r a e=>h ⟨r,a,e⟩]
  decide
theorem J5 {s:List UInt8} {X:List Int} {R:List (List UInt8)} (c:s≠[]) (a:CN s=none) (b:∀n ∈ X,0≤n∧n≤999999999):BP s (X.map Lib.itoa++R)=if X=[] then BP s R else none:=by
 cases X with
 |nil=>rfl
 |cons x X=>
  rw [if_neg (by simp)]
  unfold BP
  rw [if_neg c,map_cons,cons_append]
  simp only
  rw [if_neg]
  intro e
  rw [← e,Pd (b x (by simp))] at a
  cases a
structure RL (w0:List UInt8) (r0:List (List UInt8)) (F:List Int) (R:List (List UInt8)):Prop where
 h:BT r0.length r0=(F,R)
 l:r0.length≤65536
theorem RL.F {e:List UInt8} {a:List (List UInt8)} {F:List Int} {R:List (List UInt8)} (h:RL e a F R):F.length≤65536∧(∀n ∈ F,0≤n∧n≤999999999)∧F.map Lib.itoa++R=a∧R=a.drop F.length:=by
 obtain ⟨b,c,d⟩:=GG a.length a
 rw [h.h] at b c d
 have:=h.l
 refine ⟨by simp only at c;omega,d,b, ?_⟩
 simp only at b
 rw [← b,List.drop_append_of_le_length (by simp),drop_of_length_le (by simp)]
 rfl
theorem GJ {a:List UInt8} {b:List (List UInt8)} {F:List Int} {R:List (List UInt8)} (h:RL a b F R) {r:Rw} (c:CD (CM a)=r):CH (a::b)=if r.word=[] then none else if min F.length r.most<r.least then none else (BP r.nxt ((F.drop r.most).map Lib.itoa++R)).bind fun g=>(GH r g).bind fun t=>(GZ r t.2.2).bind fun e=>
  if e.2=[] then some (CM a,F.take r.most,t.1,t.2.1,e.1) else none:=by
 unfold CH
 rw [List.headD_cons,c]
 split
 ·rfl
 ·rename_i e
  have f:r.word=a:=by
   rcases Q0 a with k|k
   ·rw [c] at k;exact absurd k e
   ·rw [← c];exact k
  have d:BP r.word (a::b)=some b:=by
   unfold BP
   rw [if_neg e]
   exact if_pos f.symm
  rw [d,Option.bind_some,Og h.h]
  split<;>rfl
theorem O5 {r:Rw} {w:List UInt8} {t:List (List UInt8)} (a:r.shaped=false) (b:r.nxt≠[]):GH r (w::t)=(CN w).map fun n=>([],n,t):=by
 unfold GH
 rw [if_neg (by rw [a];decide),if_neg b]
 unfold LC
 cases h:CN w with
 |none=>simp [BT,h]
 |some n=>simp [BT,h]
theorem O6 {r:Rw} (a:r.shaped=false) (b:r.nxt≠[]):GH r []=none:=by
 unfold GH
 rw [if_neg (by rw [a];decide),if_neg b]
 rfl
theorem TB {a:List UInt8} {b:List (List UInt8)} {F:List Int} {R:List (List UInt8)} (h:RL a b F R) (c:CM a=0#8):CH (a::b)=none:=by
 rw [GJ h (r:=⟨0,[],0,0,[],[]⟩) (by rw [c];rfl),if_pos rfl]
theorem TA {b:List UInt8} {f:List (List UInt8)} {F:List Int} {R:List (List UInt8)} (h:RL b f F R) {k:BitVec 8} (c:CM b=k) (a:k=1#8∨k=2#8):CH (b::f)=if 1≤F.length∧R=[] then some (k,[],F,0,0) else none:=by
 obtain ⟨d,i,g,j⟩:=h.F
 obtain ⟨q,e⟩:∃q,CD k=⟨k.toNat,q,0,0,[],[]⟩∧q≠[]:=by rcases a with rfl|rfl<;>exact ⟨_,rfl,by decide⟩
 rw [GJ h (r:=⟨k.toNat,q,0,0,[],[]⟩) (by rw [c];exact e.1),if_neg e.2,if_neg (by simp)]
 simp only [drop_zero,take_zero,g,BP,if_true,Option.bind_some,GH,Rw.shaped,decide_true,Bool.true_or]
 rw [Og h.h]
 by_cases h1:1≤F.length
 ·rw [if_neg (by omega)]
  simp only [Option.map_some,Option.bind_some,GZ,if_true,take_of_length_le d,drop_of_length_le d,map_nil,nil_append,c]
  by_cases hR:R=[]
  ·rw [if_pos hR,if_pos ⟨h1,hR⟩]
  ·rw [if_neg hR,if_neg fun k=>hR k.2]
 ·rw [if_pos (by omega),if_neg fun k=>h1 k.1]
  rfl
theorem DK {F:List Int} {b:Nat}:F.drop b=[]↔F.length≤b:=by rw [List.drop_eq_nil_iff]
theorem QQ {b:List UInt8} {f:List (List UInt8)} {F:List Int} {R:List (List UInt8)} (h:RL b f F R) {k:BitVec 8} {m:Nat} (c:CM b=k) (a:(m=2∧(k=3#8∨k=4#8∨k=7#8))∨(m=1∧k=5#8)):CH (b::f)=if F.length=m∧R=[] then some (k,F,[],0,0) else none:=by
 obtain ⟨q,d⟩:∃q,CD k=⟨k.toNat,q,m,m,[],[]⟩∧q≠[]:=by rcases a with ⟨rfl,rfl|rfl|rfl⟩|⟨rfl,rfl⟩<;>exact ⟨_,rfl,by decide⟩
 have g:m≠0:=by omega
 rw [GJ h (r:=⟨k.toNat,q,m,m,[],[]⟩) (by rw [c];exact d.1),if_neg d.2]
 by_cases h1:F.length<m
 ·rw [if_pos (by simp only;omega),if_neg fun k=>by omega]
 ·rw [if_neg (by simp only;omega)]
  have sh:¬((decide (m=0)||decide (([]:List UInt8)=[116,111]))=true):=by simp [g]
  simp only [BP,if_true,Option.bind_some,GH,Rw.shaped,if_neg sh,GZ,c]
  by_cases h2:F.length=m∧R=[]
  ·rw [if_pos h2,drop_of_length_le (by omega),take_of_length_le (by omega),h2.2]
   rfl
  ·rw [if_neg h2,if_neg]
   intro e
   rw [List.append_eq_nil_iff,map_eq_nil_iff,DK] at e
   exact h2 ⟨by omega,e.2⟩
theorem T9 {c:List UInt8} {g:List (List UInt8)} {F:List Int} {R:List (List UInt8)} (h:RL c g F R) {k:BitVec 8} (d:CM c=k) (b:k=10#8∨k=11#8):CH (c::g)=if F.length=1∧2≤R.length∧R.getD 0 default=[116,111]∧(BT (R.drop 1).length (R.drop 1)).1.length=R.length - 1 then some (k,F,(BT (R.drop 1).length (R.drop 1)).1,0,0) else none:=by
 obtain ⟨v,p,A,s⟩:=h.F
 obtain ⟨q,f⟩:∃q,CD k=⟨k.toNat,q,1,1,[116,111],[]⟩∧q≠[]:=by rcases b with rfl|rfl<;>exact ⟨_,rfl,by decide⟩
 rw [GJ h (r:=⟨k.toNat,q,1,1,[116,111],[]⟩) (by rw [d];exact f.1),if_neg f.2]
 by_cases h1:F.length<1
 ·rw [if_pos (by simp only;omega),if_neg fun k=>by omega]
 ·rw [if_neg (by simp only;omega)]
  simp only
  rw [J5 (by decide) (by decide) fun n o=>p n (mem_of_mem_drop o)]
  by_cases h2:F.length=1
  ·rw [if_pos (DK.2 (by omega))]
   cases R with
   |nil=>simp [BP]
   |cons x t=>
    have l:(x::t).drop 1=t:=rfl
    have m:(x::t).getD 0 default=x:=rfl
    rw [l,m]
    by_cases h3:x=[116,111]
    ·subst h3
     have sh:(Rw.mk k.toNat q 1 1 [116,111] []).shaped=true:=by simp [Rw.shaped]
     have lt:t.length≤65536:=by
      have:=cngA length s
      rw [length_drop,length_cons] at this
      have:=h.l
      omega
     simp only [BP,reduceCtorEq,if_false,if_true,Option.bind_some,GH,sh]
     obtain ⟨G,S,i⟩:∃G S,BT t.length t=(G,S):=⟨_,_,rfl⟩
     obtain ⟨a,j,w⟩:=GG t.length t
     rw [i] at a j ⊢
     simp only at a j
     rw [Og i]
     have u:=cngA length a
     rw [length_append,length_map] at u
     simp only [length_cons,Nat.add_sub_cancel]
     by_cases h4:1≤G.length
     ·rw [if_neg (by omega)]
      simp only [Option.map_some,Option.bind_some,GZ,if_true,take_of_length_le (show G.length≤65536 by omega),drop_of_length_le (show G.length≤65536 by omega),map_nil,nil_append,d,take_of_length_le (show F.length≤1 by omega)]
      by_cases h5:S=[]
      ·have:S.length=0:=by rw [h5];rfl
       rw [if_pos h5,if_pos ⟨h2,by omega,trivial,by omega⟩]
      ·rw [if_neg h5,if_neg]
       rintro ⟨_,_,_,e⟩
       exact h5 (eq_nil_of_length_eq_zero (by omega))
     ·rw [if_pos (by omega),if_neg]
      ·rfl
      ·rintro ⟨_,z,_,y⟩
       omega
    ·simp [BP,h3]
  ·rw [if_neg fun e=>h2 (by have:=DK.1 e;omega),if_neg fun k=>h2 k.1]
   rfl
theorem T8 {f:List UInt8} {i:List (List UInt8)} {F:List Int} {R:List (List UInt8)} (h:RL f i F R) (g:CM f=8#8):CH (f::i)=if F.length=2∧R.length=4∧R.getD 0 default=[115,116,101,112]∧R.getD 2 default=[112,97,100]∧(CN (R.getD 1 default)).isSome=true∧(CN (R.getD 3 default)).isSome=true then some (8#8,F,[],(CN (R.getD 1 default)).getD 0,(CN (R.getD 3 default)).getD 0) else none:=by
 obtain ⟨o,j,q,m⟩:=h.F
 rw [GJ h (r:=⟨8,[119,105,110,100,111,119],2,2,[115,116,101,112],[112,97,100]⟩) (by rw [g];rfl),if_neg (by decide)]
 by_cases h1:F.length<2
 ·rw [if_pos (by simp only;omega),if_neg fun k=>by omega]
 ·rw [if_neg (by simp only;omega)]
  simp only
  rw [J5 (by decide) (by decide) fun n l=>j n (mem_of_mem_drop l)]
  by_cases h2:F.length=2
  ·rw [if_pos (DK.2 (by omega)),take_of_length_le (by omega),g]
   have c:∀w t,GH ⟨8,[119,105,110,100,111,119],2,2,[115,116,101,112],[112,97,100]⟩ (w::t)=(CN w).map fun n=>([],n,t):=fun w t=>O5 rfl (by decide)
   have d:GH ⟨8,[119,105,110,100,111,119],2,2,[115,116,101,112],[112,97,100]⟩ []=none:=O6 rfl (by decide)
   match R with
   |[]=>simp [BP]
   |[x]=>by_cases h3:x=[115,116,101,112]<;>simp [BP,h3,d]
   |[x,a]=>
    by_cases h3:x=[115,116,101,112]
    ·simp only [BP,h3,if_true,reduceCtorEq,if_false,Option.bind_some,c]
     cases CN a<;>simp [GZ,BP]
    ·simp [BP,h3]
   |[x,a,y]=>
    by_cases h3:x=[115,116,101,112]
    ·simp only [BP,h3,if_true,reduceCtorEq,if_false,Option.bind_some,c]
     cases CN a with
     |none=>simp
     |some n=>by_cases h4:y=[112,97,100]<;>simp [GZ,BP,h4,LC,BT]
    ·simp [BP,h3]
   |x::a::y::b::t=>
    by_cases h3:x=[115,116,101,112]
    ·simp only [BP,h3,if_true,reduceCtorEq,if_false,Option.bind_some,c]
     cases ha:CN a with
     |none=>simp [ha]
     |some n=>
      by_cases h4:y=[112,97,100]
      ·cases hb:CN b with
       |none=>simp [GZ,BP,h4,LC,BT,hb]
       |some p=>cases t<;>simp [GZ,BP,h4,LC,BT,hb,ha,h2]
      ·simp [GZ,BP,h4]
    ·simp [BP,h3]
  ·rw [if_neg fun e=>h2 (by have:=DK.1 e;omega),if_neg fun k=>h2 k.1]
   rfl
theorem QP {g:List UInt8} {o:List (List UInt8)} {F:List Int} {R:List (List UInt8)} (h:RL g o F R) {k:BitVec 8} {b:List UInt8} (l:CM g=k) (d:(k=6#8∧b=[98,121])∨(k=9#8∧b=[119,105,100,101])∨((k=12#8∨k=13#8)∧b=[97,108,111,110,103])):
  CH (g::o)=if 1≤F.length∧(F.length≤1∨k=12#8)∧R.length=2∧R.getD 0 default=b∧(CN (R.getD 1 default)).isSome=true then some (k,F,[],(CN (R.getD 1 default)).getD 0,0) else none:=by
 obtain ⟨y,v,A,z⟩:=h.F
 obtain ⟨q,m,p,j,i,c⟩:∃q m,CD k=⟨k.toNat,q,1,m,b,[]⟩∧q≠[]∧((k=12#8∧65536≤m)∨(k≠12#8∧m=1))∧(b≠[]∧CN b=none∧b≠[116,111]):=by
  rcases d with ⟨rfl,rfl⟩|⟨rfl,rfl⟩|⟨rfl|rfl,rfl⟩<;>exact ⟨_,_,rfl,by decide,by decide,by decide⟩
 rw [GJ h (r:=⟨k.toNat,q,1,m,b,[]⟩) (by rw [l];exact p),if_neg j]
 by_cases h1:F.length<1
 ·rw [if_pos (by simp only;omega),if_neg fun k=>by omega]
 ·rw [if_neg (by simp only;omega)]
  simp only
  rw [J5 c.1 c.2.1 fun n u=>v n (mem_of_mem_drop u)]
  by_cases h2:F.length≤m
  ·have s:F.length≤1∨k=12#8:=by
    rcases i with ⟨e,_⟩|⟨_,e⟩
    ·exact .inr e
    ·left;omega
   have sh:(Rw.mk k.toNat q 1 m b []).shaped=false:=by simp [Rw.shaped,c.2.2]
   rw [if_pos (DK.2 h2),take_of_length_le h2,l]
   match R with
   |[]=>simp [BP,c.1]
   |[x]=>
    by_cases h3:x=b
    ·simp [BP,c.1,h3,O6 sh c.1]
    ·simp [BP,c.1,h3]
   |x::a::t=>
    by_cases h3:x=b
    ·simp only [BP,h3,if_true,c.1,if_false,Option.bind_some,O5 sh c.1]
     cases ha:CN a with
     |none=>simp [ha]
     |some n=>cases t<;>simp [GZ,ha,s,show 1≤F.length by omega]
    ·simp [BP,c.1,h3]
  ·rw [if_neg fun e=>h2 (DK.1 e),if_neg]
   ·rfl
   ·rintro ⟨_,e|e,_⟩
    ·rcases i with ⟨f,w⟩|⟨_,f⟩<;>omega
    ·rcases i with ⟨_,w⟩|⟨f,_⟩
     ·omega
     ·exact f e
end Go.Proofs.YtblbopcaflaldaaGreatDoor

namespace Go.Proofs.YtblbopcaflaldaaGreatDoor
open Go Go.Dd Go.RowKit List Go.Proofs.Tryz
set_option maxRecDepth 100000
-- dd: text
theorem GL {s:List UInt8} {i:Nat} (h:i<s.length):s.drop i=s.getD i 0::s.drop (i+1):=by
 rw [getD_eq_getElem?_getD,getElem?_eq_getElem h]
 exact drop_eq_getElem_cons h
structure LA (c:UInt8) (s:List UInt8) (i f:Nat) (pre:List (List UInt8)):Prop where
 fi:f≤i
 il:i≤s.length
 cut:BQ c s=pre++BQ c (s.drop f)
 no:c ∉ (s.drop f).take (i - f)
 pl:pre.length≤i
theorem LA.hit {c:UInt8} {s:List UInt8} {i f:Nat} {a:List (List UInt8)} (h:LA c s i f a) (b:i<s.length) (e:s.getD i 0=c):LA c s (i+1) (i+1) (a++[(s.drop f).take (i - f)]):=by
 refine ⟨AX _,b, ?_,by simp,by rw [length_append,length_singleton];have:=h.pl;omega⟩
 have d:s.drop f=(s.drop f).take (i - f)++c::s.drop (i+1):=by
  have:=take_append_drop (i - f) (s.drop f)
  rw [drop_drop,show f+(i - f)=i by have:=h.fi;omega,GL b,e] at this
  exact this.symm
 rw [h.cut,d,Ks _ h.no,← d,append_assoc]
 rfl
theorem LA.miss {c:UInt8} {s:List UInt8} {i f:Nat} {b:List (List UInt8)} (h:LA c s i f b) (d:i<s.length) (e:s.getD i 0≠c):LA c s (i+1) f b:=by
 have j:=h.fi
 refine ⟨by omega,d,h.cut, ?_,by have:=h.pl;omega⟩
 have g:(s.drop f).take (i+1 - f)=(s.drop f).take (i - f)++[s.getD i 0]:=by
  rw [show i+1 - f=(i - f)+1 by omega,take_succ_eq_append_getElem (by rw [length_drop];omega),getElem_drop,getD_eq_getElem?_getD,getElem?_eq_getElem d]
  simp [show f+(i - f)=i by omega]
 rw [g]
 intro a
 rcases List.mem_append.1 a with a|a
 ·exact h.no a
 ·exact e (List.mem_singleton.1 a).symm
theorem LA.done {c:UInt8} {s:List UInt8} {i f:Nat} {a:List (List UInt8)} (h:LA c s i f a) (b:i=s.length):BQ c s=a++[s.drop f]:=by
 have:=h.no
 rw [b,take_of_length_le (by simp)] at this
 rw [h.cut,L4 this]
theorem LU (s:List UInt8) (c:UInt8) (W:World) (hs:s.length≤100000):AJ prog 128 [st s, .int .u8 (c.toNat:Int)] W (fun r w' =>Below W.heap.size W w' ∧w'.ownsRow W.heap.size 9 1 r (BQ c s).length ((BQ c s).map st)):=by
 refine Bd (n:=34) func128 O<|Ah<|Ab O<|Bg<|Ab O<|Bg<|Ab O<|Bj<|Ab O<|Aj<|Ar ?_
 refine Bo (S:=(Nat×Nat×List (List UInt8)×Value)) (fun z=>[(0,st s),(1, .int .u8 (c.toNat:Int)),(5,z.2.2.2),(6, .int .i64 (z.2.1:Int)),(7, .int .i64 (z.1:Int))]) (fun z w' =>LA c s z.1 z.2.1 z.2.2.1∧Below W.heap.size W w' ∧w'.ownsRow W.heap.size 9 1 z.2.2.2 z.2.2.1.length (z.2.2.1.map st)) (fun z=>s.length - z.1) ((0,0,[], .slice none 0 0)) ⟨rfl,rfl,rfl,rfl,rfl,trivial⟩ ?_ ?_
 ·exact ⟨⟨AX _,Nat.zero_le _,rfl,by simp,AX _⟩,Below.refl _ _,World.ownsRow_nil _ _ _ _⟩
 rintro ⟨i,f,a,y⟩ w ⟨k,o,p⟩
 dsimp only at k o p ⊢
 have C:=k.fi
 have v:=k.il
 have pl:=k.pl
 have D:=AA o
 refine Aq<|Ah<|Ad O<|Ad O<|Aa (Dw FC O) O<|B1 O<|Aj<|Ao O ?_ ?_
 ·intro g
  have g:i<s.length:=by have:=AC g;omega
  refine B2<|Aq<|Ar<|Ah<|Ad O<|Ad O<|Aa (Ev i FC O O O g) O<|Ad O<|Aa (Cl O O) O<|Aj<|Ao O ?_ ?_
  ·intro e
   have e:s.getD i 0=c:=UInt8.toNat_inj.1 (by have:=AC e;omega)
   have t:=k.hit g e
   refine Ah<|Ad O<|Ad O<|Ad O<|Ad O<|Aa (Gk f i FC O O O O O C v) O<|Bq (C2 (vs:=[(s.drop f).take (i - f)].map st) AS HU O O O O O) O ?_
   rintro q B ⟨j, -,h, -⟩
   have l:=AH p h
   have d:=bt o h
   refine Bq (Dl (base:=W.heap.size) AS HU O (by decide) O O l (AG j) (HQ _) (by omega) (by omega) (AA d)) O ?_
   rintro u x ⟨b,m, -⟩
   rw [← map_append,show a.length+1=(a++[(s.drop f).take (i - f)]).length by rw [length_append];rfl] at b
   refine Ab O<|Aj<|Bh<|Ad O<|B9 O (by omega)<|Ab O<|Be<|Bi<|Cd<|Ad O<|B9 O (by omega)<|Ab O<|Be ?_
   exact Av (Bw ((i+1,i+1,a++[(s.drop f).take (i - f)],u)) ⟨rfl,rfl,rfl,rfl,rfl,trivial⟩ (⟨t,d.trans m,b⟩) (by simp only;omega))
  intro e
  have e:s.getD i 0≠c:=fun A=>by have:=AB e;rw [A] at this;exact this rfl
  refine Ca<|Bi<|Cd<|Ad O<|B9 O (by omega)<|Ab O<|Be ?_
  exact Av (Bw ((i+1,f,a,y)) ⟨rfl,rfl,rfl,rfl,rfl,trivial⟩ (⟨k.miss g e,o,p⟩) (by simp only;omega))
 intro g
 have g:i=s.length:=by have:=AB g;omega
 rw [k.done g]
 refine Bn<|Al<|Al<|Bc<|Ci<|Ad O<|Ad O<|Ad O<|Aa (Ex.cutTl f FC O O O (by omega)) O<|Bq (C2 (vs:=[s.drop f].map st) AS HU O O O O O) O ?_
 rintro q B ⟨j, -,h, -⟩
 have l:=AH p h
 have d:=bt o h
 refine Bq (Dl (base:=W.heap.size) AS HU O (by decide) O O l (AG j) (HQ _) (by omega) (by omega) (AA d)) O ?_
 rintro u x ⟨b,m, -⟩
 rw [← map_append,show a.length+1=(a++[s.drop f]).length by rw [length_append];rfl] at b
 exact Ab rfl<|Ay<|Ax rfl rfl<|⟨d.trans m,b⟩
theorem Sf:∀(n:Nat) (s:List UInt8),s.length=n→GM s=true→GA 0 s<10 ^ n:=by
 intro n
 induction n with
 |zero=>intro s hs _;rw [eq_nil_of_length_eq_zero hs];decide
 |succ n ih=>
  intro s hs a
  have b:s≠[]:=fun e=>by rw [e] at hs;cases hs
  obtain ⟨l,c,rfl⟩:∃l c,s=l++[c]:=⟨s.dropLast,s.getLast b,(List.dropLast_concat_getLast b).symm⟩
  unfold GM at a
  rw [List.all_append,Bool.and_eq_true] at a
  have d:=a.2
  simp only [all_cons,all_nil,Bool.and_true,Bool.and_eq_true,decide_eq_true_eq] at d
  have:=ih l (by simpa using hs) a.1
  rw [H8,Nat.pow_succ]
  omega
theorem P7 {s:List UInt8} {i:Nat} (a:i<s.length):GM (s.take (i+1))=(GM (s.take i) && (decide (48≤(s.getD i 0).toNat) && decide ((s.getD i 0).toNat≤57)))∧GA 0 (s.take (i+1))=10*GA 0 (s.take i)+((s.getD i 0).toNat - 48):=by
 have e:s.take (i+1)=s.take i++[s.getD i 0]:=by
  rw [take_succ_eq_append_getElem a,getD_eq_getElem?_getD,getElem?_eq_getElem a];rfl
 rw [e,H8]
 exact ⟨by simp [GM],rfl⟩
theorem KU {s:List UInt8} (i:Nat) (h:GM s=true):GM (s.take i)=true:=by
 unfold GM at h ⊢
 rw [all_eq_true] at h ⊢
 exact fun x a=>h x (mem_of_mem_take a)
theorem H9 (s:List UInt8) (W:World) (hs:s.length≤100000):AJ prog 211 [st s] W (fun r w' =>r= .tuple #[.int .i64 ((CN s).getD 0), .bool (CN s).isSome]∧w' =W):=by
 have y:¬(1≤s.length∧s.length≤9∧(s.length=1∨¬s.headD 0=48)∧GM s=true)→CN s=none:=fun h=>by
  unfold CN
  rw [if_neg]
  simp only [Bool.and_eq_true,Bool.or_eq_true,decide_eq_true_eq,Bool.not_eq_true',decide_eq_false_iff_not]
  exact fun ⟨⟨⟨a,b⟩,c⟩,d⟩=>h ⟨a,b,c,d⟩
 have A:(1≤s.length∧s.length≤9∧(s.length=1∨¬s.headD 0=48)∧GM s=true)→CN s=some (GA 0 s:Int):=fun h=>by
  unfold CN
  rw [if_pos]
  simp only [Bool.and_eq_true,Bool.or_eq_true,decide_eq_true_eq,Bool.not_eq_true',decide_eq_false_iff_not]
  exact ⟨⟨⟨h.1,h.2.1⟩,h.2.2.1⟩,h.2.2.2⟩
 have E:s.getD 0 0=s.headD 0:=by cases s<;>rfl
 have v:¬s.headD 0=48→decide (((s.headD 0).toNat:Int)=48)=false:=fun h=>decide_eq_false fun e=>h (UInt8.toNat_inj.1 (show (s.headD 0).toNat=48 by omega))
 refine Bd (n:=49) func211 O<|Ah<|Ab O<|Ab O<|Aj<|Aq<|Aq ?_
 refine Dh (St:=Bool) (fun z=>[(0,st s),(23, .bool z)]) (fun z w' =>w' =W∧(z=false↔(1≤s.length∧s.length≤9∧(s.length=1∨¬s.headD 0=48)))) ?_ ?_
 ·refine Bh<|Ad O<|Aa (Dw FC O) O<|B1 O<|Ad O ?_
  refine Bx 9 O ?_ ?_
  ·intro g
   have g:s.length<1:=by have:=AC g;omega
   exact Ae (dj:=9) rfl rfl rfl rfl<|Ae (dj:=9) rfl rfl rfl rfl<|Ae (dj:=9) rfl rfl rfl rfl<|Bu rfl<|Ad rfl<|Ae (dj:=14) rfl rfl rfl rfl<|Ae (dj:=14) rfl rfl rfl rfl<|Ae (dj:=14) rfl rfl rfl rfl<|Ae (dj:=14) rfl rfl rfl rfl<|De (dj:=18) rfl rfl rfl<|De (dj:=18) rfl rfl rfl<|De (dj:=18) rfl rfl rfl<|Ae (dj:=14) rfl rfl rfl rfl<|Bu rfl<|Be<|B6 (true) ⟨rfl,rfl,trivial⟩ (⟨rfl,(fun h=>by cases h),(fun h=>by omega)⟩)
  intro l
  have l:1≤s.length:=by have:=AB l;omega
  refine Af (dj:=9) O O<|Ad O<|Af (dj:=9) O O<|Aa (Dw FC O) O<|Af (dj:=9) O O<|Aa (Da O O) O<|B4 O<|Ad O ?_
  refine Bx 14 O ?_ ?_
  ·intro g
   have g:9<s.length:=by have:=AC g;omega
   exact Ae (dj:=14) rfl rfl rfl rfl<|Ae (dj:=14) rfl rfl rfl rfl<|Ae (dj:=14) rfl rfl rfl rfl<|Ae (dj:=14) rfl rfl rfl rfl<|De (dj:=18) rfl rfl rfl<|De (dj:=18) rfl rfl rfl<|De (dj:=18) rfl rfl rfl<|Ae (dj:=14) rfl rfl rfl rfl<|Bu rfl<|Be<|B6 (true) ⟨rfl,rfl,trivial⟩ (⟨rfl,(fun h=>by cases h),(fun h=>by omega)⟩)
  intro k
  have k:s.length≤9:=by have:=AB k;omega
  refine Af (dj:=14) O O<|Ad O<|Af (dj:=14) O O<|Aa (Dw FC O) O<|Af (dj:=14) O O<|Aa (Da O O) O<|Af (dj:=14) O O<|Ad O ?_
  refine Bx 18 O ?_ ?_
  ·intro f
   have f:1<s.length:=by have:=AC f;omega
   refine Af (dj:=18) O O<|Ad O<|Af (dj:=18) O O<|Aa (Ev 0 FC O O O (by omega)) O<|Af (dj:=18) O O<|Aa (Cl O O) O<|Af (dj:=14) O O<|Bu O<|B4 O<|Be ?_
   rw [E]
   exact B6 (decide (((s.headD 0).toNat:Int)=48)) ⟨rfl,rfl,trivial⟩ (⟨rfl,(fun h=>⟨l,k, .inr (fun e=>by rw [e] at h;cases h)⟩),fun h=>v (h.2.2.elim (fun e=>absurd e (by omega)) id)⟩)
  intro f
  have f:s.length=1:=by have:=AB f;omega
  exact Ae (dj:=18) rfl rfl rfl rfl<|Ae (dj:=18) rfl rfl rfl rfl<|Ae (dj:=18) rfl rfl rfl rfl<|Af (dj:=14) rfl rfl<|B4 rfl<|B4 rfl<|Be<|B6 (false) ⟨rfl,rfl,trivial⟩ (⟨rfl,fun _=>⟨l,k, .inl f⟩,fun _=>rfl⟩)
 rintro z w ⟨rfl,C⟩
 refine B8<|Ao O ?_ ?_
 ·rintro rfl
  refine Ah<|Ab O<|Ab O<|Bz<|Bp O O O ?_
  refine ⟨?_,rfl⟩
  rw [y fun h=>by have:=C.2 ⟨h.1,h.2.1,h.2.2.1⟩;cases this]
  rfl
 rintro rfl
 obtain ⟨l,k,f⟩:=C.1 rfl
 refine Cp<|Ab O<|Bj<|Ab O<|Aj<|Ar ?_
 refine Bo (S:=Nat) (fun i=>[(0,st s),(4, .int .i64 (GA 0 (s.take i):Int)),(5, .int .i64 (i:Int))]) (fun i w' =>w' =w∧i≤s.length∧GM (s.take i)=true) (fun i=>s.length - i) (0) ⟨rfl,rfl,rfl,trivial⟩ ?_ ?_
 ·exact ⟨rfl,Nat.zero_le _,rfl⟩
 rintro i H ⟨rfl,I,p⟩
 have J:=Sf (s.take i).length (s.take i) rfl p
 have F:10 ^ (s.take i).length≤10 ^ 9:=Nat.pow_le_pow_right (by decide) (by rw [length_take];omega)
 have G:(10:Nat) ^ 9=1000000000:=by decide
 refine Aq<|Ah<|Ad O<|Ad O<|Aa (Dw FC O) O<|B1 O<|Aj<|Ao O ?_ ?_
 ·intro g
  have g:i<s.length:=by have:=AC g;omega
  obtain ⟨o,B⟩:=P7 g
  obtain ⟨c,t⟩:∃c,c=s.getD i 0:=⟨_,rfl⟩
  have D:=c.toNat_lt
  rw [← t] at o B
  refine B2<|Aq<|Ar<|Aq<|Ah<|Ad O<|Ad O<|Aa (Ev i FC O O O g) O<|B1 O<|Ad O ?_
  rw [← t]
  refine Bx 34 O ?_ ?_
  ·intro h
   have h:c.toNat<48:=by have:=AC h;omega
   have u:GM s≠true:=fun e=>by
    have:=KU (i+1) e
    rw [o,decide_eq_false (show ¬48≤c.toNat by omega)] at this
    simp at this
   refine Ae (dj:=34) O O O O<|Ae (dj:=34) O O O O<|Ae (dj:=34) O O O O<|Ae (dj:=34) O O O O<|Bu O<|Aj<|B3 O<|Ah<|Ab O<|Ab O<|Bz<|Ba<|Ap<|Ap<|Ba<|Ap<|Bp O O O ?_
   exact ⟨by rw [y fun h=>u h.2.2.2];rfl,rfl⟩
  intro h
  have h:48≤c.toNat:=by have:=AB h;omega
  refine Af (dj:=34) O O<|Ad O<|Af (dj:=34) O O<|Ad O<|Af (dj:=34) O O<|Aa (Ev i FC O O O g) O<|Af (dj:=34) O O<|Aa (Da O O) O<|B4 O<|Aj ?_
  rw [← t]
  refine Ao O ?_ ?_
  ·intro j
   have j:57<c.toNat:=by have:=AC j;omega
   have u:GM s≠true:=fun e=>by
    have:=KU (i+1) e
    rw [o,decide_eq_false (show ¬c.toNat≤57 by omega)] at this
    simp at this
   refine Ah<|Ab O<|Ab O<|Bz<|Ba<|Ap<|Ap<|Ba<|Ap<|Bp O O O ?_
   exact ⟨by rw [y fun h=>u h.2.2.2];rfl,rfl⟩
  intro j
  have j:c.toNat≤57:=by have:=AB j;omega
  rw [p,decide_eq_true h,decide_eq_true j] at o
  refine B2<|Bh<|Ad O<|Aa (D8 O O (by omega)) O<|Ad O<|Ad O<|Aa (Ev i FC O O O g) O<|Aa (Ex.as (Ex.subt (m:=(c.toNat:Int)) (q:=48) (cngA (fun x:UInt8=>some (Value.int .u8 (x.toNat:Int))) t.symm) O) (cngA (Value.int .u8) (show IntKind.u8.wrap ((c.toNat:Int) - 48)=((c.toNat - 48:Nat):Int) by unfold IntKind.wrap;simp [IntKind.bits,IntKind.signed];omega))) O<|Aa (E0 UX K2 O (by omega)) O<|Aa (Ex.as (Dx O O (by omega)) (cngA (Value.int .i64) (show 10*(GA 0 (s.take i):Int)+((c.toNat - 48:Nat):Int)=(GA 0 (s.take (i+1)):Int) by rw [B];omega))) O<|Ab O<|Be<|Bi<|Cd<|Ad O<|B9 O (by omega)<|Ab O<|Be ?_
  exact Av (Bw (i+1) ⟨rfl,rfl,rfl,trivial⟩ (⟨rfl,g,o⟩) (by omega))
 intro g
 have g:i=s.length:=by have:=AB g;omega
 subst g
 rw [take_length] at p
 refine Bn<|Al<|Al<|Bc<|Ci<|Ad O<|Ab O<|Ab O<|Ay<|Bp O O O ?_
 rw [A ⟨l,k,f,p⟩,take_length]
 exact ⟨rfl,rfl⟩
theorem JL (v:Value) (l:List (List UInt8)) (W:World) (F:CA st W v l) (D:∀x ∈ l,x.length≤100000) (I:l.length≤100001):AJ prog 210 [v] W (fun r w' =>Below W.heap.size W w' ∧w'.ownsRow W.heap.size 3 1 r (BT l.length l).1.length ((BT l.length l).1.map (Value.int .i64))):=by
 refine Bd (n:=28) func210 O<|Ah<|Ab O<|Bg<|Ab O<|Bj<|Ab O<|Aj ?_
 refine Dh (St:=(List Int×Value)) (fun z=>[(3,z.2)]) (fun z w' =>(BT l.length l).1=z.1∧Below W.heap.size W w' ∧w'.ownsRow W.heap.size 3 1 z.2 z.1.length (z.1.map (Value.int .i64))) ?_ ?_
 ·refine Ar ?_
  refine Bo (S:=(List Int×Value)) (fun z=>[(0,v),(3,z.2),(4, .int .i64 (z.1.length:Int))]) (fun z w' =>H5 l.length l z.1 (l.drop z.1.length)∧Below W.heap.size W w' ∧w'.ownsRow W.heap.size 3 1 z.2 z.1.length (z.1.map (Value.int .i64))) (fun z=>l.length - z.1.length) (([], .slice none 0 0)) ⟨rfl,rfl,rfl,trivial⟩ ?_ ?_
  ·exact ⟨Fy l.length l,Below.refl _ _,World.ownsRow_nil _ _ _ _⟩
  rintro ⟨a,y⟩ w ⟨k,b,d⟩
  dsimp only at k b d ⊢
  have B:=F.bs b
  have nl:=k.1
  refine Aq<|Ah<|Ad O<|Ad O<|Aa (Au AS O ‹_›) O ?_
  refine B1 O<|Aj<|Ao O ?_ ?_
  ·intro g
   have g:a.length<l.length:=by have:=AC g;omega
   have t:(l.drop a.length).getD 0 default=l.getD a.length default:=by
    rw [getD_eq_getElem?_getD,getElem?_drop,getD_eq_getElem?_getD];rfl
   have E:(l.getD a.length default).length≤100000:=D _ (by
    rw [getD_eq_getElem?_getD,getElem?_eq_getElem g]
    exact getElem_mem g)
   refine B2<|Aq<|Ar<|Ah<|Ad O<|Ad O<|Aa (Bf AS O O ‹_› _ O (by omega)) O ?_
   refine Aa (Bl (EB _) O ‹_› (by omega)) O ?_
   refine An O O (H9 (l.getD a.length default) w E) ?_
   rintro _ J ⟨rfl,rfl⟩
   refine Ad O<|Aa (Ex.extract (i:=0) O O) O<|Aa (Ex.extract (i:=1) O O) O<|Ab O<|Ab O<|Bj<|Ad O<|Aa (Co O) O<|Aj<|Ao O ?_ ?_
   ·intro c
    have c:CN (l.getD a.length default)=none:=by
     cases e:CN (l.getD a.length default) with
     |none=>rfl
     |some n=>rw [e] at c;cases c
    refine Bn<|Al<|Pw.blkE O<|Al<|Al<|Bc ?_
    exact B6 ((a,y)) ⟨rfl,trivial⟩ (⟨cngA Prod.fst (k.done (.inr (.inr (by rw [t];exact c)))),b,d⟩)
   intro c
   obtain ⟨n,u⟩:∃n,CN (l.getD a.length default)=some n:=by
    cases e:CN (l.getD a.length default) with
    |none=>rw [e] at c;cases c
    |some n=>exact ⟨n,rfl⟩
   rw [u,Option.getD_some]
   have j:=k.step (by rw [length_drop];omega) g (by rw [t];exact u)
   rw [drop_drop] at j
   refine B2<|Bh<|Ad O<|Ad O<|Bq (C2 (vs:=[n].map (Value.int .i64)) AD DT O O O O O) O ?_
   rintro q H ⟨p, -,h, -⟩
   have o:=AH d h
   have m:=bt b h
   refine Bq (Dl (base:=W.heap.size) AD DT O (by decide) O O o (AG p) (EI (fun _=>rfl) _) (by omega) (by omega) (AA m)) O ?_
   rintro C G ⟨f,s, -⟩
   rw [← map_append,show a.length+1=(a++[n]).length by rw [length_append];rfl] at f
   refine Ab O<|Be<|Bi<|Cd<|Ad O<|B9 O (by omega)<|Ab O<|Be ?_
   exact Av (Bw ((a++[n],C)) ⟨rfl,rfl,cngA (fun x:Int=>some (Value.int .i64 x)) (by rw [length_append];rfl),trivial⟩ (⟨by rw [length_append];exact j,m.trans s,f⟩) (by simp only [length_append,length_singleton];omega))
  intro g
  have g:a.length=l.length:=by have:=AB g;omega
  exact Bn<|Al<|Al<|Bc<|B6 ((a,y)) ⟨rfl,trivial⟩ (⟨cngA Prod.fst (k.done (.inr (.inl (by omega)))),b,d⟩)
 rintro ⟨a,y⟩ w ⟨A,b,d⟩
 dsimp only at A b d ⊢
 rw [A]
 exact B8<|Ah<|Ad rfl<|Ab rfl<|Ay<|Ax rfl rfl<|⟨b,d⟩
def Td:List (List UInt8):=[[],[105,110,112,117,116],[119,101,105,103,104,116],[97,100,100],[109,117,108],[114,101,108,117],[115,104,105,102,116],[112,114,111,100,117,99,116],[119,105,110,100,111,119],[112,111,111,108],[115,104,97,112,101],[116,117,114,110],[106,111,105,110],[115,117,109]]
theorem TC:∀i:Fin 14,1≤i.val→CM (Td.getD i.val default)=BitVec.ofInt 8 (i.val:Int):=by decide+kernel
theorem S2:∀r ∈ HI,1≤r.k∧r.k<14∧Td.getD r.k default=r.word:=by decide+kernel
theorem So (s:List UInt8) (W:World):AJ prog 209 [st s] W (fun r w' =>r=b8 (CM s)∧Below W.heap.size W w'):=by
 refine Bd (n:=20) func209 O<|Ah<|Aa (Cq (show _=some (b8 (0#8)) from rfl)) O<|Bg<|Bq (C2 (vs:=Td.map st) AS HU O O O O O) O ?_
 rintro q k ⟨d, -,b, -⟩
 have u:CA st k q Td:=BD d
 refine Ab O<|Bj<|Ab O<|Aj<|Ar ?_
 refine Bo (S:=Nat) (fun i=>[(0,st s),(3,q),(4, .int .i64 (i:Int))]) (fun i w' =>1≤i∧i≤14∧(∀j,1≤j→j<i→Td.getD j default≠s)∧w' =k) (fun i=>14 - i) (1) ⟨rfl,rfl,rfl,trivial⟩ ?_ ?_
 ·exact ⟨AX _,by decide,(fun j c p=>by omega),rfl⟩
 rintro i x ⟨c,t,a,rfl⟩
 have w:Td.length=14:=rfl
 refine Aq<|Ah<|Ad O<|Ad O<|Aa (Au AS O ‹_›) O ?_
 refine B1 O<|Aj<|Ao O ?_ ?_
 ·intro g
  have g:i<14:=by have:=AC g;omega
  refine B2<|Aq<|Ar<|Ah<|Ad O<|Ad O<|Aa (Bf AS O O ‹_› _ O (by omega)) O ?_
  refine Aa (Bl (EB _) O ‹_› (by omega)) O ?_
  refine Ad O<|Aa (En O O) O<|Aj<|Ao O ?_ ?_
  ·intro e
   have e:Td.getD i default=s:=AC e
   have f:=TC ⟨i,g⟩ c
   simp only at f
   rw [e] at f
   exact Ah<|Ad rfl<|Aa (Ex.as (F6 PL CJ rfl) (cngA b8 f.symm)) rfl<|Ab rfl<|Ay<|Ba<|Ap<|Ap<|Ba<|Ap<|Ax rfl rfl<|⟨rfl,b⟩
  intro e
  have e:Td.getD i default≠s:=AB e
  refine Ca<|Bi<|Cd<|Ad O<|B9 O (by omega)<|Ab O<|Be ?_
  exact Av (Bw (i+1) ⟨rfl,rfl,rfl,trivial⟩ (⟨by omega,g,(fun j c p=>by by_cases h:j=i;subst h;exact e;exact a j c (by omega)),rfl⟩) (by omega))
 intro g
 have g:i=14:=by have:=AB g;omega
 subst g
 refine Bn<|Al<|Al<|Bc<|Ci<|Aa (Cq (show _=some (b8 (0#8)) from rfl)) O<|Ay<|Ax O O ?_
 refine ⟨?_,b⟩
 rw [Iz fun r v e=> ?_]
 obtain ⟨l,m,o⟩:=S2 r v
 exact a r.k l m (o.trans e)

-- dd: text
structure MS (w:World) (B Ag:Nat) (ls:List N5) (vn:Value):Prop where
 g:AN w Ag 24 [vn]
 o:w.ownsRow B 79 5 vn ls.length (FR N5.cells ls)
 lay:GR w B w.heap.size ls
theorem MS.bs {w w' :World} {B b:Nat} {ls:List N5} {a:Value} (h:MS w B b ls a) (g:Below w.heap.size w w'):MS w' B b ls a:=⟨h.g.bs g,AH h.o g,(h.lay.bs g).top g.size⟩
theorem MS.ob {w w' :World} {B c X:Nat} {ls:List N5} {a:Value} {T:TypeId} {cs:List Value} (h:MS w B c ls a) (g:w.grownBy w' (some X)) (f:AN w X T cs) (j:3≠T) (i:24≠T) (k:79≠T):MS w' B c ls a:=by
 have d:∀b,some X=some b→∃cs,AN w b T cs:=fun b e=>by cases e;exact ⟨_,f⟩
 refine ⟨h.g.by g fun e=> ?_,FM h.o g d k,(h.lay.other g d j).top g.size⟩
 have e:=Option.some.inj e
 subst e
 exact i (FI h.g f)
theorem MS.gn {w:World} {B c:Nat} {ls:List N5} {b:Value} (h:MS w B c ls b):GN w b ls:=⟨AG h.o,fun a d=>(h.lay.each a d).at⟩
theorem GC {w w' :World} {X Y:Nat} {T U:TypeId} {cs ds:List Value} (h:AN w X T cs) (g:w.grownBy w' (some Y)) (k:AN w Y U ds) (a:T≠U):AN w' X T cs:=h.by g fun e=>by
 have e:=Option.some.inj e
 subst e
 exact a (FI h k)
theorem J0 {w w' :World} {X:Nat} {T U:TypeId} {cs:List Value} {r:Option Nat} (h:AN w X T cs) (g:w.grownBy w' r) (k:∀b,r=some b→∃ds,AN w b U ds) (a:T≠U):AN w' X T cs:=h.by g fun e=>by
 obtain ⟨ds,k⟩:=k X e.symm
 exact a (FI h k)
set_option maxHeartbeats 1000000 in
theorem QA (W w:World) (A t Ac X V K M B:Nat) (v H:Value) (l:List (List UInt8)) (ls:List N5) (hG:Jr W) (E:LD W w A v l) (hl:∀x ∈ l,x.length≤65536) (hn:l.length≤65537) (h0:0<l.length) (R:BX w K .string UP) (T:BX w M (.int .u8) RD) (Z:M≠A)
  (s:MS w B t ls H) (h32:ls.length≤32) (f:AN w Ac 137 [.pointer (some ⟨A,0,none⟩)]) (k:AN w X 135 [.map (some K)]) (h:AN w V 122 [.map (some M)]) (hB:B≤w.heap.size) (hgB:t<B):
  LF prog 126 [.pointer (some ⟨t,0,none⟩), .pointer (some ⟨Ac,0,none⟩), .pointer (some ⟨X,0,none⟩), .pointer (some ⟨V,0,none⟩)] w SY
   (fun r w' =>r= .tuple #[]∧∃c Y,CH l=some (pn c)∧BJ (fun b=>b=A∨b=t∨H.ownBlock=some b) w w' ∧MS w' B t (ls++[c]) Y)
   (fun w' =>CH l=none∧BJ (fun b=>b=A∨b=t∨H.ownBlock=some b) w w' ∧MS w' B t ls H):=by
 refine E3 (n:=13) func126 (by kernel_rfl) O O O ?_
 refine Cw.any mixed (fun J F _=> ?_)
 have d:BJ (fun b=>b=A∨b=t∨H.ownBlock=some b) w J:=BJ.of_below F
 have E:=E.bs F
 have s:=s.bs F
 have f:=f.bs F
 have k:=k.bs F
 have h:=h.bs F
 have R:=R.bs F
 have T:=T.bs F
 have zd:=F.size
 have j:=s.g
 clear F
 refine Fw (St:=(N5×Value×Value)) (g:=1) [0,1,2,3,4,5,6,7,8] 9 (fun z=>[(11,z.2.1),(12, .pointer (some ⟨t,0,none⟩))]) (fun z w' =>CH l=some (pn z.1)∧BJ (fun b=>b=A∨b=t∨H.ownBlock=some b) w w' ∧AN w' t 24 [H]∧w'.ownsRow B 79 5 z.2.1 (ls++[z.1]).length (FR N5.cells (ls++[z.1]))∧GR w' B w'.heap.size (ls++[z.1])) (by kernel_rfl) O ?_ ?_
 ·refine Df (fun x=>AN x t 24 [H]∧AN x Ac 137 [.pointer (some ⟨A,0,none⟩)]∧AN x X 135 [.map (some K)]∧AN x V 122 [.map (some M)]) (fun hC=> ?_) (⟨j,f,k,h⟩)
  refine Cr (B5 Gs)<|Am 0 O (fun J a=>Ck underlying24 O (BY _)) O<|Am 1 O (fun J a=>Ak (CS _) O (by first|exact a.1|exact a.2.1|exact a.2.2.1|exact a.2.2.2) O) O<|Am 2 O (fun J a=>Ak (Uh _) O (by first|exact a.1|exact a.2.1|exact a.2.2.1|exact a.2.2.2) O) O<|Am 3 O (fun J a=>Ak (RG _) O (by first|exact a.1|exact a.2.1|exact a.2.2.1|exact a.2.2.2) O) O<|Am 4 O (fun J a=>Ak (RI _) O (by first|exact a.1|exact a.2.1|exact a.2.2.1|exact a.2.2.2) O) O<|Cf ?_
  refine BV.only ((by refine ⟨?_, ?_, ?_, ?_⟩<;>assumption)) (i:=5) (by kernel_rfl) O ?_
  refine D1 O O (T7 W J A K M v l hG E hl hn h0 R T Z) (fun w' hK=>Dq (Dq (Du (⟨hK.1,d.grown hK.2 (fun b e=>by cases e;exact .inl (.inl rfl)),s.ob hK.2 E.cell (by decide) (by decide) (by decide)⟩)))) ?_
  rintro _ w2 ⟨c,rfl,U,G, -,a⟩
  have d:=d.grown G (fun b e=>by cases e;exact .inl (.inl rfl))
  have m:=GR.snoc a G.size (s.lay.other G (fun b e=>by cases e;exact ⟨_,E.cell⟩) (by decide)) (AX _)
  have s:=s.ob G E.cell (by decide) (by decide) (by decide)
  replace j:=s.g
  replace f:=GC f G E.cell (by decide)
  replace k:=GC k G E.cell (by decide)
  replace h:=GC h G E.cell (by decide)
  have z2:=G.size
  have oc:=a.at.ones
  clear E R T G
  refine BV.back ?_
  refine BV.only ((by refine ⟨?_, ?_, ?_, ?_⟩<;>assumption)) (i:=6) (by kernel_rfl) O ?_
  refine Bq (Er (cs:=c.cells) BA EA O O (by decide) (by decide)) O ?_
  rintro q w3 ⟨N, -,o, -⟩
  have z3:=o.size
  have d:=d.below o
  have s:=s.bs o
  replace j:=s.g
  have f:=f.bs o
  have k:=k.bs o
  have h:=h.bs o
  replace m:=(m.bs o).top o.size
  refine BV.back ?_
  refine BV.only ((by refine ⟨?_, ?_, ?_, ?_⟩<;>assumption)) (i:=7) (by kernel_rfl) O ?_
  refine Bq (C5 (base:=B) BA EA O (by decide) O O s.o (AG N) oc (by omega) (by omega) (by omega)) O ?_
  rintro y w4 ⟨D, -,p, -⟩
  have C:∀b,H.ownBlock=some b→∃cs,AN w3 b 79 cs:=fun b e=>AT.ty (.inl s.o) e
  have d:=d.grown p (fun b e=> .inl (.inr (.inr e)))
  replace j:=J0 j p C (by decide)
  replace f:=J0 f p C (by decide)
  replace k:=J0 k p C (by decide)
  replace h:=J0 h p C (by decide)
  replace m:=(m.other p C (by decide)).top p.size
  clear s N
  refine BV.back<|Cr (B5 Gs)<|Am 8 O (fun J a=>Ck underlying24 O (BY _)) O<|Cf ?_
  refine BV.done ((by refine ⟨?_, ?_, ?_, ?_⟩<;>assumption)) (by kernel_rfl) ?_
  exact Av (Fu ((c,y,y)) ⟨rfl,rfl,trivial⟩ (⟨U,d,j,by rw [length_append,M9];exact D,m⟩))
 clear E s f k h R T j d
 rintro ⟨c,y,y2⟩ w4 ⟨U,d,j,D,S⟩
 dsimp only at U D S ⊢
 refine Aw.only (i:=9) (by kernel_rfl) O<|Br (C4 (u:=y) (BY _) O O (AG D).one' j (show 0<1 by decide)) ?_
 rintro w5 ⟨Q,I, -⟩
 have L:∀b,some t=some b→∃cs,AN w4 b 24 cs:=fun b e=>by cases e;exact ⟨_,j⟩
 refine Aw.back<|Aw.done (by kernel_rfl)<|Gq O ?_
 exact ⟨rfl,c,y,U,d.grown I (fun b e=>by cases e;exact .inl (.inr (.inl rfl))),Q,FM D I L (by decide),(S.other I L (by decide)).top I.size⟩

-- dd: text
def UU (ds:List Rw) (k v:Value):Prop:=∃r ∈ ds,k= .int .u8 (r.k:Int)∧v= .agg r.cells.toArray
def UV (ds:List Rw) (k v:Value):Prop:=∃r ∈ ds,k=st r.word∧v=b8 (BitVec.ofNat 8 r.k)
def Lh (ds:List Rw):Nat:=(HI.filter fun r=>decide (r ∉ ds)).length
theorem OS {ds:List Rw} {r:Rw} (h:r ∈ HI) (a:r ∉ ds):Lh (ds++[r])<Lh ds:=by
 unfold Lh
 have e:(HI.filter fun q=>decide (q ∉ ds++[r]))=(HI.filter fun q=>decide (q ∉ ds)).filter fun q=>decide (q≠r):=by
  rw [List.filter_filter]
  refine filter_congr fun q _=> ?_
  simp only [mem_append,mem_singleton,not_or,ne_eq]
  by_cases h1:q ∈ ds<;>by_cases h2:q=r<;>simp [h1,h2]
 rw [e]
 refine List.length_filter_lt_length_iff_exists.2 ⟨r,List.mem_filter.2 ⟨h,by simpa using a⟩,by simp⟩
theorem Po:∀r ∈ HI,(BitVec.ofNat 8 r.k).toNat=r.k:=by decide
theorem Sp:∀r ∈ HI,∀q ∈ HI,r.k=q.k→r=q:=by decide
theorem QN {ds:List Rw} {r:Rw} (h:∀q ∈ ds,q ∈ HI) (b:r ∈ HI):∀q ∈ ds++[r],q ∈ HI:=fun q a=>by
 rcases List.mem_append.1 a with a|a
 ·exact h q a
 ·rw [List.mem_singleton.1 a];exact b
theorem OE {ds:List Rw} {r:Rw} {p:Rw→Prop}:((∃q ∈ ds,p q)∨p r)↔∃q ∈ ds++[r],p q:=by
 constructor
 ·rintro (⟨q,a,e⟩|e)
  ·exact ⟨q,by simp [a],e⟩
  ·exact ⟨r,by simp,e⟩
 ·rintro ⟨q,a,e⟩
  rcases List.mem_append.1 a with h|h
  ·exact .inl ⟨q,h,e⟩
  ·rw [List.mem_singleton.1 h] at e;exact .inr e
theorem Q6 (ds:List Rw) (r:Rw) (k v:Value):(UU ds k v∨(k= .int .u8 (r.k:Int)∧v= .agg r.cells.toArray))↔UU (ds++[r]) k v:=OE (p:=fun r=>k= .int .u8 (r.k:Int)∧v= .agg r.cells.toArray)
theorem QS (ds:List Rw) {r:Rw} (a:r ∈ HI) (k v:Value):(UV ds k v∨(k=st r.word∧v= .int .u8 (r.k:Int)))↔UV (ds++[r]) k v:=by
 rw [show Value.int .u8 (r.k:Int)=b8 (BitVec.ofNat 8 r.k) by rw [b8,Po r a]]
 exact OE (p:=fun r=>k=st r.word∧v=b8 (BitVec.ofNat 8 r.k))
theorem SH (a:Value) (c:a.cells=[a].toArray):Tryz.prog.built 139 [(0,a)]=some [a].toArray:=by
 have b:Tryz.prog.info? 139=some Tryz.t139:=by kernel_rfl
 have d:Tryz.prog.info? 126=some Tryz.t126:=by kernel_rfl
 simp [Program.built,b,underlying139,d,Instr.fill,c]
 rfl
theorem H0 (c:UInt8):∀s:List UInt8,(BQ c s).length≤s.length+1∧∀x ∈ BQ c s,x.length≤s.length
 |[]=>⟨AX 1,fun x a=>by rw [List.mem_singleton.1 a];exact AX _⟩
 |b::l=>by
  obtain ⟨g,f⟩:=H0 c l
  obtain ⟨y,d,e⟩:∃y d,BQ c l=y::d:=by
   cases h:BQ c l with
   |nil=>exact absurd h (Ha c l)
   |cons y d=>exact ⟨y,d,rfl⟩
  rw [e] at g f
  unfold BQ
  rw [e]
  split
  ·refine ⟨by simp at g ⊢;omega,fun x a=> ?_⟩
   rcases List.mem_cons.1 a with rfl|a
   ·exact Nat.zero_le _
   ·have:=f x a;simp only [length_cons];omega
  ·refine ⟨by simp at g ⊢;omega,fun x a=> ?_⟩
   rcases List.mem_cons.1 a with rfl|a
   ·have:=f y (by simp);simp only [List.headD_cons,length_cons];omega
   ·have:=f x (mem_cons_of_mem _ a);simp only [length_cons];omega
theorem MF (v:Value) (n:Nat):∀b,(cut v 1 0 n).ownBlock=some b→v.ownBlock=some b:=fun b h=>L5 h
theorem KH {w w' :World} {M:Nat} {d:TypeDesc} {S:Value→Value→Prop} {T:Nat→Prop} (h:BX w M d S) (g:BJ T w w') (f:¬T M):BX w' M d S:=by
 have a:=h.lt
 obtain ⟨i,c,e,b⟩:=h
 exact ⟨i,c,by rw [g.block M a f];exact e,b⟩
def EL (ts:List (List UInt8)) (i:Nat) (pre:List PN):Prop:=EP 0 ts=match EP i (ts.drop i) with
 | .inl j=> .inl j
 | .inr ns=> .inr (pre++ns)
theorem Fz (a:List (List UInt8)):EL a 0 []:=by
 unfold EL
 rw [drop_zero]
 cases EP 0 a<;>rfl
theorem EL.step {b:List (List UInt8)} {i:Nat} {a:List PN} {t:List UInt8} {p:PN} (h:EL b i a) (c:b.drop i=t::b.drop (i+1)) (e:i<32) (d:CH (BQ 32 t)=some p):EL b (i+1) (a++[p]):=by
 unfold EL at h ⊢
 rw [c] at h
 exact QB h e d
theorem EL.no {a:List (List UInt8)} {i:Nat} {b:List PN} {t:List UInt8} (h:EL a i b) (c:a.drop i=t::a.drop (i+1)) (d:32≤i∨CH (BQ 32 t)=none):EP 0 a= .inl i:=by
 unfold EL at h
 rw [c] at h
 exact T1 h d
theorem EL.done {b:List (List UInt8)} {i:Nat} {a:List PN} (h:EL b i a) (c:i=b.length):EP 0 b= .inr a:=by
 unfold EL at h
 rw [c,drop_length] at h
 rw [h]
 simp [EP]
theorem QC {s:List UInt8} (h:¬65536<s.length):(∀i,EP 0 (DX s)= .inl i→Jp s=(i:Int)∧Hs s=4∧GW s=[])∧∀a,EP 0 (DX s)= .inr a→Jp s=0∧Hs s=(if (NG a).isSome then 0 else 1)∧GW s=if (NG a).isSome then a else []:=by
 unfold Jp Hs GW
 rw [if_neg h,if_neg h,if_neg h]
 exact ⟨fun i e=>by rw [e];exact ⟨rfl,rfl,rfl⟩,fun a e=>by rw [e];exact ⟨rfl,rfl,rfl⟩⟩
def UM (W w:World) (r:Value) (s:List UInt8):Prop:=∃vn ls,r= .tuple #[.agg [vn].toArray, .int .i64 (Jp s), .int .i64 (Hs s)]∧ls.map pn=GW s∧GR w W.heap.size w.heap.size ls∧AT w W.heap.size 79 5 vn ls.length (FR N5.cells ls)
theorem Jv {W w:World} {s:List UInt8} {a e:Int} (f:W.heap.size≤w.heap.size) (c:Jp s=a) (b:Hs s=e) (d:GW s=[]):UM W w (.tuple #[.agg [.slice none 0 0].toArray, .int .i64 a, .int .i64 e]) s:=
 ⟨_,[],by rw [c,b],by rw [d];rfl,f, .inl ⟨rfl, .inl ⟨rfl,rfl⟩⟩⟩
set_option maxHeartbeats 4000000 in
theorem Ss (s:List UInt8) (W:World) (hG:Jr W):AJ prog 27 [st s] W (fun r w' =>Below W.heap.size W w' ∧UM W w' r s):=by
 refine Bd (n:=74) func27 O<|Ah<|Dg Jh O ?_
 rintro o w1 eA_g a m zhB
 have z1:=m.size
 refine Ab O<|Ab O<|Bj<|Ad O<|Aa (Dw FC O) O<|Aa (Da O O) O<|Aj<|Ao O ?_ ?_
 ·intro g
  have g:65536<s.length:=by have:=AC g;omega
  refine Ah<|Aa (Cj (DW _) (DV _) O O ‹_›) O ?_
  refine Br (Cz (cs:=[.slice none 0 0]) (k:=1) (by kernel_rfl) O O O O a O) ?_
  rintro w2 ⟨a,hg,hz⟩
  have m:=m.grown hg (by omega) (by rintro _ ⟨⟩;omega)
  refine Ab O<|Ab O<|Bz<|Dm O O O O ‹_› underlying24 O O O ?_
  exact ⟨m,Jv (AA m) (by rw [Jp,if_pos g]) (by rw [Hs,if_pos g]) (by rw [GW,if_pos g])⟩
 intro g
 have hs:¬65536<s.length:=by have:=AB g;omega
 clear g
 refine Cp<|An O O (Qz w1) ?_
 rintro _ w2 ⟨hn2,M,rfl,zM,mM⟩
 have z2:=hn2.size
 have lM0:=mM.lt
 replace m:=bt m hn2
 have a:=a.bs hn2
 refine Bq (Fx (d:= .string)) O ?_
 rintro _ w3 ⟨rfl,E,hn3,zK⟩
 obtain ⟨K,hK⟩:∃K,K=w2.heap.size:=⟨_,rfl⟩
 rw [← hK] at E ⊢
 replace m:=bt m hn3
 have a:=a.bs hn3
 have mM:=mM.bs hn3
 refine Dg TT O ?_
 rintro Q w4 eA_a f hn4 zhn4
 have z4:=hn4.size
 replace m:=bt m hn4
 have a:=a.bs hn4
 have mM:=mM.bs hn4
 have E:=E.bs hn4
 refine Dg TS O ?_
 rintro N w5 eA_k l hn5 zhn5
 have z5:=hn5.size
 replace m:=bt m hn5
 have a:=a.bs hn5
 have f:=f.bs hn5
 have mM:=mM.bs hn5
 have E:=E.bs hn5
 have lM:=mM.lt
 have lK:=E.lt
 refine Br (C4 (u:= .map (some M)) (Tq _) O O O f (show 0<1 by decide)) ?_
 rintro w6 ⟨b_a6,hg6,hz6⟩
 have m:=m.grown hg6 (AA m) (by rintro _ ⟨⟩;omega)
 replace a:=GC a hg6 f (by decide)
 replace l:=GC l hg6 f (by decide)
 have l4:∀{X:Nat},X<w3.heap.size→some X≠some Q:=fun h e=>by have:=Option.some.inj e;omega
 have mM:=mM.keep (hg6.block M lM (l4 (by omega)))
 have E:=E.keep (hg6.block K lK (l4 (by omega)))
 replace f:AN w6 Q 122 [.map (some M)]:=b_a6
 clear hg6 b_a6
 refine Br (C4 (u:= .map (some K)) (Tp _) O O O l (show 0<1 by decide)) ?_
 rintro w7 ⟨b_k7,hg7,hz7⟩
 have m:=m.grown hg7 (AA m) (by rintro _ ⟨⟩;omega)
 replace a:=GC a hg7 l (by decide)
 replace f:=GC f hg7 l (by decide)
 have l5:∀{X:Nat},X<w3.heap.size→some X≠some N:=fun h e=>by have:=Option.some.inj e;omega
 have mM:=mM.keep (hg7.block M mM.lt (l5 (by omega)))
 have E:=E.keep (hg7.block K E.lt (l5 (by omega)))
 replace l:AN w7 N 135 [.map (some K)]:=b_k7
 clear hg7 b_k7 l4 l5
 refine Bj<|Aa (Ak (RI _) O ‹_› rfl) O ?_
 refine Bq (Xw.rangeM underlying122 O mM) O ?_
 rintro _ w8 ⟨rfl,mI,hn8,z8⟩
 obtain ⟨I,hI⟩:∃I,I=w7.heap.size:=⟨_,rfl⟩
 rw [← hI] at mI ⊢
 replace m:=bt m hn8
 have a:=a.bs hn8
 have f:=f.bs hn8
 have l:=l.bs hn8
 have E:=E.bs hn8
 have zz:=AA m
 clear mM hn8
 refine Aj<|Ar ?_
 refine Bo (S:=List Rw) (fun ds=>[(0,st s),(2, .pointer (some ⟨o,0,none⟩)),(5, .pointer (some ⟨Q,0,none⟩)),(6, .pointer (some ⟨N,0,none⟩)),(21, .pointer (some ⟨I,0,none⟩))]) (fun ds w' =>(∀r ∈ ds,r ∈ HI)∧Below W.heap.size W w' ∧w8.heap.size≤w'.heap.size∧AN w' o 24 [.slice none 0 0]∧AN w' Q 122 [.map (some M)]∧AN w' N 135 [.map (some K)]∧LB w' I M (.int .u8) RD (UU ds)∧FK w' K .string (UV ds)) (fun ds=>Lh ds) ([]) ⟨rfl,rfl,rfl,rfl,rfl,trivial⟩ ?_ ?_
 ·exact ⟨by simp,m,AX _,a,f,l,mI.congr fun k v=>by simp [UU],E.congr fun k v=>by simp [UV]⟩
 clear m a f l mI E zz
 rintro ds w9 ⟨hds,m,z9,a,f,l,mI,E⟩
 refine Ah<|Bq (Xw.nextM O mI) O ?_
 rintro x w10 hx
 rcases hx.symm with ⟨k,u,rfl,L,hno,mI2,hcur,hg,hz⟩|⟨rfl,rfl,hall⟩
 ·obtain ⟨r,hr,rfl,rfl⟩:=L
  have hrd:r ∉ ds:=fun h=>hno _ ⟨r,h,rfl,rfl⟩
  have hKI:K≠I:=by omega
  have m:=m.grown hg (AA m) (by rintro _ ⟨⟩;omega)
  have tI:∀{X:Nat},X<w7.heap.size→some X≠some I:=fun h e=>by have:=Option.some.inj e;omega
  have a:=a.by hg (tI (by omega))
  have f:=f.by hg (tI (by omega))
  have l:=l.by hg (tI (by omega))
  have E:=E.keep (hg.block K E.lt (tI (by omega)))
  refine Aa (Ex.extract (i:=0) O O) O<|Aj<|Aq<|Bv O true (rfl)<|B2<|Ar<|Ah<|Aa (Ex.entryM O hcur) O<|Aa (Ex.extract (i:=0) O O) O<|Aa (Ex.extract (i:=1) O O) O<|Dg NC O ?_
  rintro A_r w11 eA_r T F zhn11
  have z11:=F.size
  replace m:=bt m F
  have a:=a.bs F
  have f:=f.bs F
  have l:=l.bs F
  have E:=E.bs F
  have mI2:=mI2.bs F
  clear hcur mI F
  refine Ab O<|Br (Cz (cs:=r.cells) (k:=5) (by kernel_rfl) O O O O T O) ?_
  rintro w12 ⟨b_r12,R,hz12⟩
  have m:=m.grown R (AA m) (by rintro _ ⟨⟩;omega)
  replace a:=GC a R T (by decide)
  replace f:=GC f R T (by decide)
  replace l:=GC l R T (by decide)
  have tr:∀{X:Nat},X<w10.heap.size→some X≠some A_r:=fun h e=>by have:=Option.some.inj e;omega
  have E:=E.keep (R.block K E.lt (tr (by omega)))
  have lI:=mI2.lt
  have mI2:=mI2.keep (R.block I lI.1 (tr (by omega))) (R.block M lI.2 (tr (by omega)))
  clear T tr
  refine Aj<|Bh<|Aa (Ak (RG _) O ‹_› rfl) O ?_
  refine A0 underlying125 O (Ic _)<|Aa (Ak (EB _) O b_r12 (rfl:r.cells[0]? =some (st r.word))) O<|Ad O<|Br (Gz (d:= .string) (u:= .int .u8 (r.k:Int)) underlying135 FC O O O trivial E (by rintro v ⟨q,hq,e1, -⟩;exact hrd (K9 r hr q (hds q hq) (Lf e1) ▸ hq))) ?_
  rintro w13 ⟨mK13,Y,hz13⟩
  have tK:∀{X:Nat},X≠K→some X≠some K:=fun h e=>h (Option.some.inj e)
  have m:=m.grown Y (AA m) (by rintro _ ⟨⟩;omega)
  have a:=a.by Y (tK (by omega))
  have f:=f.by Y (tK (by omega))
  have l:=l.by Y (tK (by omega))
  have mI2:=mI2.keep (Y.block I (by omega) (tK (by omega))) (Y.block M (by omega) (tK (by omega)))
  exact Be<|Bi<|Av (Bw (ds++[r]) ⟨rfl,rfl,rfl,rfl,rfl,trivial⟩ (⟨QN hds hr,m,by omega,a,f,l,mI2.congr (Q6 ds r),mK13.congr (QS ds hr)⟩) (OS hr hrd))
 have hall2:∀r ∈ HI,r ∈ ds:=fun r hr=>by
  obtain ⟨q,hq,e, -⟩:=hall _ _ ⟨r,hr,rfl,rfl⟩
  have:(r.k:Int)=(q.k:Int):=by injection e
  rwa [Sp r hr q (hds q hq) (by omega)]
 have jK:BX w10 K .string UP:=(E.congr fun k v=>⟨fun ⟨r,h,e⟩=>⟨r,hds r h,e⟩,fun ⟨r,h,e⟩=>⟨r,hall2 r h,e⟩⟩).in
 have jM:BX w10 M (.int .u8) RD:=mI.map.in
 have zk:=jK.lt
 have zm:=jM.lt
 clear E mI hall hall2 hds
 refine Aa (Ex.extract (i:=0) O O) O<|Aj<|Aq<|Bv O false (rfl)<|Bn<|Al<|Al<|Bc<|Ci<|Ad O<|An O O (Ou s 10 w10 (hG.bs m) (by omega)) ?_
 rintro y w11 ⟨hn,o_y⟩
 replace m:=bt m hn
 have a:=a.bs hn
 have f:=f.bs hn
 have l:=l.bs hn
 have jK:=jK.bs hn
 have jM:=jM.bs hn
 have z11:=hn.size
 have s_y:=BD o_y
 have sh_y:=s_y.shp
 obtain ⟨c1,c2⟩:=H0 10 s
 have c0:=Ha 10 s
 have e0:(BQ 10 s).getLastD []=(BQ 10 s).getD ((BQ 10 s).length - 1) default:=by
  rw [List.getLastD_eq_getLast?,List.getLast?_eq_getElem?,getD_eq_getElem?_getD];rfl
 obtain ⟨cs,hcs⟩:∃cs,cs=BQ 10 s:=⟨_,rfl⟩
 have hlT:DX s=if cs.getD (cs.length - 1) default=[] then cs.dropLast else cs:=by rw [DX,e0,hcs]
 rw [← hcs] at c0 c1 c2 s_y sh_y
 have cp:0<cs.length:=List.length_pos_iff.2 c0
 obtain ⟨n,hn⟩:∃n,n=cs.length - 1:=⟨_,rfl⟩
 rw [← hn] at hlT
 refine Ab O<|Bj<|Ad O<|Aa (Au AS O ‹_›) O ?_
 refine Aa (Ec O O (by omega)) O<|Ab O<|Aj<|Aq<|Ee 10 (v' := .int .i64 (n:Int)) O (cngA (Value.int .i64) (by omega))<|Bh<|Ad O<|Ad O<|Aa (Bf AS O O ‹_› _ O (by omega)) O ?_
 refine Aa (Bl (EB _) O ‹_› (by omega)) O ?_
 refine Aa (En O O) O<|Aj ?_
 refine Dh (St:=(Value×List (List UInt8))) (fun z=>[(2, .pointer (some ⟨o,0,none⟩)),(5, .pointer (some ⟨Q,0,none⟩)),(6, .pointer (some ⟨N,0,none⟩)),(9,z.1)]) (fun z w' =>w' =w11∧z.2=DX s∧CA st w' z.1 z.2∧(∀x ∈ z.2,x ∈ cs)∧z.2.length≤cs.length∧∀b,z.1.ownBlock=some b→y.ownBlock=some b) ?_ ?_
 ·refine Ao O ?_ ?_
  ·intro e
   have e:cs.getD n default=[]:=AC e
   refine Bh<|Ad O<|Ad O<|Aa (Gl (j:=n) AS O O s_y (by omega)) O<|Ab O<|Be ?_
   exact B6 ((cut y 1 0 n,cs.take n)) ⟨rfl,rfl,rfl,rfl,trivial⟩ (⟨rfl,by rw [hlT,if_pos e,List.dropLast_eq_take,hn],CA.take s_y (by omega),fun x hx=>mem_of_mem_take hx,by rw [length_take];omega,MF y n⟩)
  intro e
  have e:¬cs.getD n default=[]:=AB e
  exact Ca<|B6 ((y,cs)) ⟨rfl,rfl,rfl,rfl,trivial⟩ (⟨rfl,by rw [hlT,if_neg e],s_y,fun x hx=>hx,AX _,fun b e=>e⟩)
 rintro ⟨yl,ts⟩ w12 ⟨rfl,hts,D,m1,m2,m3⟩
 dsimp only at hts D m1 m2 m3 ⊢
 have yo:∀b,yl.ownBlock=some b→w10.heap.size≤b∧b<w12.heap.size:=fun b e=>AF o_y b (m3 b e)
 have tl:∀x ∈ ts,x.length≤65536:=fun x hx=>by have:=c2 x (m1 x hx);omega
 obtain ⟨r1,r2⟩:=QC hs
 rw [← hts] at r1 r2
 clear s_y sh_y o_y hlT c0 c2 e0 hts m1 m3
 obtain ⟨B,eB⟩:∃B,B=w12.heap.size:=⟨_,rfl⟩
 rw [← eB] at yo
 refine B8<|Aq<|Ah<|Ad O<|Aa (Au AS O ‹_›) O ?_
 refine Ad O<|Aj<|Ar ?_
 refine Bo (S:=(Nat×List N5×Value)) (fun z=>[(2, .pointer (some ⟨o,0,none⟩)),(5, .pointer (some ⟨Q,0,none⟩)),(6, .pointer (some ⟨N,0,none⟩)),(44,yl),(45, .int .i64 (ts.length:Int)),(46, .int .i64 (z.1:Int))]) (fun z w' =>z.1≤ts.length∧z.2.1.length=z.1∧z.1≤32∧EL ts z.1 (z.2.1.map pn)∧Below W.heap.size W w' ∧MS w' B o z.2.1 z.2.2∧AN w' Q 122 [.map (some M)]∧AN w' N 135 [.map (some K)]∧BX w' K .string UP∧BX w' M (.int .u8) RD∧CA st w' yl ts) (fun z=>ts.length - z.1) ((0,[], .slice none 0 0)) ⟨rfl,rfl,rfl,rfl,rfl,rfl,trivial⟩ ?_ ?_
 ·exact ⟨Nat.zero_le _,rfl,Nat.zero_le _,Fz ts,m,⟨a,World.ownsRow_nil _ _ _ _,Nat.le_of_eq eB⟩,f,l,jK,jM,D⟩
 clear m a f l jK jM D
 rintro ⟨i,ls,vn⟩ w13 ⟨hi,hl,h32,hA,m,L,f,l,jK,jM,D⟩
 dsimp only at hi hl h32 hA m L f l jK jM D ⊢
 have zB:B≤w13.heap.size:=L.lay.le
 refine Ah<|B1 O<|Aj<|Aq<|Ao O ?_ ?_
 ·intro gi
  have gi:i<ts.length:=by have:=AC gi;omega
  obtain ⟨t,ht⟩:∃t,t=ts.getD i default:=⟨_,rfl⟩
  have hd:ts.drop i=t::ts.drop (i+1):=by
   rw [ht,getD_eq_getElem?_getD,getElem?_eq_getElem gi]
   exact drop_eq_getElem_cons gi
  have lt:t.length≤65536:=tl t (by
   rw [ht,getD_eq_getElem?_getD,getElem?_eq_getElem gi]
   exact getElem_mem gi)
  refine B2<|Aq<|Ar<|Ah<|Ad O<|Aa (Bf AS O O ‹_› _ O (by omega)) O ?_
  refine Aa (Bl (EB _) O ‹_› (by omega)) O ?_
  refine Ab O<|Ab O<|Bg<|Ad O ?_
  rw [← ht]
  refine An O O (Ou t 32 w13 (hG.bs m) (by omega)) ?_
  rintro q w14 ⟨J,o_q⟩
  have z14:=J.size
  replace m:=bt m J
  have L:=L.bs J
  have f:=f.bs J
  have l:=l.bs J
  have jK:=jK.bs J
  have jM:=jM.bs J
  have D:=D.bs J
  have hG14:=hG.bs m
  have s_q:=BD o_q
  obtain ⟨q1,q2⟩:=H0 32 t
  have q0:=List.length_pos_iff.2 (Ha 32 t)
  refine Aa (Cc (vs:=[(0,q)]) (cs:=[q]) O (SH _ s_q.one)) O<|Bq (Xw.box (cs:=[q]) O O) O ?_
  rintro _ w15 ⟨rfl,T,G,z15⟩
  obtain ⟨A,eA⟩:∃A,A=w14.heap.size:=⟨_,rfl⟩
  rw [← eA] at T ⊢
  replace m:=bt m G
  have L:=L.bs G
  have f:=f.bs G
  have l:=l.bs G
  have jK:=jK.bs G
  have jM:=jM.bs G
  have D:=D.bs G
  refine Lw.boxed1 (u:= .pointer (some ⟨A,0,none⟩)) TR To O (fun _=>rfl) (rfl) ?_
  rintro A_c w eA_c b_c C zhn16
  have z16:=C.size
  have hn1416:Below w14.heap.size w14 w:=bt G C
  replace m:=bt m C
  have L:=L.bs C
  have f:=f.bs C
  have l:=l.bs C
  have jK:=jK.bs C
  have jM:=jM.bs C
  have D:=D.bs C
  have T:=T.bs C
  refine Bg<|Ad O<|Aa (D9 O O) O<|Ad O ?_
  refine Bx 57 O ?_ ?_
  ·intro g
   have g:32≤i:=by have:=AC g;omega
   have eP:=hA.no hd (.inl g)
   have a:=L.g
   refine Ae (dj:=57) O O O O<|Ae (dj:=57) O O O O<|Ae (dj:=57) O O O O<|Bu O<|Aj<|B3 O<|Ah<|Aa (Cc (vs:=[]) (cs:=[.slice none 0 0]) O (by kernel_rfl)) O<|Ad O<|Br (Cz (cs:=[.slice none 0 0]) (k:=1) (by kernel_rfl) O O O O a O) ?_
   rintro wb ⟨b_gb,hgb,hzb⟩
   have hBb:=m.grown hgb (AA m) (by rintro _ ⟨⟩;omega)
   refine Ab O<|Ab O<|Ay<|Ba<|Ap<|Ap<|Ba<|Ap<|Dm O O O O ‹_› underlying24 O O O ?_
   exact ⟨hBb,Jv (AA hBb) (r1 _ eP).1 (r1 _ eP).2.1 (r1 _ eP).2.2⟩
  intro g
  have g:i<32:=by have:=AB g;omega
  have vo:∀b,vn.ownBlock=some b→B≤b∧b<w.heap.size:=fun b e=>AF L.o b e
  have hp:∀Z H,Z=w.heap.size→Below w.heap.size w H→AN H Z 4 [.bool false]→
    LF prog 126 [.pointer (some ⟨o,0,none⟩), .pointer (some ⟨A_c,0,none⟩), .pointer (some ⟨N,0,none⟩), .pointer (some ⟨Q,0,none⟩)] H SY
     (fun r w' =>r= .tuple #[]∧AN w' Z 4 [.bool false]∧∃H c vn',Below w.heap.size w H∧Z<H.heap.size∧AN w' Z 4 [.bool false]∧CH (BQ 32 t)=some (pn c)∧BJ (fun b=>b=A∨b=o∨vn.ownBlock=some b) H w' ∧MS w' B o (ls++[c]) vn')
     (fun w' =>AN w' Z 4 [.bool false]∧CH (BQ 32 t)=none∧∃H,Below w.heap.size w H∧Z<H.heap.size∧AN w' Z 4 [.bool false]∧BJ (fun b=>b=A∨b=o∨vn.ownBlock=some b) H w' ∧MS w' B o ls vn):=fun Z H eA' U p=>by
   have zk:=U.size
   have nS:¬(Z=A∨Z=o∨vn.ownBlock=some Z):=by
    rintro (e|e|e)
    ·omega
    ·omega
    ·have:=vo _ e;omega
   have hR:LD w14 H A q (BQ 32 t):=⟨s_q,bt hn1416 U,Nat.le_of_eq eA.symm,T.bs U⟩
   exact (QA w14 H A o A_c N Q K M B q vn (BQ 32 t) ls hG14 hR (fun x hx=>by have:=q2 x hx;omega) (by omega) q0 (jK.bs U) (jM.bs U) (by omega) (L.bs U) (by omega) (b_c.bs U) (l.bs U) (f.bs U) (by omega) (by omega)).mono
    (fun r w' ⟨h1,c,vn',h2,h3,h4⟩=>⟨h1,p.chg h3 nS,H,c,vn',U,BL p,p.chg h3 nS,h2,h3,h4⟩)
    fun w' ⟨h1,h2,h3⟩=>⟨p.chg h2 nS,h1,H,U,BL p,p.chg h2 nS,h2,h3⟩
  refine Af (dj:=57) O O<|Aa (F2 (vs:=[]) (us:=[.pointer (some ⟨o,0,none⟩), .pointer (some ⟨A_c,0,none⟩), .pointer (some ⟨N,0,none⟩), .pointer (some ⟨Q,0,none⟩)]) O O) O<|Af (dj:=57) O O<|An O O (OZ 126 [.pointer (some ⟨o,0,none⟩), .pointer (some ⟨A_c,0,none⟩), .pointer (some ⟨N,0,none⟩), .pointer (some ⟨Q,0,none⟩)] w (fun Z w' =>∃H c vn',Below w.heap.size w H∧Z<H.heap.size∧AN w' Z 4 [.bool false]∧CH (BQ 32 t)=some (pn c)∧BJ (fun b=>b=A∨b=o∨vn.ownBlock=some b) H w' ∧MS w' B o (ls++[c]) vn') (fun Z w' =>CH (BQ 32 t)=none∧∃H,Below w.heap.size w H∧Z<H.heap.size∧AN w' Z 4 [.bool false]∧BJ (fun b=>b=A∨b=o∨vn.ownBlock=some b) H w' ∧MS w' B o ls vn) hp) ?_
  rintro _ w17 ⟨Z,w0,eA',hg,⟨rfl,H,c,vn',U,hAk,p,eN,V,hS2⟩|⟨rfl,eN,H,U,hAk,p,V,hS2⟩⟩
  ·have zk:=U.size
   have zc:=V.size
   have nS:∀{X:Nat},X<B→X≠o→¬(X=A∨X=o∨vn.ownBlock=some X):=fun h1 h2=>by
    rintro (e|e|e)
    ·omega
    ·exact h2 e
    ·have:=vo _ e;omega
   have hB0:Below W.heap.size W w0:=(bt m U).trans (V.to_below (by rintro k (rfl|rfl|e);omega;omega;have:=vo _ e;omega) (by omega))
   replace m:=hB0.grown hg (AA hB0) (by rintro _ ⟨⟩;omega)
   have tA:∀{X:Nat},X<B→some X≠some Z:=fun h e=>by have:=Option.some.inj e;omega
   replace f:=((f.bs U).chg V (nS (by omega) (by omega))).by hg (tA (by omega))
   replace l:=((l.bs U).chg V (nS (by omega) (by omega))).by hg (tA (by omega))
   replace jK:=GI (KH (jK.bs U) V (nS (by omega) (by omega))) hg (tA (by omega))
   replace jM:=GI (KH (jM.bs U) V (nS (by omega) (by omega))) hg (tA (by omega))
   replace D:=((D.bs U).chg V (fun b e _=>nS (yo b e).2 (by have:=yo b e;omega))).by hg (.inr fun e=>by have:=yo _ e;omega)
   replace L:=hS2.ob hg p (by decide) (by decide) (by decide)
   clear hp V p hS2 hB0 U b_c T o_q s_q
   have hN:EL ts (i+1) ((ls++[c]).map pn):=by
    rw [map_append]
    exact hA.step hd g eN
   refine Af (dj:=57) O O<|Aa (Co O) O<|B4 O<|Aj<|Bv O false (rfl)<|Ca<|Bi<|Cd<|B9 O (by omega)<|Ad O<|Be ?_
   exact Av (Bw ((i+1,ls++[c],vn')) ⟨rfl,rfl,rfl,rfl,rfl,rfl,trivial⟩ (⟨gi,by rw [length_append,hl];rfl,g,hN,m,L,f,l,jK,jM,D⟩) (by simp only;omega))
  have zk:=U.size
  have zc:=V.size
  have hB0:Below W.heap.size W w0:=(bt m U).trans (V.to_below (by rintro k (rfl|rfl|e);omega;omega;have:=vo _ e;omega) (by omega))
  replace m:=hB0.grown hg (AA hB0) (by rintro _ ⟨⟩;omega)
  replace L:=hS2.ob hg p (by decide) (by decide) (by decide)
  have a:=L.g
  have eP:=hA.no hd (.inr eN)
  refine Af (dj:=57) O O<|Aa (Co O) O<|B4 O<|Aj<|Bv O true (rfl)<|Ah<|Aa (Cc (vs:=[]) (cs:=[.slice none 0 0]) O (by kernel_rfl)) O<|Ad O<|Br (Cz (cs:=[.slice none 0 0]) (k:=1) (by kernel_rfl) O O O O a O) ?_
  rintro wb ⟨b_gb,hgb,hzb⟩
  have hBb:=m.grown hgb (AA m) (by rintro _ ⟨⟩;omega)
  refine Ab O<|Ab O<|Ay<|Ba<|Ap<|Ap<|Ba<|Ap<|Dm O O O O ‹_› underlying24 O O O ?_
  exact ⟨hBb,Jv (AA hBb) (r1 _ eP).1 (r1 _ eP).2.1 (r1 _ eP).2.2⟩
 intro gi
 have gi:i=ts.length:=by have:=AB gi;omega
 have eP:=hA.done gi
 obtain ⟨rA,rE,rR⟩:=r2 _ eP
 rw [I0] at rE rR
 have a:=L.g
 clear f l jK jM D hA eP
 refine Bn<|Al<|Al<|Bc<|Av<|B8<|Aq<|Ah<|Aa (Cj (DW _) (DV _) O O ‹_›) O ?_
 refine An O O (M7 vn ls w13 L.gn) ?_
 rintro _ w14 ⟨hn,rfl⟩
 have z14:=hn.size
 replace m:=bt m hn
 have L:=L.bs hn
 have a:=a.bs hn
 refine Aa (Co O) O<|Aj<|Ao O ?_ ?_
 ·intro g
  have g:(Hg ls).isSome=false:=by simpa using g
  refine Ah<|Aa (Cc (vs:=[]) (cs:=[.slice none 0 0]) O (by kernel_rfl)) O<|Br (Cz (cs:=[.slice none 0 0]) (k:=1) (by kernel_rfl) O O O O a O) ?_
  rintro wb ⟨b_gb,hgb,hzb⟩
  have hBb:=m.grown hgb (AA m) (by rintro _ ⟨⟩;omega)
  refine Ab O<|Ab O<|Bz<|Dm O O O O ‹_› underlying24 O O O ?_
  exact ⟨hBb,Jv (AA hBb) rA (by rw [rE,g];rfl) (by rw [rR,g];rfl)⟩
 intro g
 have g:(Hg ls).isSome=true:=by simpa using g
 rw [g] at rE rR
 refine Cp<|A0 underlying24 O (BY _)<|Aa (Ak (CS _) O ‹_› rfl) O ?_
 refine An O O (SE vn _ _ _ (AG L.o)) ?_
 rintro _ w15 ⟨rfl,hn⟩
 have z15:=hn.size
 replace m:=bt m hn
 have L:=L.bs hn
 have a:=a.bs hn
 have k6:=AT.clip L.o
 refine A0 underlying24 O (BY _)<|Br (C4 (u:=clip vn) (BY _) O O k6.sl.one' a (show 0<1 by decide)) ?_
 rintro w ⟨b_g16,hg16,hz16⟩
 have t6:∀b,some o=some b→∃cs,AN w15 b 24 cs:=fun b e=>by cases e;exact ⟨_,a⟩
 have k7:=AE k6 hg16 t6 (by decide)
 have l7:=L.lay.other hg16 t6 (by decide)
 have m:=m.grown hg16 (AA m) (by rintro _ ⟨⟩;omega)
 replace a:AN w o 24 [clip vn]:=b_g16
 have one7:[clip vn].all (·.oneCell')=true:=by simp [k7.sl.one']
 clear b_g16
 refine Bg<|Aa (Cj (DW _) (DV _) O O ‹_›) O ?_
 refine Br (Cz (cs:=[clip vn]) (k:=1) (by kernel_rfl) O O O one7 a O) ?_
 rintro w17 ⟨b_g17,hg17,hz17⟩
 have t7:∀b,some o=some b→∃cs,AN w b 24 cs:=fun b e=>by cases e;exact ⟨_,a⟩
 have k8:=AE k7 hg17 t7 (by decide)
 have l8:=l7.other hg17 t7 (by decide)
 have m:=m.grown hg17 (AA m) (by rintro _ ⟨⟩;omega)
 refine Ab O<|Ab O<|Ay<|Dm O O O O ‹_› underlying24 O O O ?_
 exact ⟨m,clip vn,ls,by rw [rA,rE];rfl,by rw [rR];rfl,GR.low (l8.top (by omega)) (by omega),k8.mono (by omega)⟩

-- dd: text
theorem QL {p:Prop} [Decidable p] (h:(!decide p)=true):¬p:=by simpa using h
theorem QM {p:Prop} [Decidable p] (h:(!decide p)=false):p:=by simpa using h
theorem IH {L:Option PN} {c:Prop} [Decidable c] {b:Bool} {x:N5} {d:PN} (f:L=if c then some d else none) (e:pn x=d) (h:b=true↔c):b=L.isSome∧∀p,L=some p→pn x=p:=by
 subst f
 by_cases hc:c
 ·rw [if_pos hc]
  exact ⟨h.2 hc,fun p a=>by cases a;exact e⟩
 ·rw [if_neg hc]
  refine ⟨?_,fun p a=>by cases a⟩
  cases b with
  |false=>rfl
  |true=>exact absurd (h.1 rfl) hc
theorem JM {L:Option PN} {x:N5} (b:L=none):false=L.isSome∧∀p,L=some p→pn x=p:=by
 subst b
 exact ⟨rfl,fun p a=>by cases a⟩
def MR (W w:World) (r:Value) (L:Option PN):Prop:=∃c:N5,r= .tuple #[c.v, .bool L.isSome]∧(∀p,L=some p→pn c=p)∧AT w W.heap.size 3 1 c.x c.i.length (c.i.map (Value.int .i64))∧AT w W.heap.size 3 1 c.y c.s.length (c.s.map (Value.int .i64))
theorem Ds {W w:World} {L:Option PN} {b:Bool} {c:N5} (h:b=L.isSome∧∀p,L=some p→pn c=p) (a:AT w W.heap.size 3 1 c.x c.i.length (c.i.map (Value.int .i64))) (d:AT w W.heap.size 3 1 c.y c.s.length (c.s.map (Value.int .i64))):MR W w (.tuple #[c.v, .bool b]) L:=⟨c,by rw [h.1],h.2,a,d⟩
theorem DO (w:World) (a:Nat):AT w a 3 1 (.slice none 0 0) ([]:List Int).length (([]:List Int).map (Value.int .i64)):= .inl ⟨rfl, .inl ⟨rfl,rfl⟩⟩
theorem QT (s:List UInt8):CM s ∈ [0#8,1#8,2#8,3#8,4#8,5#8,6#8,7#8,8#8,9#8,10#8,11#8,12#8,13#8]:=by
 by_cases h:∃r ∈ HI,r.word=s
 ·obtain ⟨r,a,rfl⟩:=h
  rw [Iy a]
  revert r
  decide+kernel
 ·rw [Iz fun r a e=>h ⟨r,a,e⟩]
  decide
set_option maxHeartbeats 4000000 in
theorem Q5 (s:List UInt8) (W:World) (hs:s.length≤65536):AJ prog 129 [st s] W (fun r w' =>Below W.heap.size W w' ∧MR W w' r (CH (BQ 32 s))):=by
 obtain ⟨L,hL⟩:∃L,L=CH (BQ 32 s):=⟨_,rfl⟩
 rw [← hL]
 refine Bd (n:=193) func129 O<|Ah<|Dg EA O ?_
 rintro S w1 eA_o j m zhB
 have z1:=m.size
 refine Ab O<|Bg<|Ad O<|An O O (LU s 32 w1 (by omega)) ?_
 rintro y w2 ⟨K,o_y⟩
 have z2:=K.size
 replace m:=bt m K
 have j:=j.bs K
 obtain ⟨c1,c2⟩:=H0 32 s
 obtain ⟨Z,T,e0⟩:∃Z T,BQ 32 s=Z::T:=by
  cases h:BQ 32 s with
  |nil=>exact absurd h (Ha 32 s)
  |cons a l=>exact ⟨a,l,rfl⟩
 rw [e0] at o_y hL c1 c2
 have Q:=BD o_y
 have yo:∀b,y.ownBlock=some b→b<w2.heap.size:=fun b e=>(AF o_y b e).2
 have lr:T.length≤65536:=by simp only [length_cons] at c1;omega
 have lx:∀x ∈ T,x.length≤100000:=fun x hx=>by have:=c2 x (by simp [hx]);omega
 clear K o_y
 have l0:0<(Z::T).length:=by simp
 refine Ab O<|Bg<|Ad O<|Aa (Bf AS O O Q 0 O l0) O<|Aa (Ex.as (Bl (EB _) O Q l0) (rfl:_=st Z)) O<|An O O (So Z w2) ?_
 rintro _ w3 ⟨rfl,K⟩
 obtain ⟨k,hk⟩:∃k,CM Z=k:=⟨_,rfl⟩
 rw [hk]
 replace m:=bt m K
 have j:=j.bs K
 have Q:=Q.bs K
 have z3:=K.size
 refine Aa (Cc (cs:=[b8 k, .slice none 0 0, .slice none 0 0, .int .i64 0, .int .i64 0]) O (Rz k)) O<|Cv (cs:=[b8 k, .slice none 0 0, .slice none 0 0, .int .i64 0, .int .i64 0]) EA O O O O (fun _=>rfl) (rfl) ?_
 rintro A w4 eA_x p hn4 zhn4
 replace m:=bt m hn4
 have j:=j.bs hn4
 have Q:=Q.bs hn4
 have z4:=hn4.size
 have ao:S<A:=by omega
 have X:CA st w4 (cut y 1 1 (Z::T).length) T:=CA.drop Q (show 1≤(Z::T).length by omega)
 refine Bg<|Ad O<|Aa (Fp (i:=1) AS O O Q (by simp)) O<|Ab O<|Bg<|Ad O<|An O O (JL (cut y 1 1 (Z::T).length) T w4 X lx (by omega)) ?_
 rintro f w5 ⟨K,o_f⟩
 obtain ⟨F,R,hFR⟩:∃F R,BT T.length T=(F,R):=⟨_,_,rfl⟩
 have hW:RL Z T F R:=⟨hFR,lr⟩
 obtain ⟨f1,f2,f3,f4⟩:=hW.F
 rw [hFR] at o_f
 have z5:=K.size
 replace m:=bt m K
 have j:=j.bs K
 have p:=p.bs K
 have X:=X.bs K
 have d:AT w5 w4.heap.size 3 1 f F.length (F.map (Value.int .i64)):= .inl o_f
 have U:=d.sl
 have lFR:F.length≤T.length:=by
  have:=cngA length f3
  rw [length_append,length_map] at this
  omega
 have w:CA st w5 (cut (cut y 1 1 (Z::T).length) 1 F.length T.length) R:=by rw [f4];exact CA.drop X lFR
 have lR:R.length≤65536:=by rw [f4,length_drop];omega
 have lxR:∀x ∈ R,x.length≤100000:=fun x hx=>lx x (by rw [f4] at hx;exact mem_of_mem_drop hx)
 refine Ab O<|Bg<|Ad O<|Ad O<|Aa (Au AD O ‹_›) O ?_
 refine Aa (Fp (i:=F.length) AS O O X lFR) O<|Ab O<|Bg<|Ad O<|A0 underlying79 O (AU _) ?_
 obtain ⟨u,hu⟩:∃u,u=cut (cut y 1 1 (Z::T).length) 1 F.length T.length:=⟨_,rfl⟩
 rw [← hu] at w ⊢
 have uo:∀b,u.ownBlock=some b→b<w2.heap.size:=fun b e=>yo b (L5 (L5 (hu ▸ e)))
 clear hu X Q o_f f4 K c2 lx yo
 refine Br (C4 (AU _) O O d.sl.one' p (show 1<5 by decide)) ?_
 rintro w6 ⟨b_x6,t,hz6⟩
 have m:=m.grown t (AA m) (by rintro _ ⟨⟩;omega)
 have j:=j.by t (fun e=>by have:=Option.some.inj e;omega)
 replace d:=AE d t (fun b e=>by cases e;exact ⟨_,p⟩) (by decide)
 have w:=w.by t (.inr fun e=>by have:=uo _ e;omega)
 replace U:=d.sl
 replace p:AN w6 A 79 [b8 k,f, .slice none 0 0, .int .i64 0, .int .i64 0]:=b_x6
 clear b_x6 t
 have H:[b8 k,f, .slice none 0 0, .int .i64 0, .int .i64 0].all (·.oneCell')=true:=by
  rw [all_cons,all_cons,U.one'];rfl
 refine Bg<|Ad O<|Aa (Au AD O ‹_›) O ?_
 refine Ab O<|Bj<|A0 underlying79 O (DA _)<|Aa (Ak (DG _) O ‹_› rfl) O ?_
 refine Aj<|Ar<|Aq<|Ah<|Aa (B0 O (show _=some (b8 (1#8)) from rfl)) O<|Ab O<|Aj ?_
 refine Dh (St:=Bool) (fun z=>[(2, .pointer (some ⟨S,0,none⟩)),(5, .pointer (some ⟨A,0,none⟩)),(6,u),(7,f),(8, .int .i64 (F.length:Int)),(36,b8 k),(37, .bool z)]) (fun z w' =>w' =w6∧z=decide (k=1#8∨k=2#8)) ?_ ?_
 ·refine Ao O ?_ ?_
  ·intro g
   have g:k=1#8:=AC g
   refine Ca ?_
   exact B6 (true) ⟨rfl,rfl,rfl,rfl,rfl,rfl,cngA (fun b=>some (Value.bool b)) (decide_eq_true g),trivial⟩ (⟨rfl,by rw [g];rfl⟩)
  intro g
  have g:¬k=1#8:=AB g
  exact Bh<|Aa (B0 rfl (show _=some (b8 (2#8)) from rfl)) rfl<|Ab rfl<|Be<|B6 (decide (k=2#8)) ⟨rfl,rfl,rfl,rfl,rfl,rfl,rfl,trivial⟩ (⟨rfl,by simp [g]⟩)
 rintro z wc ⟨rfl,rfl⟩
 refine B8<|Ao O ?_ ?_
 ·intro g
  have g:k=1#8∨k=2#8:=AC g
  have M:=hL.trans (TA hW hk g)
  refine Ah<|A0 underlying79 O (AU _)<|Br (C4 (AU _) O O O p (show 1<5 by decide)) ?_
  rintro w7 ⟨b_x7,t,hz7⟩
  have m:=m.grown t (AA m) (by rintro _ ⟨⟩;omega)
  have j:=j.by t (fun e=>by have:=Option.some.inj e;omega)
  replace d:=AE d t (fun b e=>by cases e;exact ⟨_,p⟩) (by decide)
  have w:=w.by t (.inr fun e=>by have:=uo _ e;omega)
  replace U:=d.sl
  replace p:AN w7 A 79 [b8 k, .slice none 0 0, .slice none 0 0, .int .i64 0, .int .i64 0]:=b_x7
  clear b_x7 t
  refine Bg<|Ad O<|A0 underlying79 O (AU _)<|Br (C4 (AU _) O O d.sl.one' p (show 2<5 by decide)) ?_
  rintro w8 ⟨V,t,hz8⟩
  have m:=m.grown t (AA m) (by rintro _ ⟨⟩;omega)
  have j:=j.by t (fun e=>by have:=Option.some.inj e;omega)
  replace d:=AE d t (fun b e=>by cases e;exact ⟨_,p⟩) (by decide)
  have w:=w.by t (.inr fun e=>by have:=uo _ e;omega)
  replace U:=d.sl
  replace p:AN w8 A 79 [b8 k, .slice none 0 0,f, .int .i64 0, .int .i64 0]:=V
  clear V t
  have D:[b8 k, .slice none 0 0,f, .int .i64 0, .int .i64 0].all (·.oneCell')=true:=by
   rw [all_cons,all_cons,all_cons,U.one'];rfl
  refine Bg<|Aa (Cj (k:=5) (CY _) (CW _) O O p) O<|Ad O<|Aa (D9 O O) O<|Ad O ?_
  refine Bx 46 O ?_ ?_
  ·intro C
   have C:1≤F.length:=by have:=AC C;omega
   refine Af (dj:=46) O O<|Ad O<|Af (dj:=46) O O<|Aa (Au AS O ‹_›) O ?_
   refine Af (dj:=46) O O<|Aa (Cl O O) O<|Bu O<|Br (Cz (cs:=[b8 k, .slice none 0 0,f, .int .i64 0, .int .i64 0]) (k:=5) (by kernel_rfl) O O O D j O) ?_
   rintro wz ⟨v,o,J⟩
   have m:=m.grown o (AA m) (by rintro _ ⟨⟩;omega)
   replace d:=AE d o (fun b e=>by cases e;exact ⟨_,j⟩) (by decide)
   refine Ab O<|Ay<|Ba<|Ap<|Dk O O O ‹_› underlying79 O O O ?_
   exact ⟨m,Ds (c:=⟨k, .slice none 0 0,f,[],F,0,0⟩) (IH M rfl (by rw [decide_eq_true_eq,← length_eq_zero_iff];omega)) (DO _ _) (d.mono (by omega))⟩
  intro C
  have C:¬1≤F.length:=by have:=AB C;omega
  refine Ae (dj:=46) O O O O<|Ae (dj:=46) O O O O<|Ae (dj:=46) O O O O<|B4 O<|Br (Cz (cs:=[b8 k, .slice none 0 0,f, .int .i64 0, .int .i64 0]) (k:=5) (by kernel_rfl) O O O D j O) ?_
  rintro wz ⟨v,o,J⟩
  have m:=m.grown o (AA m) (by rintro _ ⟨⟩;omega)
  replace d:=AE d o (fun b e=>by cases e;exact ⟨_,j⟩) (by decide)
  refine Ab O<|Ay<|Ba<|Ap<|Dk O O O ‹_› underlying79 O O O ?_
  exact ⟨m,Ds (c:=⟨k, .slice none 0 0,f,[],F,0,0⟩) (JM (M.trans (if_neg fun h=>C h.1))) (DO _ _) (d.mono (by omega))⟩
 intro g1
 have g1:¬(k=1#8∨k=2#8):=AB g1
 refine Aq<|Ah<|Aa (B0 O (show _=some (b8 (3#8)) from rfl)) O<|Ab O<|Aj ?_
 refine Dh (St:=Bool) (fun z=>[(2, .pointer (some ⟨S,0,none⟩)),(5, .pointer (some ⟨A,0,none⟩)),(6,u),(7,f),(8, .int .i64 (F.length:Int)),(36,b8 k),(51, .bool z)]) (fun z w' =>w' =wc∧z=decide (k=3#8∨k=4#8∨k=7#8)) ?_ ?_
 ·refine Ao O ?_ ?_
  ·intro g
   have g:k=3#8:=AC g
   refine Ca ?_
   exact B6 (true) ⟨rfl,rfl,rfl,rfl,rfl,rfl,cngA (fun b=>some (Value.bool b)) (decide_eq_true g),trivial⟩ (⟨rfl,by rw [g];rfl⟩)
  intro g
  have g:¬k=3#8:=AB g
  refine Ah<|Aa (B0 O (show _=some (b8 (4#8)) from rfl)) O<|Ab O<|Aj<|Ao O ?_ ?_
  ·intro C
   have C:k=4#8:=AC C
   refine Ca ?_
   exact B6 (true) ⟨rfl,rfl,rfl,rfl,rfl,rfl,cngA (fun b=>some (Value.bool b)) (decide_eq_true C),trivial⟩ (⟨rfl,by rw [C];rfl⟩)
  intro C
  have C:¬k=4#8:=AB C
  exact Bh<|Aa (B0 rfl (show _=some (b8 (7#8)) from rfl)) rfl<|Ab rfl<|Be<|B6 (decide (k=7#8)) ⟨rfl,rfl,rfl,rfl,rfl,rfl,rfl,trivial⟩ (⟨rfl,by simp [g,C]⟩)
 rintro z wd ⟨rfl,rfl⟩
 refine B8<|Ao O ?_ ?_
 ·intro g
  have g:k=3#8∨k=4#8∨k=7#8:=AC g
  have M:=hL.trans (QQ hW hk (.inl ⟨rfl,g⟩))
  refine Ah<|Aa (Cj (k:=5) (CY _) (CW _) O O p) O<|Ad O<|Aa (Cl O O) O<|Ad O ?_
  refine Bx 58 O ?_ ?_
  ·intro C
   have C:F.length=2:=by have:=AC C;omega
   refine Af (dj:=58) O O<|Ad O<|Af (dj:=58) O O<|Aa (Au AS O ‹_›) O ?_
   refine Af (dj:=58) O O<|Aa (Cl O O) O<|Bu O<|Br (Cz (cs:=[b8 k,f, .slice none 0 0, .int .i64 0, .int .i64 0]) (k:=5) (by kernel_rfl) O O O H j O) ?_
   rintro wz ⟨v,o,J⟩
   have m:=m.grown o (AA m) (by rintro _ ⟨⟩;omega)
   replace d:=AE d o (fun b e=>by cases e;exact ⟨_,j⟩) (by decide)
   refine Ab O<|Ay<|Ba<|Ap<|Dk O O O ‹_› underlying79 O O O ?_
   exact ⟨m,Ds (c:=⟨k,f, .slice none 0 0,F,[],0,0⟩) (IH M rfl (by rw [decide_eq_true_eq,← length_eq_zero_iff];omega)) (d.mono (by omega)) (DO _ _)⟩
  intro C
  have C:¬F.length=2:=fun e=>by have:=AB C;omega
  refine Ae (dj:=58) O O O O<|Ae (dj:=58) O O O O<|Ae (dj:=58) O O O O<|B4 O<|Br (Cz (cs:=[b8 k,f, .slice none 0 0, .int .i64 0, .int .i64 0]) (k:=5) (by kernel_rfl) O O O H j O) ?_
  rintro wz ⟨v,o,J⟩
  have m:=m.grown o (AA m) (by rintro _ ⟨⟩;omega)
  replace d:=AE d o (fun b e=>by cases e;exact ⟨_,j⟩) (by decide)
  refine Ab O<|Ay<|Ba<|Ap<|Dk O O O ‹_› underlying79 O O O ?_
  exact ⟨m,Ds (c:=⟨k,f, .slice none 0 0,F,[],0,0⟩) (JM (M.trans (if_neg fun h=>C h.1))) (d.mono (by omega)) (DO _ _)⟩
 intro g3
 have g3:¬(k=3#8∨k=4#8∨k=7#8):=AB g3
 refine Ah<|Aa (B0 O (show _=some (b8 (5#8)) from rfl)) O<|Ab O<|Aj<|Ao O ?_ ?_
 ·intro g
  have g:k=5#8:=AC g
  have M:=hL.trans (QQ hW hk (.inr ⟨rfl,g⟩))
  refine Ah<|Aa (Cj (k:=5) (CY _) (CW _) O O p) O<|Ad O<|Aa (Cl O O) O<|Ad O ?_
  refine Bx 68 O ?_ ?_
  ·intro C
   have C:F.length=1:=by have:=AC C;omega
   refine Af (dj:=68) O O<|Ad O<|Af (dj:=68) O O<|Aa (Au AS O ‹_›) O ?_
   refine Af (dj:=68) O O<|Aa (Cl O O) O<|Bu O<|Br (Cz (cs:=[b8 k,f, .slice none 0 0, .int .i64 0, .int .i64 0]) (k:=5) (by kernel_rfl) O O O H j O) ?_
   rintro wz ⟨v,o,J⟩
   have m:=m.grown o (AA m) (by rintro _ ⟨⟩;omega)
   replace d:=AE d o (fun b e=>by cases e;exact ⟨_,j⟩) (by decide)
   refine Ab O<|Ay<|Ba<|Ap<|Dk O O O ‹_› underlying79 O O O ?_
   exact ⟨m,Ds (c:=⟨k,f, .slice none 0 0,F,[],0,0⟩) (IH M rfl (by rw [decide_eq_true_eq,← length_eq_zero_iff];omega)) (d.mono (by omega)) (DO _ _)⟩
  intro C
  have C:¬F.length=1:=fun e=>by have:=AB C;omega
  refine Ae (dj:=68) O O O O<|Ae (dj:=68) O O O O<|Ae (dj:=68) O O O O<|B4 O<|Br (Cz (cs:=[b8 k,f, .slice none 0 0, .int .i64 0, .int .i64 0]) (k:=5) (by kernel_rfl) O O O H j O) ?_
  rintro wz ⟨v,o,J⟩
  have m:=m.grown o (AA m) (by rintro _ ⟨⟩;omega)
  replace d:=AE d o (fun b e=>by cases e;exact ⟨_,j⟩) (by decide)
  refine Ab O<|Ay<|Ba<|Ap<|Dk O O O ‹_› underlying79 O O O ?_
  exact ⟨m,Ds (c:=⟨k,f, .slice none 0 0,F,[],0,0⟩) (JM (M.trans (if_neg fun h=>C h.1))) (d.mono (by omega)) (DO _ _)⟩
 intro g5
 have g5:¬k=5#8:=AB g5
 refine Aq<|Ah<|Aa (B0 O (show _=some (b8 (10#8)) from rfl)) O<|Ab O<|Aj ?_
 refine Dh (St:=Bool) (fun z=>[(2, .pointer (some ⟨S,0,none⟩)),(5, .pointer (some ⟨A,0,none⟩)),(6,u),(8, .int .i64 (F.length:Int)),(36,b8 k),(73, .bool z)]) (fun z w' =>w' =wd∧z=decide (k=10#8∨k=11#8)) ?_ ?_
 ·refine Ao O ?_ ?_
  ·intro g
   have g:k=10#8:=AC g
   refine Ca ?_
   exact B6 (true) ⟨rfl,rfl,rfl,rfl,rfl,cngA (fun b=>some (Value.bool b)) (decide_eq_true g),trivial⟩ (⟨rfl,by rw [g];rfl⟩)
  intro g
  have g:¬k=10#8:=AB g
  exact Bh<|Aa (B0 rfl (show _=some (b8 (11#8)) from rfl)) rfl<|Ab rfl<|Be<|B6 (decide (k=11#8)) ⟨rfl,rfl,rfl,rfl,rfl,rfl,trivial⟩ (⟨rfl,by simp [g]⟩)
 rintro z we ⟨rfl,rfl⟩
 refine B8 ?_
 have sh_u:=w.shp
 refine Ao O ?_ ?_
 ·intro g
  have g:k=10#8∨k=11#8:=AC g
  have M:=hL.trans (T9 hW hk g)
  refine Aq<|Aq ?_
  refine Dh (St:=Bool) (fun z=>[(2, .pointer (some ⟨S,0,none⟩)),(5, .pointer (some ⟨A,0,none⟩)),(6,u),(88, .bool z)]) (fun z w' =>w' =we∧(z=false↔F.length=1∧2≤R.length∧R.getD 0 default=[116,111])) ?_ ?_
  ·refine Bh<|Ad O<|Aa (Cn O O) O<|Ad O ?_
   refine Bx 78 O ?_ ?_
   ·intro h
    have h:¬F.length=1:=fun e=>QL h (by omega)
    exact Ae (dj:=78) rfl rfl rfl rfl<|Ae (dj:=78) rfl rfl rfl rfl<|Ae (dj:=78) rfl rfl rfl rfl<|Bu rfl<|Ad rfl<|Ae (dj:=83) rfl rfl rfl rfl<|Ae (dj:=83) rfl rfl rfl rfl<|Ae (dj:=83) rfl rfl rfl rfl<|Ae (dj:=83) rfl rfl rfl rfl<|Bu rfl<|Be<|B6 (true) ⟨rfl,rfl,rfl,rfl,trivial⟩ (⟨rfl,(fun h=>by cases h),(fun q=>absurd q.1 h)⟩)
   intro h
   have h:F.length=1:=by have:=QM h;omega
   refine Af (dj:=78) O O<|Ad O<|Af (dj:=78) O O<|Aa (Au AS O ‹_›) O ?_
   refine Af (dj:=78) O O<|B1 O<|B4 O<|Ad O ?_
   refine Bx 83 O ?_ ?_
   ·intro E
    have E:¬2≤R.length:=by have:=AC E;omega
    exact Ae (dj:=83) rfl rfl rfl rfl<|Ae (dj:=83) rfl rfl rfl rfl<|Ae (dj:=83) rfl rfl rfl rfl<|Ae (dj:=83) rfl rfl rfl rfl<|Bu rfl<|Be<|B6 (true) ⟨rfl,rfl,rfl,rfl,trivial⟩ (⟨rfl,(fun h=>by cases h),(fun q=>absurd q.2.1 E)⟩)
   intro E
   have E:2≤R.length:=by have:=AB E;omega
   refine Af (dj:=83) O O<|Ad O<|Af (dj:=83) O O<|Aa (Bf AS O O ‹_› 0 O (by omega)) O ?_
   refine Af (dj:=83) O O<|Aa (Bl (EB _) O ‹_› (by omega)) O ?_
   refine Af (dj:=83) O O<|Aa (Dz O O) O<|B4 O<|Be ?_
   exact B6 (!decide (R.getD 0 default=[116,111])) ⟨rfl,rfl,rfl,rfl,trivial⟩ (⟨rfl,(fun q=>⟨h,E,by simpa using q⟩),(fun q=>by rw [decide_eq_true q.2.2];rfl)⟩)
  rintro z wf ⟨rfl,hz⟩
  refine B8<|Ao O ?_ ?_
  ·rintro rfl
   refine Ah<|Aa (Cj (k:=5) (CY _) (CW _) O O p) O<|Br (Cz (cs:=[b8 k,f, .slice none 0 0, .int .i64 0, .int .i64 0]) (k:=5) (by kernel_rfl) O O O H j O) ?_
   rintro wz ⟨v,o,J⟩
   have m:=m.grown o (AA m) (by rintro _ ⟨⟩;omega)
   replace d:=AE d o (fun b e=>by cases e;exact ⟨_,j⟩) (by decide)
   refine Ab O<|Bz<|Ba<|Ap<|Dk O O O ‹_› underlying79 O O O ?_
   exact ⟨m,Ds (c:=⟨k,f, .slice none 0 0,F,[],0,0⟩) (JM (M.trans (if_neg fun h=>by have:=hz.2 ⟨h.1,h.2.1,h.2.2.1⟩;cases this))) (d.mono (by omega)) (DO _ _)⟩
  rintro rfl
  obtain ⟨h1,E,B⟩:=hz.1 rfl
  have s_d:CA st wf (cut u 1 1 R.length) (R.drop 1):=CA.drop w (by omega)
  refine Cp<|Ad O<|Aa (Fp (i:=1) AS O O w (by omega)) O<|An O O (JL (cut u 1 1 R.length) (R.drop 1) wf s_d (fun x hx=>lxR x (mem_of_mem_drop hx)) (by rw [length_drop];omega)) ?_
  rintro q w7 ⟨K,o_q⟩
  obtain ⟨G,hG⟩:∃G,G=(BT (R.drop 1).length (R.drop 1)).1:=⟨_,rfl⟩
  rw [← hG] at o_q M
  have z7:=K.size
  replace m:=bt m K
  have j:=j.bs K
  have p:=p.bs K
  have d:=d.bs K
  have N:AT w7 wf.heap.size 3 1 q G.length (G.map (Value.int .i64)):= .inl o_q
  clear K o_q s_d hG w
  refine A0 underlying79 O (AU _)<|Br (C4 (AU _) O O N.sl.one' p (show 2<5 by decide)) ?_
  rintro w8 ⟨V,t,hz8⟩
  have m:=m.grown t (AA m) (by rintro _ ⟨⟩;omega)
  have j:=j.by t (fun e=>by have:=Option.some.inj e;omega)
  replace d:=AE d t (fun b e=>by cases e;exact ⟨_,p⟩) (by decide)
  replace N:=AE N t (fun b e=>by cases e;exact ⟨_,p⟩) (by decide)
  replace p:AN w8 A 79 [b8 k,f,q, .int .i64 0, .int .i64 0]:=V
  clear V t
  have D:[b8 k,f,q, .int .i64 0, .int .i64 0].all (·.oneCell')=true:=by
   rw [all_cons,all_cons,all_cons,d.sl.one',N.sl.one'];rfl
  have sh_q:=N.sl.shp
  refine Aj<|Aq ?_
  refine Cw.any mixed (fun w9 hd _=> ?_)
  replace m:=bt m hd
  have j:=j.bs hd
  have p:=p.bs hd
  have d:=d.bs hd
  have N:=N.bs hd
  clear hd
  refine Df (fun w' =>AN w' A 79 [b8 k,f,q, .int .i64 0, .int .i64 0]) (fun hC=> ?_) (p)
  refine Cr (B5 (Ce (B5 C9)))<|Am 0 O (fun w1 hc=>Cj (k:=5) (CY _) (CW _) O O hc) O<|Am 1 O (fun w1 hc=>Ck underlying79 O (AU _)) O<|Am 2 O (fun w1 hc=>Ak (AK _) O hc O) O<|Am 3 O (fun w1 hc=>Ex.lenV AD O sh_q) O<|Am 4 O (fun w1 hc=>Cb O) O<|Am 5 O (fun w1 hc=>Ex.lenV AS O sh_u) O<|Am 6 O (fun w1 hc=>Ec O O (by omega)) O<|Am 7 O (fun w1 hc=>Cl O O) O<|Cf<|BV.only ‹_› (i:=8) (by kernel_rfl) O ?_
  refine Br (Cz (cs:=[b8 k,f,q, .int .i64 0, .int .i64 0]) (k:=5) (by kernel_rfl) O O O D j O) ?_
  rintro wz ⟨v,o,J⟩
  have m:=m.grown o (AA m) (by rintro _ ⟨⟩;omega)
  replace d:=AE d o (fun b e=>by cases e;exact ⟨_,j⟩) (by decide)
  replace N:=AE N o (fun b e=>by cases e;exact ⟨_,j⟩) (by decide)
  have p:=p.by o (fun e=>by have:=Option.some.inj e;omega)
  refine BV.back<|Cr (B5 (Ce (B5 C9)))<|Am 9 O (fun w1 hc=>Cq O) O<|Cf<|BV.done ‹_› (by kernel_rfl) ?_
  refine Av<|B8<|Ea<|Ba<|Ap<|Dk O O O ‹_› underlying79 O O O ?_
  exact ⟨m,Ds (c:=⟨k,f,q,F,G,0,0⟩) (IH M rfl (by rw [decide_eq_true_eq];constructor;(intro e;exact ⟨h1,E,B,by omega⟩);(intro e;have:=e.2.2.2;omega))) (d.mono (by omega)) (N.mono (by omega))⟩
 intro g10
 have g10:¬(k=10#8∨k=11#8):=AB g10
 refine Ah<|Aa (B0 O (show _=some (b8 (8#8)) from rfl)) O<|Ab O<|Aj<|Ao O ?_ ?_
 ·intro g
  have g:k=8#8:=AC g
  have M:=hL.trans (T8 hW (hk.trans g))
  refine Aq<|Aq ?_
  refine Dh (St:=Bool) (fun z=>[(2, .pointer (some ⟨S,0,none⟩)),(5, .pointer (some ⟨A,0,none⟩)),(6,u),(122, .bool z)]) (fun z w' =>w' =we∧(z=false↔F.length=2∧R.length=4∧R.getD 0 default=[115,116,101,112]∧R.getD 2 default=[112,97,100])) ?_ ?_
  ·refine Bh<|Ad O<|Aa (Cn O O) O<|Ad O ?_
   refine Bx 106 O ?_ ?_
   ·intro h
    have h:¬F.length=2:=fun e=>QL h (by omega)
    exact Ae (dj:=106) rfl rfl rfl rfl<|Ae (dj:=106) rfl rfl rfl rfl<|Ae (dj:=106) rfl rfl rfl rfl<|Bu rfl<|Ad rfl<|Ae (dj:=111) rfl rfl rfl rfl<|Ae (dj:=111) rfl rfl rfl rfl<|Ae (dj:=111) rfl rfl rfl rfl<|Ae (dj:=111) rfl rfl rfl rfl<|Bu rfl<|Ad rfl<|Ae (dj:=117) rfl rfl rfl rfl<|Ae (dj:=117) rfl rfl rfl rfl<|Ae (dj:=117) rfl rfl rfl rfl<|Ae (dj:=117) rfl rfl rfl rfl<|Bu rfl<|Be<|B6 (true) ⟨rfl,rfl,rfl,rfl,trivial⟩ (⟨rfl,(fun h=>by cases h),(fun q=>absurd q.1 h)⟩)
   intro h
   have h:F.length=2:=by have:=QM h;omega
   refine Af (dj:=106) O O<|Ad O<|Af (dj:=106) O O<|Aa (Au AS O ‹_›) O ?_
   refine Af (dj:=106) O O<|Aa (Cn O O) O<|B4 O<|Ad O ?_
   refine Bx 111 O ?_ ?_
   ·intro E
    have E:¬R.length=4:=fun e=>QL E (by omega)
    exact Ae (dj:=111) rfl rfl rfl rfl<|Ae (dj:=111) rfl rfl rfl rfl<|Ae (dj:=111) rfl rfl rfl rfl<|Ae (dj:=111) rfl rfl rfl rfl<|Bu rfl<|Ad rfl<|Ae (dj:=117) rfl rfl rfl rfl<|Ae (dj:=117) rfl rfl rfl rfl<|Ae (dj:=117) rfl rfl rfl rfl<|Ae (dj:=117) rfl rfl rfl rfl<|Bu rfl<|Be<|B6 (true) ⟨rfl,rfl,rfl,rfl,trivial⟩ (⟨rfl,(fun h=>by cases h),(fun q=>absurd q.2.1 E)⟩)
   intro E
   have E:R.length=4:=by have:=QM E;omega
   refine Af (dj:=111) O O<|Ad O<|Af (dj:=111) O O<|Aa (Bf AS O O ‹_› 0 O (by omega)) O ?_
   refine Af (dj:=111) O O<|Aa (Bl (EB _) O ‹_› (by omega)) O ?_
   refine Af (dj:=111) O O<|Aa (Dz O O) O<|B4 O<|Ad O ?_
   refine Bx 117 O ?_ ?_
   ·intro B
    have B:¬R.getD 0 default=[115,116,101,112]:=by simpa using B
    exact Ae (dj:=117) rfl rfl rfl rfl<|Ae (dj:=117) rfl rfl rfl rfl<|Ae (dj:=117) rfl rfl rfl rfl<|Ae (dj:=117) rfl rfl rfl rfl<|Bu rfl<|Be<|B6 (true) ⟨rfl,rfl,rfl,rfl,trivial⟩ (⟨rfl,(fun h=>by cases h),(fun q=>absurd q.2.2.1 B)⟩)
   intro B
   have B:R.getD 0 default=[115,116,101,112]:=by simpa using B
   refine Af (dj:=117) O O<|Ad O<|Af (dj:=117) O O<|Aa (Bf AS O O ‹_› 2 O (by omega)) O ?_
   refine Af (dj:=117) O O<|Aa (Bl (EB _) O ‹_› (by omega)) O ?_
   refine Af (dj:=117) O O<|Aa (Dz O O) O<|B4 O<|Be ?_
   exact B6 (!decide (R.getD 2 default=[112,97,100])) ⟨rfl,rfl,rfl,rfl,trivial⟩ (⟨rfl,(fun q=>⟨h,E,B,by simpa using q⟩),(fun q=>by rw [decide_eq_true q.2.2.2];rfl)⟩)
  rintro z wf ⟨rfl,hz⟩
  refine B8<|Ao O ?_ ?_
  ·rintro rfl
   refine Ah<|Aa (Cj (k:=5) (CY _) (CW _) O O p) O<|Br (Cz (cs:=[b8 k,f, .slice none 0 0, .int .i64 0, .int .i64 0]) (k:=5) (by kernel_rfl) O O O H j O) ?_
   rintro wz ⟨v,o,J⟩
   have m:=m.grown o (AA m) (by rintro _ ⟨⟩;omega)
   replace d:=AE d o (fun b e=>by cases e;exact ⟨_,j⟩) (by decide)
   refine Ab O<|Bz<|Ba<|Ap<|Dk O O O ‹_› underlying79 O O O ?_
   exact ⟨m,Ds (c:=⟨k,f, .slice none 0 0,F,[],0,0⟩) (JM (M.trans (if_neg fun h=>by have:=hz.2 ⟨h.1,h.2.1,h.2.2.1,h.2.2.2.1⟩;cases this))) (d.mono (by omega)) (DO _ _)⟩
  rintro rfl
  obtain ⟨h1,E,B,h4⟩:=hz.1 rfl
  have mR:∀i,i<R.length→(R.getD i default).length≤100000:=fun i hi=>lxR _ (by
   rw [getD_eq_getElem?_getD,getElem?_eq_getElem hi]
   exact getElem_mem hi)
  refine Cp<|Ad O<|Aa (Bf AS O O ‹_› 1 O (by omega)) O ?_
  refine Aa (Bl (EB _) O ‹_› (by omega)) O ?_
  refine An O O (H9 (R.getD 1 default) wf (mR 1 (by omega))) ?_
  rintro _ w7 ⟨rfl,rfl⟩
  refine Ad O<|Aa (Ex.extract (i:=0) O O) O<|Aa (Ex.extract (i:=1) O O) O<|Ab O<|Ab O<|Bg<|Ad O<|Aa (Bf AS O O ‹_› 3 O (by omega)) O ?_
  refine Aa (Bl (EB _) O ‹_› (by omega)) O ?_
  refine An O O (H9 (R.getD 3 default) w7 (mR 3 (by omega))) ?_
  rintro _ w8 ⟨rfl,rfl⟩
  obtain ⟨n1,hn1⟩:∃n,n=CN (R.getD 1 default):=⟨_,rfl⟩
  obtain ⟨n2,hn2⟩:∃n,n=CN (R.getD 3 default):=⟨_,rfl⟩
  rw [← hn1,← hn2] at M ⊢
  clear mR hn1 hn2
  refine Ad O<|Aa (Ex.extract (i:=0) O O) O<|Aa (Ex.extract (i:=1) O O) O<|Ab O<|Ab O<|Bg<|Ad O<|A0 underlying79 O (AV _)<|Br (C4 (AV _) O O O p (show 3<5 by decide)) ?_
  rintro w9 ⟨I,t,hz9⟩
  have m:=m.grown t (AA m) (by rintro _ ⟨⟩;omega)
  have j:=j.by t (fun e=>by have:=Option.some.inj e;omega)
  replace d:=AE d t (fun b e=>by cases e;exact ⟨_,p⟩) (by decide)
  have w:=w.by t (.inr fun e=>by have:=uo _ e;omega)
  replace U:=d.sl
  replace p:AN w9 A 79 [b8 k,f, .slice none 0 0, .int .i64 (n1.getD 0), .int .i64 0]:=I
  clear I t
  refine Bg<|Ad O<|A0 underlying79 O (AV _)<|Br (C4 (AV _) O O O p (show 4<5 by decide)) ?_
  rintro w10 ⟨I,t,hz10⟩
  have m:=m.grown t (AA m) (by rintro _ ⟨⟩;omega)
  have j:=j.by t (fun e=>by have:=Option.some.inj e;omega)
  replace d:=AE d t (fun b e=>by cases e;exact ⟨_,p⟩) (by decide)
  have w:=w.by t (.inr fun e=>by have:=uo _ e;omega)
  replace U:=d.sl
  replace p:AN w10 A 79 [b8 k,f, .slice none 0 0, .int .i64 (n1.getD 0), .int .i64 (n2.getD 0)]:=I
  clear I t
  have D:[b8 k,f, .slice none 0 0, .int .i64 (n1.getD 0), .int .i64 (n2.getD 0)].all (·.oneCell')=true:=by
   rw [all_cons,all_cons,d.sl.one'];rfl
  refine Bg<|Aa (Cj (k:=5) (CY _) (CW _) O O p) O<|Ad O<|Ad O ?_
  refine Bx 144 O ?_ ?_
  ·intro h5
   refine Af (dj:=144) O O<|Ad O<|Bu O<|Br (Cz (cs:=[b8 k,f, .slice none 0 0, .int .i64 (n1.getD 0), .int .i64 (n2.getD 0)]) (k:=5) (by kernel_rfl) O O O D j O) ?_
   rintro wz ⟨v,o,J⟩
   have m:=m.grown o (AA m) (by rintro _ ⟨⟩;omega)
   replace d:=AE d o (fun b e=>by cases e;exact ⟨_,j⟩) (by decide)
   refine Ab O<|Ay<|Ba<|Ap<|Dk O O O ‹_› underlying79 O O O ?_
   exact ⟨m,Ds (c:=⟨k,f, .slice none 0 0,F,[],n1.getD 0,n2.getD 0⟩) (IH M (by rw [g];rfl) ⟨fun e=>⟨h1,E,B,h4,h5,e⟩,fun e=>e.2.2.2.2.2⟩) (d.mono (by omega)) (DO _ _)⟩
  intro h5
  refine Ae (dj:=144) O O O O<|B4 O<|Br (Cz (cs:=[b8 k,f, .slice none 0 0, .int .i64 (n1.getD 0), .int .i64 (n2.getD 0)]) (k:=5) (by kernel_rfl) O O O D j O) ?_
  rintro wz ⟨v,o,J⟩
  have m:=m.grown o (AA m) (by rintro _ ⟨⟩;omega)
  replace d:=AE d o (fun b e=>by cases e;exact ⟨_,j⟩) (by decide)
  refine Ab O<|Ay<|Ba<|Ap<|Dk O O O ‹_› underlying79 O O O ?_
  exact ⟨m,Ds (c:=⟨k,f, .slice none 0 0,F,[],n1.getD 0,n2.getD 0⟩) (JM (M.trans (if_neg fun e=>by rw [e.2.2.2.2.1] at h5;cases h5))) (d.mono (by omega)) (DO _ _)⟩
 intro g8
 have g8:¬k=8#8:=AB g8
 refine Ca<|Bi<|Ci<|Ab O<|Bj<|A0 underlying79 O (DA _)<|Aa (Ak (DG _) O ‹_› rfl) O ?_
 refine Aa (B0 O (show _=some (b8 (6#8)) from rfl)) O<|Aj ?_
 refine Dh (St:=List UInt8) (fun z=>[(2, .pointer (some ⟨S,0,none⟩)),(5, .pointer (some ⟨A,0,none⟩)),(6,u),(8, .int .i64 (F.length:Int)),(13,st z)]) (fun z w' =>w' =we∧z=if k=6#8 then [98,121] else [97,108,111,110,103]) ?_ ?_
 ·refine Ao O ?_ ?_
  ·intro g
   have g:k=6#8:=AC g
   exact Bh<|Ab rfl<|Be<|B6 ([98,121]) ⟨rfl,rfl,rfl,rfl,rfl,trivial⟩ (⟨rfl,by rw [if_pos g]⟩)
  intro g
  have g:¬k=6#8:=AB g
  exact Ca<|B6 ([97,108,111,110,103]) ⟨rfl,rfl,rfl,rfl,rfl,trivial⟩ (⟨rfl,by rw [if_neg g]⟩)
 rintro z1 wg ⟨rfl,hz1⟩
 refine B8<|Aq<|Ah<|A0 underlying79 O (DA _)<|Aa (Ak (DG _) O ‹_› rfl) O ?_
 refine Aa (B0 O (show _=some (b8 (9#8)) from rfl)) O<|Aj ?_
 refine Dh (St:=List UInt8) (fun z=>[(2, .pointer (some ⟨S,0,none⟩)),(5, .pointer (some ⟨A,0,none⟩)),(6,u),(8, .int .i64 (F.length:Int)),(13,st z)]) (fun z w' =>w' =wg∧z=if k=9#8 then [119,105,100,101] else z1) ?_ ?_
 ·refine Ao O ?_ ?_
  ·intro g
   have g:k=9#8:=AC g
   exact Bh<|Ab rfl<|Be<|B6 ([119,105,100,101]) ⟨rfl,rfl,rfl,rfl,rfl,trivial⟩ (⟨rfl,by rw [if_pos g]⟩)
  intro g
  have g:¬k=9#8:=AB g
  exact Ca<|B6 (z1) ⟨rfl,rfl,rfl,rfl,rfl,trivial⟩ (⟨rfl,by rw [if_neg g]⟩)
 rintro Y wh ⟨rfl,hz2⟩
 refine B8<|Aq<|Aq ?_
 refine Dh (St:=Bool) (fun z=>[(2, .pointer (some ⟨S,0,none⟩)),(5, .pointer (some ⟨A,0,none⟩)),(6,u),(180, .bool z)]) (fun z w' =>w' =wh∧(z=false↔k≠0#8∧1≤F.length∧(F.length≤1∨k=12#8)∧R.length=2∧R.getD 0 default=Y)) ?_ ?_
 ·refine Bh<|A0 underlying79 O (DA _)<|Aa (Ak (DG _) O ‹_› rfl) O ?_
  refine Aa (B0 O (show _=some (b8 (0#8)) from rfl)) O<|Ad O ?_
  refine Bx 156 O ?_ ?_
  ·intro h
   have h:k=0#8:=AC h
   exact Ae (dj:=156) rfl rfl rfl rfl<|Ae (dj:=156) rfl rfl rfl rfl<|Bu rfl<|Ad rfl<|Ae (dj:=160) rfl rfl rfl rfl<|Ae (dj:=160) rfl rfl rfl rfl<|Ae (dj:=160) rfl rfl rfl rfl<|De (dj:=163) rfl rfl rfl<|De (dj:=163) rfl rfl rfl<|De (dj:=163) rfl rfl rfl<|Ae (dj:=160) rfl rfl rfl rfl<|Bu rfl<|Ad rfl<|Ae (dj:=169) rfl rfl rfl rfl<|Ae (dj:=169) rfl rfl rfl rfl<|Ae (dj:=169) rfl rfl rfl rfl<|Bu rfl<|Ad rfl<|Ae (dj:=174) rfl rfl rfl rfl<|Ae (dj:=174) rfl rfl rfl rfl<|Ae (dj:=174) rfl rfl rfl rfl<|Ae (dj:=174) rfl rfl rfl rfl<|Ae (dj:=174) rfl rfl rfl rfl<|Bu rfl<|Be<|B6 (true) ⟨rfl,rfl,rfl,rfl,trivial⟩ (⟨rfl,(fun h=>by cases h),(fun q=>absurd h q.1)⟩)
  intro h0
  have h0:¬k=0#8:=AB h0
  refine Af (dj:=156) O O<|Ad O<|Af (dj:=156) O O<|B1 O<|B4 O<|Ad O ?_
  refine Bx 160 O ?_ ?_
  ·intro h
   have h:¬1≤F.length:=by have:=AC h;omega
   exact Ae (dj:=160) rfl rfl rfl rfl<|Ae (dj:=160) rfl rfl rfl rfl<|Ae (dj:=160) rfl rfl rfl rfl<|De (dj:=163) rfl rfl rfl<|De (dj:=163) rfl rfl rfl<|De (dj:=163) rfl rfl rfl<|Ae (dj:=160) rfl rfl rfl rfl<|Bu rfl<|Ad rfl<|Ae (dj:=169) rfl rfl rfl rfl<|Ae (dj:=169) rfl rfl rfl rfl<|Ae (dj:=169) rfl rfl rfl rfl<|Bu rfl<|Ad rfl<|Ae (dj:=174) rfl rfl rfl rfl<|Ae (dj:=174) rfl rfl rfl rfl<|Ae (dj:=174) rfl rfl rfl rfl<|Ae (dj:=174) rfl rfl rfl rfl<|Ae (dj:=174) rfl rfl rfl rfl<|Bu rfl<|Be<|B6 (true) ⟨rfl,rfl,rfl,rfl,trivial⟩ (⟨rfl,(fun h=>by cases h),(fun q=>absurd q.2.1 h)⟩)
  intro h1
  have h1:1≤F.length:=by have:=AB h1;omega
  refine Af (dj:=160) O O<|Ad O<|Af (dj:=160) O O<|Aa (Da O O) O<|Af (dj:=160) O O<|Ad O ?_
  refine Bx 163 O ?_ ?_
  ·intro E
   have E:1<F.length:=by have:=AC E;omega
   refine Af (dj:=163) O O<|A0 underlying79 O (DA _)<|Af (dj:=163) O O<|Aa (Ak (DG _) O ‹_› rfl) O ?_
   refine Af (dj:=163) O O<|Aa (F1 O (show _=some (b8 (12#8)) from rfl)) O<|Af (dj:=160) O O<|Bu O<|B4 O<|Ad O ?_
   refine Bx 169 O ?_ ?_
   ·intro h4
    have h4:¬k=12#8:=by simpa using h4
    exact Ae (dj:=169) rfl rfl rfl rfl<|Ae (dj:=169) rfl rfl rfl rfl<|Ae (dj:=169) rfl rfl rfl rfl<|Bu rfl<|Ad rfl<|Ae (dj:=174) rfl rfl rfl rfl<|Ae (dj:=174) rfl rfl rfl rfl<|Ae (dj:=174) rfl rfl rfl rfl<|Ae (dj:=174) rfl rfl rfl rfl<|Ae (dj:=174) rfl rfl rfl rfl<|Bu rfl<|Be<|B6 (true) ⟨rfl,rfl,rfl,rfl,trivial⟩ (⟨rfl,(fun h=>by cases h),(fun q=>q.2.2.1.elim (fun e=>absurd e (by omega)) (fun e=>absurd e h4))⟩)
   intro h4
   have h4:k=12#8:=by simpa using h4
   have hF:F.length≤1∨k=12#8:= .inr h4
   refine Af (dj:=169) O O<|Ad O<|Af (dj:=169) O O<|Aa (Au AS O ‹_›) O ?_
   refine Af (dj:=169) O O<|Aa (Cn O O) O<|B4 O<|Ad O ?_
   refine Bx 174 O ?_ ?_
   ·intro B
    have B:¬R.length=2:=fun e=>QL B (by omega)
    exact Ae (dj:=174) rfl rfl rfl rfl<|Ae (dj:=174) rfl rfl rfl rfl<|Ae (dj:=174) rfl rfl rfl rfl<|Ae (dj:=174) rfl rfl rfl rfl<|Ae (dj:=174) rfl rfl rfl rfl<|Bu rfl<|Be<|B6 (true) ⟨rfl,rfl,rfl,rfl,trivial⟩ (⟨rfl,(fun h=>by cases h),(fun q=>absurd q.2.2.2.1 B)⟩)
   intro B
   have B:R.length=2:=by have:=QM B;omega
   refine Af (dj:=174) O O<|Ad O<|Af (dj:=174) O O<|Aa (Bf AS O O ‹_› 0 O (by omega)) O ?_
   refine Af (dj:=174) O O<|Aa (Bl (EB _) O ‹_› (by omega)) O ?_
   refine Af (dj:=174) O O<|Ad O<|Af (dj:=174) O O<|Aa (Dz O O) O<|B4 O<|Be ?_
   exact B6 (!decide (R.getD 0 default=Y)) ⟨rfl,rfl,rfl,rfl,trivial⟩ (⟨rfl,(fun q=>⟨h0,h1,hF,B,by simpa using q⟩),(fun q=>by rw [decide_eq_true q.2.2.2.2];rfl)⟩)
  intro E
  have E:F.length≤1:=by have:=AB E;omega
  have hF:F.length≤1∨k=12#8:= .inl E
  refine Ae (dj:=163) O O O O<|Ae (dj:=163) O O O O<|Ae (dj:=163) O O O O<|Af (dj:=160) O O<|B4 O<|B4 O<|Ad O<|Af (dj:=169) O O<|Ad O<|Af (dj:=169) O O<|Aa (Au AS O ‹_›) O ?_
  refine Af (dj:=169) O O<|Aa (Cn O O) O<|B4 O<|Ad O ?_
  refine Bx 174 O ?_ ?_
  ·intro B
   have B:¬R.length=2:=fun e=>QL B (by omega)
   exact Ae (dj:=174) rfl rfl rfl rfl<|Ae (dj:=174) rfl rfl rfl rfl<|Ae (dj:=174) rfl rfl rfl rfl<|Ae (dj:=174) rfl rfl rfl rfl<|Ae (dj:=174) rfl rfl rfl rfl<|Bu rfl<|Be<|B6 (true) ⟨rfl,rfl,rfl,rfl,trivial⟩ (⟨rfl,(fun h=>by cases h),(fun q=>absurd q.2.2.2.1 B)⟩)
  intro B
  have B:R.length=2:=by have:=QM B;omega
  refine Af (dj:=174) O O<|Ad O<|Af (dj:=174) O O<|Aa (Bf AS O O ‹_› 0 O (by omega)) O ?_
  refine Af (dj:=174) O O<|Aa (Bl (EB _) O ‹_› (by omega)) O ?_
  refine Af (dj:=174) O O<|Ad O<|Af (dj:=174) O O<|Aa (Dz O O) O<|B4 O<|Be ?_
  exact B6 (!decide (R.getD 0 default=Y)) ⟨rfl,rfl,rfl,rfl,trivial⟩ (⟨rfl,(fun q=>⟨h0,h1,hF,B,by simpa using q⟩),(fun q=>by rw [decide_eq_true q.2.2.2.2];rfl)⟩)
 rintro z wi ⟨rfl,hz⟩
 refine B8 ?_
 have kin:=QT Z
 rw [hk] at kin
 have hk2:k=0#8∨(k=6#8∧Y=[98,121])∨(k=9#8∧Y=[119,105,100,101])∨((k=12#8∨k=13#8)∧Y=[97,108,111,110,103]):=by
  simp only [mem_cons,not_mem_nil,or_false] at kin
  subst hz1 hz2
  clear p j w d H hz hL hk
  rcases kin with rfl|rfl|rfl|rfl|rfl|rfl|rfl|rfl|rfl|rfl|rfl|rfl|rfl|rfl<;>revert g1 g3 g5 g10 g8<;>decide
 clear hz1 hz2
 refine Ao O ?_ ?_
 ·rintro rfl
  have M:L=none:=by
   rcases hk2 with h|h
   ·exact hL.trans (TB hW (hk.trans h))
   ·refine (hL.trans (QP hW hk h)).trans (if_neg fun e=> ?_)
    have:=hz.2 ⟨(fun e0=>by rw [e0] at h;simp at h),e.1,e.2.1,e.2.2.1,e.2.2.2.1⟩
    cases this
  refine Ah<|Aa (Cj (k:=5) (CY _) (CW _) O O p) O<|Br (Cz (cs:=[b8 k,f, .slice none 0 0, .int .i64 0, .int .i64 0]) (k:=5) (by kernel_rfl) O O O H j O) ?_
  rintro wz ⟨v,o,J⟩
  have m:=m.grown o (AA m) (by rintro _ ⟨⟩;omega)
  replace d:=AE d o (fun b e=>by cases e;exact ⟨_,j⟩) (by decide)
  refine Ab O<|Bz<|Dk O O O ‹_› underlying79 O O O ?_
  exact ⟨m,Ds (c:=⟨k,f, .slice none 0 0,F,[],0,0⟩) (JM M) (d.mono (by omega)) (DO _ _)⟩
 rintro rfl
 obtain ⟨h0,h1,E,B,h4⟩:=hz.1 rfl
 have M:=hL.trans (QP hW hk (hk2.resolve_left h0))
 have mR:(R.getD 1 default).length≤100000:=lxR _ (by
  rw [getD_eq_getElem?_getD,getElem?_eq_getElem (by omega)]
  exact getElem_mem (by omega))
 refine Cp<|Ad O<|Aa (Bf AS O O ‹_› 1 O (by omega)) O ?_
 refine Aa (Bl (EB _) O ‹_› (by omega)) O ?_
 refine An O O (H9 (R.getD 1 default) wi mR) ?_
 rintro _ w7 ⟨rfl,rfl⟩
 obtain ⟨n1,hn1⟩:∃n,n=CN (R.getD 1 default):=⟨_,rfl⟩
 rw [← hn1] at M ⊢
 clear mR hn1
 refine Ad O<|Aa (Ex.extract (i:=0) O O) O<|Aa (Ex.extract (i:=1) O O) O<|Ab O<|Ab O<|Bg<|Ad O<|A0 underlying79 O (AV _)<|Br (C4 (AV _) O O O p (show 3<5 by decide)) ?_
 rintro w9 ⟨I,t,hz9⟩
 have m:=m.grown t (AA m) (by rintro _ ⟨⟩;omega)
 have j:=j.by t (fun e=>by have:=Option.some.inj e;omega)
 replace d:=AE d t (fun b e=>by cases e;exact ⟨_,p⟩) (by decide)
 have w:=w.by t (.inr fun e=>by have:=uo _ e;omega)
 replace U:=d.sl
 replace p:AN w9 A 79 [b8 k,f, .slice none 0 0, .int .i64 (n1.getD 0), .int .i64 0]:=I
 clear I t
 have D:[b8 k,f, .slice none 0 0, .int .i64 (n1.getD 0), .int .i64 0].all (·.oneCell')=true:=by
  rw [all_cons,all_cons,d.sl.one'];rfl
 refine Bg<|Aa (Cj (k:=5) (CY _) (CW _) O O p) O<|Ad O<|Br (Cz (cs:=[b8 k,f, .slice none 0 0, .int .i64 (n1.getD 0), .int .i64 0]) (k:=5) (by kernel_rfl) O O O D j O) ?_
 rintro wz ⟨v,o,J⟩
 have m:=m.grown o (AA m) (by rintro _ ⟨⟩;omega)
 replace d:=AE d o (fun b e=>by cases e;exact ⟨_,j⟩) (by decide)
 refine Ab O<|Ay<|Dk O O O ‹_› underlying79 O O O ?_
 exact ⟨m,Ds (c:=⟨k,f, .slice none 0 0,F,[],n1.getD 0,0⟩) (IH M rfl ⟨fun e=>⟨h1,E,B,h4,e⟩,fun e=>e.2.2.2.2⟩) (d.mono (by omega)) (DO _ _)⟩
def UL (w:World) (r:Value) (s:List UInt8):Prop:=∃vn ls,r= .tuple #[.agg [vn].toArray, .int .i64 (Jp s), .int .i64 (Hs s)]∧ls.map pn=GW s∧GN w vn ls
theorem Jt {w:World} {s:List UInt8} {a e:Int} (d:Jp s=a) (c:Hs s=e) (f:GW s=[]):UL w (.tuple #[.agg [.slice none 0 0].toArray, .int .i64 a, .int .i64 e]) s:=
 ⟨_,[],by rw [d,c],by rw [f];rfl,⟨Ch _ _,fun a b=>by cases b⟩⟩
structure Ur (W w:World) (Ag:Nat) (ls:List N5) (vn:Value):Prop where
 g:AN w Ag 24 [vn]
 o:w.ownsRow W.heap.size 79 5 vn ls.length (FR N5.cells ls)
 en:∀a ∈ ls,AT w W.heap.size 3 1 a.x a.i.length (a.i.map (Value.int .i64))∧AT w W.heap.size 3 1 a.y a.s.length (a.s.map (Value.int .i64))
theorem Ur.bs {W w w' :World} {d:Nat} {ls:List N5} {b:Value} (h:Ur W w d ls b) (g:Below w.heap.size w w'):Ur W w' d ls b:=⟨h.g.bs g,AH h.o g,fun a c=>⟨(h.en a c).1.bs g,(h.en a c).2.bs g⟩⟩
theorem Ur.gn {W w:World} {d:Nat} {ls:List N5} {b:Value} (h:Ur W w d ls b):GN w b ls:=⟨AG h.o,fun a c=>⟨(h.en a c).1.slT,(h.en a c).2.slT⟩⟩
set_option maxHeartbeats 2000000 in
theorem Qy (s:List UInt8) (W:World) (hs:s.length≤100000):AJ prog 28 [st s] W (fun r w' =>Below W.heap.size W w' ∧UL w' r s):=by
 refine Bd (n:=61) func28 O<|Ah<|Dg Jh O ?_
 rintro L w1 eA_o d l zhB
 have z1:=l.size
 refine Ab O<|Ab O<|Bj<|Ad O<|Aa (Dw FC O) O<|Aa (Da O O) O<|Aj<|Ao O ?_ ?_
 ·intro g
  have g:65536<s.length:=by have:=AC g;omega
  refine Ah<|Aa (Cc (vs:=[]) (cs:=[.slice none 0 0]) O (by kernel_rfl)) O<|Br (Cz (cs:=[.slice none 0 0]) (k:=1) (by kernel_rfl) O O O O d O) ?_
  rintro w2 ⟨d,hg,hz⟩
  have l:=l.grown hg (by omega) (by rintro _ ⟨⟩;omega)
  refine Ab O<|Ab O<|Bz<|Dm O O O O ‹_› underlying24 O O O ?_
  exact ⟨l,Jt (by rw [Jp,if_pos g]) (by rw [Hs,if_pos g]) (by rw [GW,if_pos g])⟩
 intro g
 have h6:¬65536<s.length:=by have:=AB g;omega
 clear g
 obtain ⟨r1,r2⟩:=QC h6
 refine Cp<|Ad O<|An O O (LU s 10 w1 hs) ?_
 rintro y w2 ⟨w,o_y⟩
 have z2:=w.size
 replace l:=bt l w
 have d:=d.bs w
 have B:=BD o_y
 obtain ⟨c1,c2⟩:=H0 10 s
 have c0:=Ha 10 s
 have e0:(BQ 10 s).getLastD []=(BQ 10 s).getD ((BQ 10 s).length - 1) default:=by
  rw [List.getLastD_eq_getLast?,List.getLast?_eq_getElem?,getD_eq_getElem?_getD];rfl
 obtain ⟨cs,hcs⟩:∃cs,cs=BQ 10 s:=⟨_,rfl⟩
 have T:DX s=if cs.getD (cs.length - 1) default=[] then cs.dropLast else cs:=by rw [DX,e0,hcs]
 rw [← hcs] at c0 c1 c2 B
 have sh_y:=B.shp
 have cp:0<cs.length:=List.length_pos_iff.2 c0
 obtain ⟨n,w⟩:∃n,n=cs.length - 1:=⟨_,rfl⟩
 rw [← w] at T
 have yo:∀b,y.ownBlock=some b→b<w2.heap.size:=fun b e=>(AF o_y b e).2
 refine Ab O<|Bj<|Ad O<|Ad O<|Aa (Au AS O ‹_›) O ?_
 refine Aa (Ec O O (by omega)) O<|Aa (Bf AS O O B n (by omega) (by omega)) O<|Aa (Bl (EB _) O ‹_› (by omega)) O ?_
 refine Aa (En O O) O<|Aj ?_
 refine Dh (St:=(Value×List (List UInt8))) (fun z=>[(2, .pointer (some ⟨L,0,none⟩)),(5,z.1)]) (fun z w' =>w' =w2∧z.2=DX s∧CA st w' z.1 z.2∧(∀x ∈ z.2,x ∈ cs)∧z.2.length≤cs.length∧∀b,z.1.ownBlock=some b→y.ownBlock=some b) ?_ ?_
 ·refine Ao O ?_ ?_
  ·intro e
   have e:cs.getD n default=[]:=AC e
   refine Bh<|Ad O<|Ad O<|Aa (Au AS O ‹_›) O ?_
   refine Aa (Ex.as (Ec O O (by omega)) (cngA (Value.int .i64) (show (cs.length:Int) - 1=(n:Int) by omega))) O<|Aa (Gl (j:=n) AS O O B (by omega)) O<|Ab O<|Be ?_
   exact B6 ((cut y 1 0 n,cs.take n)) ⟨rfl,rfl,trivial⟩ (⟨rfl,by rw [T,if_pos e,List.dropLast_eq_take,w],CA.take B (by omega),fun x hx=>mem_of_mem_take hx,by rw [length_take];omega,MF y n⟩)
  intro e
  have e:¬cs.getD n default=[]:=AB e
  exact Ca<|B6 ((y,cs)) ⟨rfl,rfl,trivial⟩ (⟨rfl,by rw [T,if_neg e],B,fun x hx=>hx,AX _,fun b e=>e⟩)
 rintro ⟨yl,F⟩ w3 ⟨rfl,hts,f,m1,m2,m3⟩
 dsimp only at hts f m1 m2 m3 ⊢
 have lo:∀b,yl.ownBlock=some b→b<w3.heap.size:=fun b e=>yo b (m3 b e)
 have tl:∀x ∈ F,x.length≤65536:=fun x hx=>by have:=c2 x (m1 x hx);omega
 rw [← hts] at r1 r2
 clear B sh_y o_y T c0 c2 e0 hts m1 m3 yo
 refine B8<|Ah<|Dg Jh O ?_
 rintro R w4 eA_g C Q zhn4
 have z4:=Q.size
 replace l:=bt l Q
 have d:=d.bs Q
 have f:=f.bs Q
 refine Bj<|Ab O<|Aj<|Ar ?_
 refine Bo (S:=(Nat×List N5×Value)) (fun z=>[(2, .pointer (some ⟨L,0,none⟩)),(5,yl),(6, .pointer (some ⟨R,0,none⟩)),(7, .int .i64 (z.1:Int))]) (fun z w' =>z.1≤F.length∧z.2.1.length=z.1∧z.1≤32∧EL F z.1 (z.2.1.map pn)∧Below W.heap.size W w' ∧w4.heap.size≤w'.heap.size∧Ur w4 w' R z.2.1 z.2.2∧AN w' L 24 [.slice none 0 0]∧CA st w' yl F) (fun z=>F.length - z.1) ((0,[], .slice none 0 0)) ⟨rfl,rfl,rfl,rfl,trivial⟩ ?_ ?_
 ·exact ⟨Nat.zero_le _,rfl,Nat.zero_le _,Fz F,l,AX _,⟨C,World.ownsRow_nil _ _ _ _,fun a E=>by cases E⟩,d,f⟩
 clear l C d f
 rintro ⟨i,ls,vn⟩ w5 ⟨hi,hl,h32,hA,l,z5,o,d,f⟩
 dsimp only at hi hl h32 hA l z5 o d f ⊢
 refine Aq<|Ah<|Ad O<|Ad O<|Aa (Au AS O ‹_›) O ?_
 refine B1 O<|Aj<|Ao O ?_ ?_
 ·intro H
  have H:i<F.length:=by have:=AC H;omega
  obtain ⟨t,ht⟩:∃t,t=F.getD i default:=⟨_,rfl⟩
  have hd:F.drop i=t::F.drop (i+1):=by
   rw [ht,getD_eq_getElem?_getD,getElem?_eq_getElem H]
   exact drop_eq_getElem_cons H
  have lt:t.length≤65536:=tl t (by
   rw [ht,getD_eq_getElem?_getD,getElem?_eq_getElem H]
   exact getElem_mem H)
  refine B2<|Aq<|Ar<|Ah<|Ad O<|Ad O<|Aa (Bf AS O O ‹_› _ O (by omega)) O ?_
  refine Aa (Bl (EB _) O ‹_› (by omega)) O ?_
  rw [← ht]
  refine An O O (Q5 t w5 lt) ?_
  rintro _ w6 ⟨w,c,rfl,hc,Z,Y⟩
  have z6:=w.size
  replace l:=bt l w
  have o:=o.bs w
  have d:=d.bs w
  have f:=f.bs w
  have X:c.cells.all (·.oneCell')=true:=by
   unfold N5.cells
   rw [all_cons,all_cons,all_cons,Z.sl.one',Y.sl.one'];rfl
  refine Ad O<|Aa (Ex.extract (i:=0) O O) O<|Aa (Ex.extract (i:=1) O O) O<|Cv (cs:=c.cells) EA O O O O (fun _=>rfl) (X) ?_
  rintro A_x w7 eA_x b_x D zhn7
  have z7:=D.size
  replace l:=bt l D
  have o:=o.bs D
  have d:=d.bs D
  have f:=f.bs D
  have Z:=Z.bs D
  have Y:=Y.bs D
  refine Ab O<|Bj<|Ad O<|Aa (Co O) O<|Ad O ?_
  refine Bx 44 O ?_ ?_
  ·intro g
   have eN:CH (BQ 32 t)=none:=by
    cases e:CH (BQ 32 t) with
    |none=>rfl
    |some p=>rw [e] at g;cases g
   have N:=hA.no hd (.inr eN)
   refine Ae (dj:=44) O O O O<|Ae (dj:=44) O O O O<|Bu O<|Aj<|B3 O<|Ah<|Aa (Cc (vs:=[]) (cs:=[.slice none 0 0]) O (by kernel_rfl)) O<|Ad O<|Br (Cz (cs:=[.slice none 0 0]) (k:=1) (by kernel_rfl) O O O O d O) ?_
   rintro wb ⟨V,K,hzb⟩
   have I:=l.grown K (AA l) (by rintro _ ⟨⟩;omega)
   refine Ab O<|Ab O<|Bz<|Ba<|Ap<|Ap<|Ba<|Ap<|Dm O O O O ‹_› underlying24 O O O ?_
   exact ⟨I,Jt (r1 _ N).1 (r1 _ N).2.1 (r1 _ N).2.2⟩
  intro g
  obtain ⟨p,ep⟩:∃p,CH (BQ 32 t)=some p:=by
   cases e:CH (BQ 32 t) with
   |none=>rw [e] at g;cases g
   |some p=>exact ⟨p,rfl⟩
  have hpc:=hc p ep
  subst hpc
  refine Af (dj:=44) O O<|Ad O<|Af (dj:=44) O O<|Aa (D9 O O) O<|B4 O<|Aj<|Ao O ?_ ?_
  ·intro g2
   have g2:32≤i:=by have:=AC g2;omega
   have N:=hA.no hd (.inl g2)
   refine Ah<|Aa (Cc (vs:=[]) (cs:=[.slice none 0 0]) O (by kernel_rfl)) O<|Ad O<|Br (Cz (cs:=[.slice none 0 0]) (k:=1) (by kernel_rfl) O O O O d O) ?_
   rintro wb ⟨V,K,hzb⟩
   have I:=l.grown K (AA l) (by rintro _ ⟨⟩;omega)
   refine Ab O<|Ab O<|Bz<|Ba<|Ap<|Ap<|Ba<|Ap<|Dm O O O O ‹_› underlying24 O O O ?_
   exact ⟨I,Jt (r1 _ N).1 (r1 _ N).2.1 (r1 _ N).2.2⟩
  intro g2
  have g2:i<32:=by have:=AB g2;omega
  have C:=o.g
  refine B2<|Bh<|A0 underlying24 O (BY _)<|Aa (Ak (CS _) O ‹_› rfl) O ?_
  refine Aa (Cj (k:=5) (CY _) (CW _) O O b_x) O<|Bq (Er (cs:=c.cells) BA EA O O (by decide) (by decide)) O ?_
  rintro q w8 ⟨o_q, -,A, -⟩
  have z8:=A.size
  replace l:=bt l A
  have o:=o.bs A
  have d:=d.bs A
  have f:=f.bs A
  have Z:=Z.bs A
  have Y:=Y.bs A
  clear A b_x C
  refine Bq (C5 (base:=w4.heap.size) BA EA O (by decide) O O o.o (AG o_q) X (by omega) (by omega) (by omega)) O ?_
  rintro yv w9 ⟨o_v, -,v, -⟩
  have J:∀b,vn.ownBlock=some b→∃cs,AN w8 b 79 cs:=fun b e=>AT.ty (.inl o.o) e
  have U:∀b,vn.ownBlock=some b→w4.heap.size≤b:=fun b e=>(AF o.o b e).1
  have l:=l.grown v (AA l) (fun b e=>by have:=U b e;omega)
  have b_g9:=o.g.by v (fun e=>by have:=U _ e.symm;omega)
  have d:=d.by v (fun e=>by have:=U _ e.symm;omega)
  have f:=f.by v (match h:yl.ownBlock with
   |none=> .inl rfl
   |some b=> .inr fun e=>by have:=U b e.symm;have:=lo b h;omega)
  replace Z:=AE Z v J (by decide)
  replace Y:=AE Y v J (by decide)
  have en9:=fun a E=>(⟨AE (o.en a E).1 v J (by decide),AE (o.en a E).2 v J (by decide)⟩:AT w9 w4.heap.size 3 1 a.x a.i.length (a.i.map (Value.int .i64))∧AT w9 w4.heap.size 3 1 a.y a.s.length (a.s.map (Value.int .i64)))
  have z9:=v.size
  clear v J
  refine A0 underlying24 O (BY _)<|Br (C4 (u:=yv) (BY _) O O (AG o_v).one' b_g9 (show 0<1 by decide)) ?_
  rintro w10 ⟨b_g10,m,hz10⟩
  have G:∀b,some R=some b→∃cs,AN w9 b 24 cs:=fun b e=>by cases e;exact ⟨_,b_g9⟩
  have l:=l.grown m (AA l) (by rintro _ ⟨⟩;omega)
  have d:=d.by m (fun e=>by have:=Option.some.inj e;omega)
  have f:=f.by m (.inr fun e=>by have:=lo _ e;omega)
  have hN:EL F (i+1) ((ls++[c]).map pn):=by
   rw [map_append]
   exact hA.step hd g2 ep
  have hS2:Ur w4 w10 R (ls++[c]) yv:=by
   refine ⟨b_g10,by rw [length_append,M9];exact FM o_v m G (by decide),fun a E=> ?_⟩
   rcases List.mem_append.1 E with E|E
   ·exact ⟨AE (en9 a E).1 m G (by decide),AE (en9 a E).2 m G (by decide)⟩
   ·rw [List.mem_singleton.1 E]
    exact ⟨(AE Z m G (by decide)).mono (by omega),(AE Y m G (by decide)).mono (by omega)⟩
  have z10:=m.size
  refine Be<|Bi<|Cd<|Ad O<|B9 O (by omega)<|Ab O<|Be ?_
  exact Av (Bw ((i+1,ls++[c],yv)) ⟨rfl,rfl,rfl,rfl,trivial⟩ (⟨H,by rw [length_append,hl];rfl,g2,hN,l,by omega,hS2,d,f⟩) (by simp only;omega))
 intro H
 have H:i=F.length:=by have:=AB H;omega
 have N:=hA.done H
 obtain ⟨rA,rE,rR⟩:=r2 _ N
 rw [I0] at rE rR
 have C:=o.g
 refine Bn<|Al<|Al<|Bc<|Av<|B8<|Aq<|Ah<|Aa (Cj (DW _) (DV _) O O ‹_›) O ?_
 refine An O O (Oz vn ls w5 o.gn) ?_
 rintro _ w6 ⟨rfl,w⟩
 have z6:=w.size
 replace l:=bt l w
 have o:=o.bs w
 have d:=d.bs w
 clear w C
 refine Aa (Co O) O<|Aj<|Ao O ?_ ?_
 ·intro g
  have g:(Hg ls).isSome=false:=by simpa using g
  refine Ah<|Aa (Cc (vs:=[]) (cs:=[.slice none 0 0]) O (by kernel_rfl)) O<|Br (Cz (cs:=[.slice none 0 0]) (k:=1) (by kernel_rfl) O O O O d O) ?_
  rintro wb ⟨V,K,hzb⟩
  have I:=l.grown K (AA l) (by rintro _ ⟨⟩;omega)
  refine Ab O<|Ab O<|Bz<|Dm O O O O ‹_› underlying24 O O O ?_
  exact ⟨I,Jt rA (by rw [rE,g];rfl) (by rw [rR,g];rfl)⟩
 intro g
 have g:(Hg ls).isSome=true:=by simpa using g
 rw [g] at rE rR
 have C:=o.g
 have one7:[vn].all (·.oneCell')=true:=by simp [(AG o.o).one']
 have h_g:=o.gn
 refine Cp<|Aa (Cj (DW _) (DV _) O O ‹_›) O ?_
 refine Br (Cz (cs:=[vn]) (k:=1) (by kernel_rfl) O O O one7 d O) ?_
 rintro w7 ⟨b_o7,M,hz7⟩
 have t7:∀b,some L=some b→∃cs,AN w6 b 24 cs:=fun b e=>by cases e;exact ⟨_,d⟩
 have o7:=FM o.o M t7 (by decide)
 have l:=l.grown M (AA l) (by rintro _ ⟨⟩;omega)
 refine Ab O<|Ab O<|Ay<|Dm O O O O ‹_› underlying24 O O O ?_
 exact ⟨l,vn,ls,by rw [rA,rE];rfl,by rw [rR];rfl,AG o7,fun a E=>⟨(AE (o.en a E).1 M t7 (by decide)).slT,(AE (o.en a E).2 M t7 (by decide)).slT⟩⟩

-- dd: text
theorem FT {w:World} {n p m i k o:Nat} {c d:TypeId} {u v:Value} {xs h:List Value} (l:w.ownsRow n c m u k xs) (j:w.ownsRow p d i v o h) (a:c≠d):u.ownBlock=none∨u.ownBlock≠v.ownBlock:=by
 cases hu:u.ownBlock with
 |none=>exact .inl rfl
 |some b=>
  refine .inr fun e=> ?_
  obtain ⟨cs,f⟩:=AT.ty (.inl l) hu
  obtain ⟨ds,g⟩:=AT.ty (.inl j) e.symm
  exact a (FI f g)
set_option maxHeartbeats 1000000 in
theorem Sz (v:Value) (ls:List N5) (W:World) (Q:Jr W) (h:GN W v ls):AJ prog 25 [.agg [v].toArray] W (fun r w' =>Below W.heap.size W w' ∧r= .tuple #[st (FZ ls), .int .i64 (G4 ls)]):=by
 have A:=Below.refl W.heap.size W
 have zG:=Q.sz
 have hG0:=Q
 have h0:=h
 have N:=h.sl
 refine Bd (n:=73) func25 O<|Ah<|C0 (cs:=[v]) O O O ?_
 rintro A_g w eA_g F b -
 have A:=A.bs b
 have Q:=Q.bs b
 have h:=h.bs b
 have N:=N.bs b
 refine Ab O<|Ab O<|Bj<|Aa (Cj (DW _) (DV _) O O ‹_›) O ?_
 refine An O O (M7 v ls _ h) ?_
 rintro _ w ⟨b,rfl⟩
 have A:=A.bs b
 have Q:=Q.bs b
 have h:=h.bs b
 have N:=N.bs b
 have F:=F.bs b
 refine Aa (Co O) O<|Aj<|Ao O ?_ ?_
 ·intro g
  have g:(Hg ls).isSome=false:=by simpa using g
  refine Ah<|Ab O<|Ab O<|Bz<|Bp O O O ?_
  exact ⟨A,by unfold FZ G4;rw [g];rfl⟩
 intro g
 have g:(Hg ls).isSome=true:=by simpa using g
 obtain ⟨h32,hL⟩:=Kj g
 rw [show FZ ls=CZ ls by unfold FZ;rw [g];rfl,show G4 ls=0 by unfold G4;rw [g];rfl]
 clear g
 have z0:=AA A
 refine Cp<|Dg TU O ?_
 rintro G w eA_b b_b b zhn
 have zb:=b.size
 have yb:=BL b_b
 have A:=A.bs b
 have Q:=Q.bs b
 have h:=h.bs b
 have N:=N.bs b
 have F:=F.bs b
 have u:=SI b_b
 refine Bg<|An O O (Qz w) ?_
 rintro _ w ⟨b,M,rfl,zM,K⟩
 have K:=K.in
 have zr:=b.size
 have A:=A.bs b
 have Q:=Q.bs b
 have h:=h.bs b
 have N:=N.bs b
 have F:=F.bs b
 have u:=u.bs b
 refine Ab O<|Bj<|A0 underlying24 O (BY _)<|Aa (Ak (CS _) O ‹_› rfl) O ?_
 refine Aa (Au BA O ‹_›) O ?_
 refine Ad O<|Aj<|Ar ?_
 refine Bo (S:=Nat) (fun i=>[(4, .pointer (some ⟨G,0,none⟩)),(5, .map (some M)),(15,v),(16, .int .i64 (ls.length:Int)),(17, .int .i64 (i:Int))]) (fun i w' =>i≤ls.length∧Below W.heap.size W w' ∧Tg w' G (CZ (ls.take i))∧BX w' M (.int .u8) RD) (fun i=>ls.length - i) (0) ⟨rfl,rfl,rfl,rfl,rfl,trivial⟩ ?_ ?_
 ·exact ⟨Nat.zero_le _,A,u,K⟩
 clear u K A Q h N F
 rintro i w ⟨hi,A,u,K⟩
 have D:=hG0.bs A
 have hw:=h0.bs A
 have N:=hw.sl
 refine Ah<|B1 O<|Aj<|Aq<|Ao O ?_ ?_
 ·intro gi
  have E:i<ls.length:=by have:=AC gi;omega
  obtain ⟨x,hx⟩:∃x,x=ls[i]:=⟨_,rfl⟩
  have hxm:x ∈ ls:=hx ▸ getElem_mem E
  have J:=hw.each x hxm
  have hcl:=hw.cells E
  rw [← hx] at hcl
  have L:=hL x hxm
  obtain ⟨r1,r2⟩:=Q3 L.kd
  obtain ⟨l1,l2⟩:=KL L
  obtain ⟨r,hr⟩:∃r,r=CD x.k:=⟨_,rfl⟩
  rw [← hr] at r1 r2 l1 l2
  refine B2<|Aq<|Ar<|Ah<|Aa (Cu BA O O N i O E) O<|Aa (C6 (cs:=x.cells) (CY _) (CW _) O N O (by decide) hcl) O<|Cv (cs:=x.cells) EA O O O O (fun _=>rfl) (J.ones) ?_
  rintro A_x w eA_x s b zhn
  have A:=A.bs b
  have D:=D.bs b
  have u:=u.bs b
  have K:=K.bs b
  have J:=J.bs b
  refine Bg<|Ad O<|A0 underlying79 O (DA _)<|Aa (Ak (DG _) O ‹_› rfl) O ?_
  refine Aa (Fm underlying122 CJ O O O K ⟨_,_,(show Tryz.prog.info? 125=some Tryz.t125 by kernel_rfl),rfl⟩ r1 r2) O<|Cv (cs:=r.cells) NC O O O O (fun _=>rfl) (rfl) ?_
  rintro A_r z eA_r t b zhn
  have A:=A.bs b
  have D:=D.bs b
  have u:=u.bs b
  have K:=K.bs b
  have J:=J.bs b
  have s:=s.bs b
  have zw:=A.size
  have hx0:=J
  have R:=s
  have U:=t
  have a:=Below.refl z.heap.size z
  obtain ⟨A1,hA1⟩:∃A1,A1=[r.word]++x.i.map Lib.itoa:=⟨_,rfl⟩
  obtain ⟨A2,V⟩:∃A2,A2=A1++(if r.nxt=[] then [] else [r.nxt]):=⟨_,rfl⟩
  obtain ⟨C,T⟩:∃C,C=A2++(if r.shaped then x.s.map Lib.itoa else if r.nxt=[] then [] else [Lib.itoa x.n]):=⟨_,rfl⟩
  have eW:EJ r x=C++(if r.last=[] then [] else [r.last,Lib.itoa x.p]):=by rw [T,V,hA1];rfl
  have n3:C.length≤12:=by have:=cngA length eW;rw [length_append] at this;omega
  have n2:A2.length≤12:=by have:=cngA length T;rw [length_append] at this;omega
  have n1:A1.length≤12:=by have:=cngA length V;rw [length_append] at this;omega
  have b64:∀{l:List Int},(∀d ∈ l,0≤d∧d≤65536)→∀d ∈ l, -9223372036854775808≤d∧d≤9223372036854775807:=fun hl d H=>by have:=hl d H;omega
  refine Bg<|A0 underlying125 O (Ic _)<|Aa (Ak (EB _) O ‹_› rfl) O ?_
  refine Bq (C2 (vs:=[r.word].map st) AS HU O O O O O) O ?_
  rintro y w ⟨c, -,b, -⟩
  have a:=a.trans b
  have s:=R.bs a
  have t:=U.bs a
  have c:w.ownsRow z.heap.size 9 1 y ([r.word]:List (List UInt8)).length (([r.word]:List (List UInt8)).map st):=c
  refine A0 underlying79 O (AU _)<|Aa (Ak (AK _) O ‹_› rfl) O ?_
  refine An O O (H6 y x.x [r.word] x.i z _ D a c (fun w' g _=>hx0.i.bs g) (b64 L.ii) (by have:=L.il;simp only [length_singleton];omega)) ?_
  rintro y w ⟨a,c, -⟩
  rw [← hA1] at c
  have s:=R.bs a
  have t:=U.bs a
  refine Ab O<|Bj<|A0 underlying125 O (Ic _)<|Aa (Ak (EB _) O ‹_› rfl) O ?_
  refine Aa (Dz O O) O<|Aj ?_
  refine Dh (St:=Value) (fun y=>[(4, .pointer (some ⟨G,0,none⟩)),(5, .map (some M)),(7, .pointer (some ⟨A_x,0,none⟩)),(8, .pointer (some ⟨A_r,0,none⟩)),(9,y),(15,v),(16, .int .i64 (ls.length:Int)),(17, .int .i64 (i:Int))]) (fun y w' =>Below z.heap.size z w' ∧w'.ownsRow z.heap.size 9 1 y A2.length (A2.map st)) ?_ ?_
  ·refine Ao O ?_ ?_
   ·intro e
    have e:¬r.nxt=[]:=by simpa using e
    refine Bh<|Ad O<|A0 underlying125 O (Ic _)<|Aa (Ak (EB _) O ‹_› rfl) O ?_
    refine Bq (C2 (vs:=[r.nxt].map st) AS HU O O O O O) O ?_
    rintro q w2 ⟨m, -,b, -⟩
    replace c:=AH c b
    have o:=a.size
    have a:=a.trans (b.mono o)
    have z2:=a.size
    refine Bq (C5 (base:=z.heap.size) AS HU O (by decide) O O c (AG m) (HQ _) (by omega) (by omega) z2) O ?_
    rintro y w3 ⟨c,I, -, -⟩
    have a:=a.trans I
    rw [← map_append,show A1.length+1=(A1++[r.nxt]).length by rw [length_append];rfl] at c
    refine Ab O<|Be ?_
    exact B6 (y) ⟨rfl,rfl,rfl,rfl,rfl,rfl,rfl,rfl,trivial⟩ (⟨a,by rw [V,if_neg e];exact c⟩)
   intro e
   have e:r.nxt=[]:=by simpa using e
   refine Ca ?_
   exact B6 (y) ⟨rfl,rfl,rfl,rfl,rfl,rfl,rfl,rfl,trivial⟩ (⟨a,by rw [V,if_pos e,append_nil];exact c⟩)
  clear a c s t
  rintro y w ⟨a,c⟩
  have s:=R.bs a
  have t:=U.bs a
  refine Aq ?_
  refine Dh (St:=Value) (fun y=>[(4, .pointer (some ⟨G,0,none⟩)),(5, .map (some M)),(7, .pointer (some ⟨A_x,0,none⟩)),(8, .pointer (some ⟨A_r,0,none⟩)),(9,y),(15,v),(16, .int .i64 (ls.length:Int)),(17, .int .i64 (i:Int))]) (fun y w' =>Below z.heap.size z w' ∧w'.ownsRow z.heap.size 9 1 y C.length (C.map st)) ?_ ?_
  ·refine Ar<|Ah<|Aa (Cj (k:=5) (RH _) (Qi _) O O t) O<|An O O (LQ r w) ?_
   rintro _ w2 ⟨rfl,b⟩
   replace c:=AH c b
   have o:=a.size
   have a:=a.trans (b.mono o)
   have s:=R.bs a
   have t:=U.bs a
   refine Ab O<|Aj<|Ao O ?_ ?_
   ·intro e
    refine Bh<|Ad O<|A0 underlying79 O (AU _)<|Aa (Ak (AK _) O ‹_› rfl) O ?_
    refine An O O (H6 y x.y A2 x.s z _ D a c (fun w' g _=>hx0.s.bs g) (b64 L.ss) (by have:=L.sl;omega)) ?_
    rintro y w3 ⟨a,c, -⟩
    refine Ab O<|Be<|Bi ?_
    exact B6 (y) ⟨rfl,rfl,rfl,rfl,rfl,rfl,rfl,rfl,trivial⟩ (⟨a,by rw [T,if_pos e];exact c⟩)
   intro e
   refine Ah<|A0 underlying125 O (Ic _)<|Aa (Ak (EB _) O ‹_› rfl) O ?_
   refine Aa (Dz O O) O<|Ab O<|Aj<|Ao O ?_ ?_
   ·intro e2
    have e2:¬r.nxt=[]:=by simpa using e2
    refine Bh<|Ad O<|A0 underlying79 O (AV _)<|Aa (Ak (AI _) O ‹_› rfl) O ?_
    refine Bq (C2 (vs:=[x.n].map (Value.int .i64)) AD DT O O O O O) O ?_
    rintro q w3 ⟨m, -,I, -⟩
    replace c:=AH c I
    have z2:=a.size
    have a:=a.trans (I.mono z2)
    have m:w3.ownsRow w2.heap.size 3 1 q ([x.n]:List Int).length (([x.n]:List Int).map (Value.int .i64)):=m
    refine An O O (H6 y q A2 [x.n] z _ D a c (fun w' _ g=>(BD m).by g (FT m c (by decide))) (fun d H=>by rw [List.mem_singleton.1 H];have:=L.nn;omega) (by simp only [length_singleton];omega)) ?_
    rintro y w4 ⟨a,c, -⟩
    refine Ab O<|Be<|Bi ?_
    exact B6 (y) ⟨rfl,rfl,rfl,rfl,rfl,rfl,rfl,rfl,trivial⟩ (⟨a,by rw [T,if_neg (by rw [e];decide),if_neg e2];exact c⟩)
   intro e2
   have e2:r.nxt=[]:=by simpa using e2
   refine Ca<|Bi ?_
   exact B6 (y) ⟨rfl,rfl,rfl,rfl,rfl,rfl,rfl,rfl,trivial⟩ (⟨a,by rw [T,if_neg (by rw [e];decide),if_pos e2,append_nil];exact c⟩)
  clear a c s t
  rintro y w ⟨a,c⟩
  have s:=R.bs a
  have t:=U.bs a
  refine Aq<|Ah<|A0 underlying125 O (Ic _)<|Aa (Ak (EB _) O ‹_› rfl) O ?_
  refine Aa (Dz O O) O<|Aj ?_
  refine Dh (St:=Value) (fun y=>[(4, .pointer (some ⟨G,0,none⟩)),(5, .map (some M)),(9,y),(15,v),(16, .int .i64 (ls.length:Int)),(17, .int .i64 (i:Int))]) (fun y w' =>Below z.heap.size z w' ∧w'.ownsRow z.heap.size 9 1 y (EJ r x).length ((EJ r x).map st)) ?_ ?_
  ·refine Ao O ?_ ?_
   ·intro e
    have e:¬r.last=[]:=by simpa using e
    refine Cw.any mixed (fun w2 H _=> ?_)
    replace c:=AH c H
    have o:=a.size
    have a:=a.trans (H.mono o)
    have s:=s.bs H
    have t:=t.bs H
    clear H o
    refine Df (fun w' =>Below z.heap.size z w') (fun hC=> ?_) (a)
    refine Cr C7<|Am 0 O (fun w1 X=>Cb O) O<|Am 1 O (fun w1 X=>Ck underlying125 O (Ic _)) O<|Am 2 O (fun w1 X=>Ak (EB _) O (AN.bs ‹_› X) O) O<|Am 5 O (fun w1 X=>Ck underlying79 O (AV _)) O<|Am 6 O (fun w1 X=>Ak (AI _) O (AN.bs ‹_› X) O) O<|Cf ?_
    refine BV.two ‹_› (i:=3) (j:=7) (by kernel_rfl) O O ?_ ?_
    refine Bq (C2 (vs:=[r.last].map st) AS HU O O O O O) O ?_
    rintro q w ⟨m, -,b, -⟩
    have o:=a.size
    have a:=a.trans (b.mono o)
    replace c:=AH c b
    try replace f:=AH f b
    clear o b
    refine BV.back ?_
    refine BV.two ‹_› (i:=4) (j:=7) (by kernel_rfl) O O ?_ ?_
    have o:=a.size
    refine Bq (C5 (base:=z.heap.size) AS HU O (by decide) O O c (AG m) (HQ _) (by omega) (by omega) o) O ?_
    rintro y w ⟨B,b,Y, -⟩
    try replace f:=f.kept Y (FT f c (by decide))
    have a:=a.trans b
    rw [← map_append,show C.length+1=(C++[r.last]).length by rw [length_append];rfl] at B
    replace c:=B
    clear o b Y m B
    refine BV.back<|BV.only ‹_› (i:=7) (by kernel_rfl) O ?_
    refine Bq (C2 (vs:=[x.p].map (Value.int .i64)) AD DT O O O O O) O ?_
    rintro p w ⟨f, -,b, -⟩
    have o:=a.size
    have a:=a.trans (b.mono o)
    replace c:=AH c b
    try replace m:=AH m b
    clear o b
    refine BV.back<|BV.only ‹_› (i:=8) (by kernel_rfl) O ?_
    refine An O O (H6 y p (C++[r.last]) [x.p] z _ D a c (fun w' _ g=>(show CA (Value.int .i64) _ p [x.p] from BD f).by g (FT f c (by decide))) (fun d H=>by rw [List.mem_singleton.1 H];have:=L.pp;omega) (by simp only [length_append,length_singleton];omega)) ?_
    rintro y w ⟨a,c, -⟩
    refine BV.back<|Cr C7<|Am 9 O (fun w1 X=>Cq O) O<|Cf<|BV.done ‹_› (by kernel_rfl) ?_
    exact B6 (y) ⟨rfl,rfl,rfl,rfl,rfl,rfl,trivial⟩ (⟨a,by rw [eW,if_neg e,show C++[r.last,Lib.itoa x.p]=C++[r.last]++[x.p].map Lib.itoa by simp];exact c⟩)
    refine Bq (C2 (vs:=[x.p].map (Value.int .i64)) AD DT O O O O O) O ?_
    rintro p w ⟨f, -,b, -⟩
    have o:=a.size
    have a:=a.trans (b.mono o)
    replace c:=AH c b
    try replace m:=AH m b
    clear o b
    refine BV.back<|BV.only ‹_› (i:=4) (by kernel_rfl) O ?_
    have o:=a.size
    refine Bq (C5 (base:=z.heap.size) AS HU O (by decide) O O c (AG m) (HQ _) (by omega) (by omega) o) O ?_
    rintro y w ⟨B,b,Y, -⟩
    try replace f:=f.kept Y (FT f c (by decide))
    have a:=a.trans b
    rw [← map_append,show C.length+1=(C++[r.last]).length by rw [length_append];rfl] at B
    replace c:=B
    clear o b Y m B
    refine BV.back<|BV.only ‹_› (i:=8) (by kernel_rfl) O ?_
    refine An O O (H6 y p (C++[r.last]) [x.p] z _ D a c (fun w' _ g=>(show CA (Value.int .i64) _ p [x.p] from BD f).by g (FT f c (by decide))) (fun d H=>by rw [List.mem_singleton.1 H];have:=L.pp;omega) (by simp only [length_append,length_singleton];omega)) ?_
    rintro y w ⟨a,c, -⟩
    refine BV.back<|Cr C7<|Am 9 O (fun w1 X=>Cq O) O<|Cf<|BV.done ‹_› (by kernel_rfl) ?_
    exact B6 (y) ⟨rfl,rfl,rfl,rfl,rfl,rfl,trivial⟩ (⟨a,by rw [eW,if_neg e,show C++[r.last,Lib.itoa x.p]=C++[r.last]++[x.p].map Lib.itoa by simp];exact c⟩)
    refine Bq (C2 (vs:=[x.p].map (Value.int .i64)) AD DT O O O O O) O ?_
    rintro p w ⟨f, -,b, -⟩
    have o:=a.size
    have a:=a.trans (b.mono o)
    replace c:=AH c b
    try replace m:=AH m b
    clear o b
    refine BV.back<|BV.only ‹_› (i:=3) (by kernel_rfl) O ?_
    refine Bq (C2 (vs:=[r.last].map st) AS HU O O O O O) O ?_
    rintro q w ⟨m, -,b, -⟩
    have o:=a.size
    have a:=a.trans (b.mono o)
    replace c:=AH c b
    try replace f:=AH f b
    clear o b
    refine BV.back<|BV.only ‹_› (i:=4) (by kernel_rfl) O ?_
    have o:=a.size
    refine Bq (C5 (base:=z.heap.size) AS HU O (by decide) O O c (AG m) (HQ _) (by omega) (by omega) o) O ?_
    rintro y w ⟨B,b,Y, -⟩
    try replace f:=f.kept Y (FT f c (by decide))
    have a:=a.trans b
    rw [← map_append,show C.length+1=(C++[r.last]).length by rw [length_append];rfl] at B
    replace c:=B
    clear o b Y m B
    refine BV.back<|BV.only ‹_› (i:=8) (by kernel_rfl) O ?_
    refine An O O (H6 y p (C++[r.last]) [x.p] z _ D a c (fun w' _ g=>(show CA (Value.int .i64) _ p [x.p] from BD f).by g (FT f c (by decide))) (fun d H=>by rw [List.mem_singleton.1 H];have:=L.pp;omega) (by simp only [length_append,length_singleton];omega)) ?_
    rintro y w ⟨a,c, -⟩
    refine BV.back<|Cr C7<|Am 9 O (fun w1 X=>Cq O) O<|Cf<|BV.done ‹_› (by kernel_rfl) ?_
    exact B6 (y) ⟨rfl,rfl,rfl,rfl,rfl,rfl,trivial⟩ (⟨a,by rw [eW,if_neg e,show C++[r.last,Lib.itoa x.p]=C++[r.last]++[x.p].map Lib.itoa by simp];exact c⟩)
   intro e
   have e:r.last=[]:=by simpa using e
   refine Ca ?_
   exact B6 (y) ⟨rfl,rfl,rfl,rfl,rfl,rfl,trivial⟩ (⟨a,by rw [eW,if_pos e,append_nil];exact c⟩)
  clear a c s t
  rintro y w ⟨a,c⟩
  have l3:=Ms 32 (EJ r x)
  have l4:=Nj l2
  have eT:CZ (ls.take (i+1))=CZ (ls.take i)++(Lib.join (EJ r x) [32]++[10]):=by
   rw [take_succ_eq_append_getElem E,KA,← hx,hr]
   simp [CZ,JY]
  have lT:=IF (ls:=ls.take i) fun y hy=>hL y (mem_of_mem_take hy)
  have lk:(ls.take i).length≤32:=by rw [length_take];omega
  have hne:0<(EJ r x).length:=by unfold EJ;simp only [length_append,length_singleton];omega
  refine Bh<|Ad O<|An O O (TL y (EJ r x) [32] _ _ c hne (by omega) (by omega)) ?_
  rintro _ w2 ⟨rfl,b⟩
  have o:=a.size
  have a:=a.trans (b.mono o)
  have hbl2:=u.bs a
  have hM2:=K.bs a
  have zM2:=hM2.lt
  have z2:=a.size
  refine Aa (Ct O O (by simp only [length_singleton];omega)) O<|An O O (RN G (CZ (ls.take i)) (Lib.join (EJ r x) [32]++[10]) _ hbl2 (by omega) (by simp only [length_append,length_singleton];omega)) ?_
  rintro _ w3 ⟨Z,I,hk3⟩
  rw [← eT] at Z
  have hM3:=hM2.oth hk3 (by omega)
  have hB3:=(A.trans (a.mono zw)).trans (I.mono (by omega))
  refine Be<|Bi<|Cd<|B9 O (by omega)<|Ad O<|Be ?_
  exact Av (Bw (i+1) ⟨rfl,rfl,rfl,rfl,rfl,trivial⟩ (⟨E,hB3,Z,hM3⟩) (by omega))
 intro gi
 have E:i=ls.length:=by have:=AB gi;omega
 subst E
 rw [take_length] at u
 have zz:=A.size
 have zM2:=K.lt
 refine Bn<|Al<|Al<|Bc<|Ci<|An O O (Qj G (CZ ls) _ u (by omega)) ?_
 rintro _ w2 ⟨rfl,b⟩
 exact Ab rfl<|Ab rfl<|Ay<|Bp rfl rfl rfl<|⟨A.trans (b.mono (by omega)),rfl⟩
end Go.Proofs.YtblbopcaflaldaaGreatDoor

namespace Go.Proofs.YtblbopcaflaldaaGreatDoor
open Go Go.Dd Go.RowKit List
set_option maxRecDepth 100000
theorem PW {us ls:List N5} (e:us.map pn=ls.map pn):CZ us=CZ ls:=by
 have k:∀l:List N5,CZ l=((l.map pn).map fun p=>JY (un p)).flatten:=fun l=>by
  unfold CZ
  rw [map_map]
  rfl
 rw [k us,k ls,e]
theorem RZ {us ls:List N5} (e:us.map pn=ls.map pn):FZ us=FZ ls∧G4 us=G4 ls:=by
 have h:Hg us=Hg ls:=by rw [← I0,← I0,e]
 unfold FZ G4
 rw [h,PW e]
 exact ⟨rfl,rfl⟩
theorem O1 {ls:List N5} {s:List UInt8} (h:ls.map pn=GW s):ls.length≤32∧∀c ∈ ls,c.i.length≤16777216∧c.s.length≤16777216:=by
 by_cases e:Hs s=0
 ·have g:=(Na e).1
  rw [← h,I0] at g
  obtain ⟨b,d⟩:=Kj g
  refine ⟨b,fun c a=> ?_⟩
  have L:=d c a
  have:=L.il
  have:=L.sl
  omega
 ·have:=Su e
  rw [this] at h
  have:ls=[]:=by simpa using h
  subst this
  exact ⟨Nat.zero_le _,fun c a=>by cases a⟩
end Go.Proofs.YtblbopcaflaldaaGreatDoor

namespace Go.Proofs.YtblbopcaflaldaaGreatDoor
open Go Go.Dd Go.RowKit List Go.Proofs.Tryz
set_option maxRecDepth 100000
theorem own:ownKnob Tryz.prog.godebug=none:=by kernel_rfl
theorem O8:laidOutB prog=true:=by kernel_rfl
end Go.Proofs.YtblbopcaflaldaaGreatDoor
