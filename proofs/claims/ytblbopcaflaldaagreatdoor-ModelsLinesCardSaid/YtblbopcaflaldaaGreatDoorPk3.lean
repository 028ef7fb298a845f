/- Texts of this proof, one behind the other: TensList, Book, Bkn, MdlCode, TxtCode, RefShape, RefCode, RefJoined, RefOrd, Ret, RefNode, TxtPl, Pan, MdlRead, MdlPl, ParPl, Rec, ParNum, BookCode, BookLaw, TwinTensor, BookTen, MdlHold, MdlChunk, MdlPut, MdlReading, MdlGet, ParLine, TxtText, ParTx, ParNode, ParPrs, MdlGot. -/
import Derived.Test.YtblbopcaflaldaaGreatDoorPk2
import Derived.Test.YtblbopcaflaldaaGreatDoorPk1
import Derived.OwnWalk
import Derived.Defers
import Derived.Recover
import Derived.WideLaws
import Derived.Laws.Entries

namespace Go.Proofs.YtblbopcaflaldaaGreatDoor
open Go Go.Dd Go.RowKit List
set_option maxRecDepth 100000
def Lm (w:World) (v:Value) (ts:List T4):Prop:=Sl w 2 v ts.length (cellsOf ts)∧∀t ∈ ts,t.at w
theorem Lm.bs {w w' :World} {v:Value} {ts:List T4} (h:Lm w v ts) (g:Below w.heap.size w w'):Lm w' v ts:=⟨h.1.bs g,fun t a=>(h.2 t a).bs g⟩
theorem Lm.slice {w:World} {v:Value} {ts:List T4} (h:Lm w v ts) {i:Nat} (d:i<ts.length):∃ad c k,v= .slice (some ad) c k:=by
 obtain ⟨_,a,cap,rfl,_,_,b,_⟩:=h.1
 cases a with
 |none=>have:=b rfl;omega
 |some ad=>exact ⟨_,_,_,rfl⟩
theorem P0 {ts:List T4} {i:Nat} (h:i<ts.length):∃t:T4,t=ts[i]∧t ∈ ts∧(cellsOf ts)[i*2]? =some t.x∧(cellsOf ts)[i*2+1]? =some t.y:=
 ⟨ts[i],rfl,getElem_mem h,(Jb h).1,(Jb h).2⟩
theorem MH {xs:List Value} {o:Nat} {x y:Value} (b:xs[o]? =some x) (a:xs[o+1]? =some y):∀i,i<2→∃q,[x,y][i]? =some q∧xs[o+i]? =some q:=fun i c=>by
 rcases (show i=0∨i=1 by omega) with rfl|rfl
 ·exact ⟨_,rfl,b⟩
 ·exact ⟨_,rfl,a⟩
end Go.Proofs.YtblbopcaflaldaaGreatDoor

namespace Go.Dd
open Go Go.RowKit
open List hiding all
structure FA (S:Nat→Prop) (w w' :World):Prop where
 os:w'.os=w.os
 tape:w'.tape=w.tape
 output:w'.output=w.output
 size:w.heap.size≤w'.heap.size
 block:∀k,k<w.heap.size→¬S k→w'.heap[k]? =w.heap[k]?
namespace FA
variable {S T : Nat → Prop} {a b c : World}
theorem refl (S:Nat→Prop) (w:World):FA S w w:=⟨rfl,rfl,rfl,AQ _,fun _ _ _=>rfl⟩
theorem trans (h:FA S a b) (k:FA S b c):FA S a c:=
 ⟨k.os.trans h.os,k.tape.trans h.tape,k.output.trans h.output,Nat.le_trans h.size k.size,fun i f d=>(k.block i (Nat.lt_of_lt_of_le f h.size) d).trans (h.block i f d)⟩
theorem mono (h:FA S a b) (d:∀k,S k→T k):FA T a b:=⟨h.os,h.tape,h.output,h.size,fun k f g=>h.block k f fun e=>g (d k e)⟩
theorem below (h:FA S a b) (k:Below b.heap.size b c):FA S a c:=
 ⟨k.os.trans h.os,k.tape.trans h.tape,k.output.trans h.output,Nat.le_trans h.size k.size,fun i d f=>(k.block i (Nat.lt_of_lt_of_le d h.size)).trans (h.block i d f)⟩
theorem grown (h:FA S a b) {r:Option Nat} (k:b.grownBy c r) (j:∀n,r=some n→S n∨a.heap.size≤n):FA S a c:=
 ⟨k.os.trans h.os,k.tape.trans h.tape,k.output.trans h.output,Nat.le_trans h.size k.size,fun i g f=>(k.block i (Nat.lt_of_lt_of_le g h.size) (fun e=>by
  rcases j i e.symm with d|d
  ·exact f d
  ·omega)).trans (h.block i g f)⟩
theorem of_below (h:Below a.heap.size a b):FA S a b:=(FA.refl S a).below h
theorem to_below {B:Nat} (h:FA S a b) (d:∀k,S k→B≤k) (g:B≤a.heap.size):Below B a b:=
 ⟨h.os,h.tape,h.output,h.size,fun k f=>h.block k (by omega) fun e=>by have:=d k e;omega⟩
end FA
theorem AK.chg {S:Nat→Prop} {w w' :World} {b:Nat} {T:TypeId} {cs:List Value} (h:AK w b T cs) (g:FA S w w') (d:¬S b):AK w' b T cs:=h.keep (g.block b (AY h) d)
theorem AW.chg {S:Nat→Prop} {w w' :World} {base:Nat} {e:TypeId} {sz:Nat} {v:Value} {n:Nat} {xs:List Value} (h:AW w base e sz v n xs) (g:FA S w w') (d:∀b,v.ownBlock=some b→¬S b):AW w' base e sz v n xs:=
 h.heap fun b e=>g.block b (h.lt b e).2 (d b e)
theorem Sl.chg {S:Nat→Prop} {w w' :World} {sz:Nat} {v:Value} {n:Nat} {xs:List Value} (h:Sl w sz v n xs) (g:FA S w w') (f:∀b,v.ownBlock=some b→b<w.heap.size→¬S b):Sl w' sz v n xs:=
 h.keep fun b d e=>g.block b d (f b e d)
structure Hd where
 v:Value
 k:Nat
 xs:List Value
 n:Int
 g:Value
def Hd.cells (h:Hd):List Value:=[h.v,h.g, .int .i64 h.n]
def CK:List Hd→List Value
 |[]=>[]
 |h::hs=>h.v::h.g:: .int .i64 h.n::CK hs
def Jc (hs:List Hd):Nat→Prop:=fun b=>∃h ∈ hs,h.v.ownBlock=some b
structure KOk (hs:List Hd):Prop where
 num:∀h ∈ hs,0≤h.n∧h.n≤4000000
 few:∀h ∈ hs,h.k≤16777216
 apart:hs.Pairwise fun a b=>Ji a.v b.v
 new:∀h ∈ hs,h.g= .slice none 0 0
structure Jh (w:World) (base:Nat) (E:TypeId) (sz:Nat) (hs:List Hd):Prop extends KOk hs where
 own:∀h ∈ hs,AW w base E sz h.v h.k h.xs
theorem Jh.blk {w:World} {base:Nat} {E:TypeId} {sz:Nat} {d:List Hd} (h:Jh w base E sz d) {b:Nat} (g:Jc d b):base≤b∧b<w.heap.size:=by
 obtain ⟨x,f,e⟩:=g
 exact (h.own x f).lt b e
theorem Jh.chg {w w' :World} {base:Nat} {E:TypeId} {sz:Nat} {d:List Hd} {S:Nat→Prop} (h:Jh w base E sz d) (g:FA S w w') (i:∀b,Jc d b→¬S b):Jh w' base E sz d:=
 ⟨h.toKOk,fun x f=>(h.own x f).chg g fun b e=>i b ⟨x,f,e⟩⟩
theorem Jh.bs {w w' :World} {base:Nat} {E:TypeId} {sz:Nat} {d:List Hd} (h:Jh w base E sz d) (g:Below w.heap.size w w'):Jh w' base E sz d:=
 ⟨h.toKOk,fun x f=>(h.own x f).bs g⟩
def O4 (mk:Int→Value) (k:Nat) (n:Int):List Value:=replicate k (mk n)
def Pp (w:World) (base:Nat) (E:TypeId) (mk:Int→Value) (hs:List Hd):Prop:=∀h ∈ hs,AW w base E 1 h.v h.k (O4 mk h.k h.n)
theorem Pp.chg {w w' :World} {base:Nat} {E:TypeId} {mk:Int→Value} {d:List Hd} {S:Nat→Prop} (h:Pp w base E mk d) (g:FA S w w') (i:∀b,Jc d b→¬S b):Pp w' base E mk d:=
 fun x f=>(h x f).chg g fun b e=>i b ⟨x,f,e⟩
theorem Pp.blk {w:World} {base:Nat} {E:TypeId} {mk:Int→Value} {d:List Hd} (h:Pp w base E mk d) {b:Nat} (g:Jc d b):base≤b∧b<w.heap.size:=by
 obtain ⟨x,f,e⟩:=g
 exact (h x f).lt b e
structure N0 (w:World) (mk:Int→Value) (h:Hd):Prop where
 l:Sl w 1 h.v h.k (O4 mk h.k h.n)
 g:Sl w 1 h.g (h.k+40) (O4 mk (h.k+40) h.n)
theorem N0.chg {w w' :World} {mk:Int→Value} {h:Hd} {S:Nat→Prop} (t:N0 w mk h) (g:FA S w w') (d:∀b,h.v.ownBlock=some b→b<w.heap.size→¬S b) (f:∀b,h.g.ownBlock=some b→b<w.heap.size→¬S b):N0 w' mk h:=⟨t.l.chg g d,t.g.chg g f⟩
structure Ln (w:World) (hs ts:List Hd):Prop where
 len:ts.length=hs.length
 all:∀j (h:j<hs.length) (h' :j<ts.length),ts[j].v=hs[j].v∧ts[j].k=hs[j].k∧ts[j].n=hs[j].n∧∀b,ts[j].g.ownBlock=some b→hs[j].v.ownBlock=some b∨w.heap.size≤b
theorem Ln.refl (w:World) {d:List Hd} (h:∀t ∈ d,t.g= .slice none 0 0):Ln w d d:=
 ⟨rfl,fun j f _=>⟨rfl,rfl,rfl,fun b e=>by rw [h _ (getElem_mem f)] at e;cases e⟩⟩
theorem Ln.set {w:World} {d ts:List Hd} {i:Nat} {g:Value} (h:Ln w d ts) (r:i<d.length) (k:i<ts.length) (q:∀b,g.ownBlock=some b→d[i].v.ownBlock=some b∨w.heap.size≤b):Ln w d (ts.set i {ts[i] with g:=g}):=by
 refine ⟨by rw [length_set];exact h.len,fun j l f=> ?_⟩
 rw [getElem_set]
 split
 ·rename_i e
  subst e
  obtain ⟨o,m,p,_⟩:=h.all i r k
  exact ⟨o,m,p,q⟩
 ·exact h.all j l (by simpa using f)
theorem N0.bs {w w' :World} {mk:Int→Value} {h:Hd} (t:N0 w mk h) (g:Below w.heap.size w w'):N0 w' mk h:=⟨t.l.bs g,t.g.bs g⟩
section
variable {P : Program} {n : Nat} {E : BM} {w : World} {ty t e : TypeId} {x y : Operand} {v u : Value} {sz base : Nat}
end
end Go.Dd

namespace Go.Dd
open Go Go.RowKit List
section
variable {P : Program} {n : Nat} {E : BM} {w : World} {e ty t : TypeId} {x y z : Operand} {u v : Value}
end
theorem AW.ty {w:World} {base sz k g:Nat} {T:TypeId} {v:Value} {xs:List Value} (h:AW w base T sz v k xs) (c:v.ownBlock=some g):∃cs,AK w g T cs:=by
 rcases h with h|⟨d,a,rfl,_,b,_⟩
 ·obtain ⟨_,a,_,b,_⟩:=EV h c
  exact ⟨a,b⟩
 ·obtain rfl:d=g:=by simpa [Value.ownBlock] using c
  exact ⟨a,b⟩
theorem Oo {w:World} {base sz n m:Nat} {e:TypeId} {v:Value} {xs:List Value} (h:w.ownsRow base e sz v n xs) (i:m≤n):w.ownsRow base e sz (cut v sz 0 m) m (xs.take (m*sz)):=by
 obtain ⟨q,k⟩:=h
 have f:m*sz≤n*sz:=Nat.mul_le_mul_right _ i
 refine ⟨by rw [length_take];omega, ?_⟩
 rcases k with ⟨rfl,rfl⟩|⟨b,cap,a,rfl,o,p,d,c,g,l⟩
 ·obtain rfl:m=0:=by omega
  exact .inl ⟨rfl,rfl⟩
 ·refine .inr ⟨b,cap,a, ?_,o,p,Nat.le_trans i d,c,g, ?_⟩
  ·show Value.slice (if cap=0 then _ else Option.map _ _) (m - 0) (cap - 0)=_
   have j:(if cap=0 then some (⟨b,0,none⟩:Addr) else (some (⟨b,0,none⟩:Addr)).map (·.add (0*sz)))=some ⟨b,0,none⟩:=by
    split
    ·rfl
    ·simp [add_lit]
   rw [j];rfl
  ·rw [← l,take_take,Nat.min_eq_left f]
def Pq (sz k:Nat) (cs:List (List Value)):Prop:=cs.length=k∧∀c ∈ cs,c.length=sz
theorem Pq.len {sz k:Nat} {cs:List (List Value)} (h:Pq sz k cs):cs.flatten.length=k*sz:=by
 obtain ⟨rfl,h⟩:=h
 induction cs with
 |nil=>simp
 |cons c cs ih=>
  rw [flatten_cons,length_append,ih fun x a=>h x (mem_cons_of_mem _ a),h c (by simp),length_cons,Nat.succ_mul];omega
theorem Pq.take {sz k m:Nat} {cs:List (List Value)} (h:Pq sz (k+m) cs):Pq sz k (cs.take k):=⟨by rw [length_take,h.1];omega,fun c a=>h.2 c (mem_of_mem_take a)⟩
theorem Pq.at {sz k:Nat}:∀{cs:List (List Value)},Pq sz k cs→∀{j:Nat} (a:j<cs.length) {i:Nat},i<sz→cs.flatten[j*sz+i]? =cs[j][i]?
 |[],_,j,a,_,_=>by cases a
 |c::cs,h,0,_,i,hi=>by
  rw [flatten_cons,Nat.zero_mul,Nat.zero_add,getElem?_append_left (by rw [h.2 c (by simp)];exact hi)];rfl
 |c::cs,h,j+1,a,i,hi=>by
  have b:=h.2 c (by simp)
  have:Pq sz cs.length cs:=⟨rfl,fun x d=>h.2 x (mem_cons_of_mem _ d)⟩
  rw [flatten_cons,getElem?_append_right (by rw [b,Nat.succ_mul];omega),b,show (j+1)*sz+i - sz=j*sz+i by rw [Nat.succ_mul];omega,this.at (by simpa using a) hi];rfl
theorem Pq.cells {sz k:Nat} {cs:List (List Value)} (h:Pq sz k cs) {j:Nat} (a:j<cs.length):∀i,i<sz→∃q,cs[j][i]? =some q∧cs.flatten[j*sz+i]? =some q:=fun i b=>by
 have c:=h.2 _ (getElem_mem a)
 exact ⟨cs[j][i]'(by omega),getElem?_eq_getElem _,by rw [h.at a b];exact getElem?_eq_getElem _⟩
structure GQ (B:Nat) (I:TypeId) (Φ:Int→World→List Value→Prop):Prop where
 of:∀{n:Int} {w w' :World} {c:List Value} {S:Nat→Prop},Φ n w c→FA S w w' →(∀b,S b→b<B∨∃T cs,AK w b T cs∧T≠I)→Φ n w' c
theorem GQ.chg {B:Nat} {I:TypeId} {Φ:Int→World→List Value→Prop} (h:GQ B I Φ) {n:Int} {w w' :World} {c:List Value} {S:Nat→Prop} (d:Φ n w c) (g:FA S w w') (a:∀b,S b→b<B):Φ n w' c:=h.of d g fun b e=> .inl (a b e)
theorem GQ.bs {B:Nat} {I:TypeId} {Φ:Int→World→List Value→Prop} (h:GQ B I Φ) {n:Int} {w w' :World} {c:List Value} (a:Φ n w c) (g:Below w.heap.size w w'):Φ n w' c:=h.of a (S:=fun _=>False) (FA.of_below g) (fun _ h=>h.elim)
structure Md (Φ:Int→World→List Value→Prop) (sz:Nat) (n:Int) (w:World) (k:Nat) (cs:List (List Value)):Prop where
 els:Pq sz k cs
 each:∀c ∈ cs,Φ n w c
theorem Md.chg {Φ:Int→World→List Value→Prop} {B sz k:Nat} {I:TypeId} {n:Int} {w w' :World} {S:Nat→Prop} {cs:List (List Value)} (h:Md Φ sz n w k cs) (st:GQ B I Φ) (g:FA S w w') (a:∀b,S b→b<B):Md Φ sz n w' k cs:=⟨h.els,fun c d=>st.chg (h.each c d) g a⟩
theorem Md.bs {Φ:Int→World→List Value→Prop} {B sz k:Nat} {I:TypeId} {n:Int} {w w' :World} {cs:List (List Value)} (h:Md Φ sz n w k cs) (st:GQ B I Φ) (g:Below w.heap.size w w'):Md Φ sz n w' k cs:=⟨h.els,fun c a=>st.bs (h.each c a) g⟩
theorem Md.by {Φ:Int→World→List Value→Prop} {B sz k:Nat} {I:TypeId} {n:Int} {w w' :World} {g:Option Nat} {cs:List (List Value)} (h:Md Φ sz n w k cs) (st:GQ B I Φ) (d:w.grownBy w' g) (a:∀b,g=some b→b<B∨∃T cs,AK w b T cs∧T≠I):Md Φ sz n w' k cs:=
 ⟨h.els,fun c f=>st.of (h.each c f) (S:=fun b=>g=some b) ((FA.refl _ _).grown d fun b e=> .inl e) a⟩
theorem Md.take {Φ:Int→World→List Value→Prop} {sz k m:Nat} {n:Int} {w:World} {cs:List (List Value)} (h:Md Φ sz n w (k+m) cs):Md Φ sz n w k (cs.take k):=⟨h.els.take,fun c a=>h.each c (mem_of_mem_take a)⟩
def Lo (w:World) (base:Nat) (E:TypeId) (sz:Nat) (Φ:Int→World→List Value→Prop) (hs:List Hd):Prop:=∀h ∈ hs,∃cs,Md Φ sz h.n w h.k cs∧AW w base E sz h.v h.k cs.flatten
theorem Lo.chg {w w' :World} {base sz B:Nat} {E I:TypeId} {Φ:Int→World→List Value→Prop} {a:List Hd} {S:Nat→Prop} (h:Lo w base E sz Φ a) (st:GQ B I Φ) (g:FA S w w') (j:∀b,S b→b<B) (f:∀b,Jc a b→¬S b):Lo w' base E sz Φ a:=fun x c=>by
 obtain ⟨cs,i,d⟩:=h x c
 exact ⟨cs,i.chg st g j,d.chg g fun b e=>f b ⟨x,c,e⟩⟩
theorem Lo.blk {w:World} {base sz:Nat} {E:TypeId} {Φ:Int→World→List Value→Prop} {a:List Hd} (h:Lo w base E sz Φ a) {b:Nat} (d:Jc a b):base≤b∧b<w.heap.size:=by
 obtain ⟨x,f,e⟩:=d
 obtain ⟨_,_,c⟩:=h x f
 exact c.lt b e
structure JL (w:World) (sz:Nat) (Φ:Int→World→List Value→Prop) (h:Hd):Prop where
 l:∃cs,Md Φ sz h.n w h.k cs∧Sl w sz h.v h.k cs.flatten
 g:∃cs,Md Φ sz h.n w (h.k+40) cs∧Sl w sz h.g (h.k+40) cs.flatten
theorem JL.chg {w w' :World} {sz B:Nat} {I:TypeId} {Φ:Int→World→List Value→Prop} {h:Hd} {S:Nat→Prop} (t:JL w sz Φ h) (st:GQ B I Φ) (g:FA S w w') (a:∀b,S b→b<B) (i:∀b,h.v.ownBlock=some b→b<w.heap.size→¬S b) (d:∀b,h.g.ownBlock=some b→b<w.heap.size→¬S b):JL w' sz Φ h:=by
 obtain ⟨⟨cs,f,k⟩,⟨ds,j,c⟩⟩:=t
 exact ⟨⟨cs,f.chg st g a,k.chg g i⟩,⟨ds,j.chg st g a,c.chg g d⟩⟩
theorem JL.bs {w w' :World} {sz B:Nat} {I:TypeId} {Φ:Int→World→List Value→Prop} {h:Hd} (t:JL w sz Φ h) (st:GQ B I Φ) (g:Below w.heap.size w w'):JL w' sz Φ h:=by
 obtain ⟨⟨cs,b,d⟩,⟨ds,c,a⟩⟩:=t
 exact ⟨⟨cs,b.bs st g,d.bs g⟩,⟨ds,c.bs st g,a.bs g⟩⟩
theorem DE {w:World} {b:Nat} {T U:TypeId} {cs ds:List Value} (h:AK w b T cs) (k:AK w b U ds):T=U:=by
 unfold AK at h k
 rw [h] at k
 cases k;rfl
end Go.Dd

namespace Go.Proofs.YtblbopcaflaldaaGreatDoor
open Go Go.Dd Go.RowKit List Go.Proofs.Tryz
set_option maxRecDepth 100000
structure N6 (w w' :World) (v y:Value):Prop where
 g:w.grownBy w' v.ownBlock
 c:y.ownBlock=v.ownBlock∨∀b,y.ownBlock=some b→w.heap.size≤b
theorem Gi (w:World) (v:Value):N6 w w v v:=⟨AU (Below.refl _ _) _, .inl rfl⟩
theorem N6.bs {w a b:World} {v y:Value} (h:N6 w a v y) (g:Below a.heap.size a b):N6 w b v y:=⟨AI h.g (AU g _),h.c⟩
theorem N6.app {w d j:World} {v y i:Value} (h:N6 w d v y) (g:d.grownBy j y.ownBlock) (c:i.ownBlock=y.ownBlock∨∀b,i.ownBlock=some b→d.heap.size≤b):N6 w j v i:=by
 have z:=h.g.size
 refine ⟨⟨g.os.trans h.g.os,g.tape.trans h.g.tape,g.output.trans h.g.output,Nat.le_trans z g.size,fun b k a=> ?_⟩, ?_⟩
 ·refine (g.block b (Nat.lt_of_lt_of_le k z) fun e=> ?_).trans (h.g.block b k a)
  rcases h.c with f|f
  ·exact a (by rw [e,f])
  ·have:=f b e.symm;omega
 ·rcases c with c|c
  ·rw [c];exact h.c
  ·exact .inr fun b e=>Nat.le_trans z (c b e)
def O3 (ls:List N5) (ws:List T4):Bool:=(EU ls).isSome && (decide ((F2 ls).length=ws.length) && N7 (ws.map pv) (F2 ls))
theorem GN.ad {w:World} {v:Value} {ls:List N5} (h:GN w v ls) {i:Nat} (d:i<ls.length):∃ad c k,v= .slice (some ad) c k:=by
 obtain ⟨_,a,cap,rfl,_,_,b,_⟩:=h.sl
 cases a with
 |none=>have:=b rfl;omega
 |some ad=>exact ⟨_,_,_,rfl⟩
theorem GN.cell {w:World} {v:Value} {ls:List N5} (h:GN w v ls) {i:Nat} (a:i<ls.length):(HT N5.cells ls)[i*5+0]? =some (b8 ls[i].k)∧(HT N5.cells ls)[i*5+2]? =some ls[i].y:=by
 obtain ⟨q,e,c⟩:=h.cells a 0 (by decide)
 obtain ⟨r,g,d⟩:=h.cells a 2 (by decide)
 have b:b8 ls[i].k=q:=Option.some.inj e
 have f:ls[i].y=r:=Option.some.inj g
 exact ⟨by rw [b];exact c,by rw [f];exact d⟩
theorem QT (v u:Value) (A i:Nat) (ls:List N5) (t:T4) (W:World) (f:AK W A 27 [v,u]) (h:GN W v ls) (j:i<ls.length) (e:t.at W):
  AO prog 142 [.int .i64 (i:Int),t.v, .pointer (some ⟨A,0,none⟩)] W (fun r w' =>r= .bool (La (pv t) ls[i].s)∧Below W.heap.size W w'):=by
 have k:=Below.refl W.heap.size W
 have o:=h.ad j
 have m:=(h.cell j).2
 have l:=(h.each _ (getElem_mem j)).s
 refine A5 (n:=20) func142 O<|Ah<|Cv (cs:=[t.x,t.y]) O O O ?_
 rintro y w p s d -
 have k:=k.bs d
 have h:=h.bs d
 have e:=e.bs d
 have f:=f.bs d
 have l:=l.bs d
 refine Ab O<|Ak<|Ap ?_
 rename World=>b
 refine Cw.any mixed (fun z c _=> ?_)
 refine Dc (fun w' =>Below b.heap.size b w') (fun C=> ?_) (c)
 refine B8 (Az Bp)<|Aj 0 O (fun b a=>Bu (M9 _) (Mg _) O O (AK.bs ‹_› a)) O<|Br ?_
 refine AR.only ‹_› (i:=1) (by kernel_rfl) O ?_
 refine Ai O O (NO t.x t.y t.s t.l z (e.bs c).1 (e.bs c).2) ?_
 rintro _ x ⟨rfl,d⟩
 have c:=bt c d
 refine AR.back<|B8 (Az Bp)<|Aj 2 O (fun b a=>Bt O) O<|Br ?_
 refine AR.part 8 O ?_ ?_
 ·intro g
  refine C9 (i:=3) (dj:=8) (Az Bp) O O O (by kernel_rfl) (by kernel_rfl) (by kernel_rfl) (fun b a=>Cr underlying75 O (BQ _)) O<|C9 (i:=4) (dj:=8) (Az Bp) O O O (by kernel_rfl) (by kernel_rfl) (by kernel_rfl) (fun b a=>An (BA _) O (AK.bs ‹_› a) O) O<|C9 (i:=5) (dj:=8) (Az Bp) O O O (by kernel_rfl) (by kernel_rfl) (by kernel_rfl) (fun b a=>Cr underlying27 O (BZ _)) O<|C9 (i:=6) (dj:=8) (Az Bp) O O O (by kernel_rfl) (by kernel_rfl) (by kernel_rfl) (fun b a=>Cr underlying24 O (BW _)) O<|C9 (i:=7) (dj:=8) (Az Bp) O O O (by kernel_rfl) (by kernel_rfl) (by kernel_rfl) (fun b a=>An (DH _) O (AK.bs ‹_› a) O) O<|C9 (i:=8) (dj:=8) (Az Bp) O O O (by kernel_rfl) (by kernel_rfl) (by kernel_rfl) (fun b a=>Bt O) O<|C9 (i:=9) (dj:=8) (Az Bp) O O O (by kernel_rfl) (by kernel_rfl) (by kernel_rfl) (fun b a=>Dx BX O O (h.sl.bs a) i O j) O<|C9 (i:=10) (dj:=8) (Az Bp) O O O (by kernel_rfl) (by kernel_rfl) (by kernel_rfl) (fun b a=>Eb (q:=0) underlying79 O (BQ _) O o) O<|C9 (i:=11) (dj:=8) (Az Bp) O O O (by kernel_rfl) (by kernel_rfl) (by kernel_rfl) (fun b a=>Ex.ld (BA _) O (h.sl.bs a) m) O<|AR.only ‹_› (i:=12) (by kernel_rfl) O ?_
  refine Af (dj:=8) O O<|Ai O O (FX t.x ls[i].y t.s ls[i].s x (e.bs c).1 (l.bs c)) ?_
  rintro _ B ⟨rfl,d⟩
  have c:=bt c d
  refine AR.back<|B8 (Az Bp)<|Aj 13 O (fun b a=>Dg O O) O<|Aj 14 O (fun b a=>B0 O) O<|Br<|AR.done ‹_› (by kernel_rfl) ?_
  refine A3<|Cc<|El<|Am O O ?_
  exact ⟨cngA Value.bool (show decide (t.s=ls[i].s)=(Px t.s t.l && decide (t.s=ls[i].s)) by rw [g];rfl),bt k c⟩
 intro g
 refine C5 (i:=3) (dj:=8) (Az Bp) O O O O (by kernel_rfl) (by kernel_rfl) (by kernel_rfl) O<|C5 (i:=4) (dj:=8) (Az Bp) O O O O (by kernel_rfl) (by kernel_rfl) (by kernel_rfl) O<|C5 (i:=5) (dj:=8) (Az Bp) O O O O (by kernel_rfl) (by kernel_rfl) (by kernel_rfl) O<|C5 (i:=6) (dj:=8) (Az Bp) O O O O (by kernel_rfl) (by kernel_rfl) (by kernel_rfl) O<|C5 (i:=7) (dj:=8) (Az Bp) O O O O (by kernel_rfl) (by kernel_rfl) (by kernel_rfl) O<|C5 (i:=8) (dj:=8) (Az Bp) O O O O (by kernel_rfl) (by kernel_rfl) (by kernel_rfl) O<|C5 (i:=9) (dj:=8) (Az Bp) O O O O (by kernel_rfl) (by kernel_rfl) (by kernel_rfl) O<|C5 (i:=10) (dj:=8) (Az Bp) O O O O (by kernel_rfl) (by kernel_rfl) (by kernel_rfl) O<|C5 (i:=11) (dj:=8) (Az Bp) O O O O (by kernel_rfl) (by kernel_rfl) (by kernel_rfl) O<|C5 (i:=12) (dj:=8) (Az Bp) O O O O (by kernel_rfl) (by kernel_rfl) (by kernel_rfl) O<|B8 (Az Bp)<|Aj 13 O (fun b a=>Dw O O) O<|Aj 14 O (fun b a=>B0 O) O<|Br<|AR.done ‹_› (by kernel_rfl) ?_
 refine A3<|Cc<|El<|Am O O ?_
 exact ⟨cngA Value.bool (show false=(Px t.s t.l && decide (t.s=ls[i].s)) by rw [g];rfl),bt k c⟩
theorem RY (q u:Value) (b:List Int) (ws:List T4) (f:FuncId) (cap:List Value) (P:Nat→Bool) (w:World) (D:BG (Value.int .i64) w q b) (z:Lm w u ws)
  (L:∀i w',i<b.length→∀(h:i<ws.length),Below w.heap.size w w' →AO prog f ([]++[.int .i64 (b.getD i default),ws[i].v]++cap) w' (fun r A=>r= .bool (P i)∧Below w'.heap.size w' A)):
  AO prog 141 [q,u, .func (.func f) #[] cap.toArray] w (fun r w' =>r= .bool (decide (b.length=ws.length) && (List.range b.length).all P)∧Below w.heap.size w w'):=by
 have G:=D.le
 have H:=z.1
 refine A5 (n:=32) func141 O<|Ah<|Ab O<|Ba<|Ad O<|Aa (Ay AF O ‹_›) O ?_
 refine Ad O<|Aa (Ay Iw O ‹_›) O ?_
 refine Aa (Ct O O) O<|Ak<|Al O ?_ ?_
 ·intro g
  have g:¬b.length=ws.length:=fun e=>by rw [e] at g;simp at g
  refine Ah<|Ab O<|Bl<|Am O O ?_
  exact ⟨by rw [decide_eq_false g];rfl,Below.refl _ _⟩
 intro g
 have g:b.length=ws.length:=by simp at g;omega
 rw [decide_eq_true g,Bool.true_and]
 refine B2<|Ap<|Ah<|Ad O<|Aa (Ay AF O ‹_›) O ?_
 refine Ad O<|Ak<|Av ?_
 refine B4 (S:=Nat) (fun i=>[(1,u),(2, .func (.func f) #[] cap.toArray),(15,q),(16, .int .i64 (b.length:Int)),(17, .int .i64 (i:Int))]) (fun i w' =>i≤b.length∧(∀j,j<i→P j=true)∧Below w.heap.size w w') (fun i=>b.length - i) (0) ⟨rfl,rfl,rfl,rfl,rfl,trivial⟩ ?_ ?_
 ·exact ⟨Nat.zero_le _,fun _ h=>by omega,Below.refl _ _⟩
 rintro i U ⟨W,hall,o⟩
 have F:=D.bs o
 have k:=(z.bs o).1
 refine Ah<|B9 O<|Ak<|Ap<|Al O ?_ ?_
 ·intro C
  have c:i<b.length:=by have:=AE C;omega
  have y:i<ws.length:=by omega
  obtain ⟨a,R,t,J,K⟩:=P0 y
  have v:=(z.bs o).2 a t
  refine B2<|Ap<|Av<|Ah<|Ad O<|Aa (A8 AF O O ‹_› _ O (by omega)) O ?_
  refine Aa (Be (BD _) O ‹_› (by omega)) O ?_
  refine Ab O<|Ab O<|Au<|Ad O<|Ad O<|Aa (Dx Iw O O k i O y) O<|Aa (Et (cs:=[a.x,a.y]) (M9 _) (Mg _) O k O (by decide) (MH J K)) O<|Cu (cs:=[a.x,a.y]) J7 O O O O (fun _=>rfl) (v.one) ?_
  rintro M T E N Q I
  have l:=bt o Q
  have m:=L i T c y l
  rw [← R] at m
  refine Au<|Ad O<|Ad O<|Aa (Bu (M9 _) (Mg _) O O ‹_›) O ?_
  refine Eg (p:=[]) (q:=cap) O O O (m) ?_
  rintro _ V ⟨rfl,x⟩
  have s:=bt l x
  refine Aa (Cq O) O<|Ak<|Al O ?_ ?_
  ·intro d
   have d:P i=false:=by simpa using d
   refine Ah<|Ab O<|Aq<|Bd<|Ao<|Ao<|Bd<|Ao<|Am O O ?_
   refine ⟨?_,s⟩
   congr 1
   exact (List.all_eq_false.2 ⟨i,List.mem_range.2 c,by rw [d];decide⟩).symm
  intro d
  have d:P i=true:=by simpa using d
  refine B7<|Bb<|Cx<|Cn O (by omega)<|Ad O<|A7 ?_
  exact A3 (B1 (i+1) ⟨rfl,rfl,rfl,rfl,rfl,trivial⟩ (⟨c,fun j B=>(Nat.lt_succ_iff_lt_or_eq.1 B).elim (hall j) (fun e=>by rw [e];exact d),s⟩) (by omega))
 intro C
 have c:i=b.length:=by have:=AC C;omega
 refine Bx<|A0<|A0<|Bh<|Cl<|Ab O<|Aq<|Am O O ?_
 refine ⟨?_,o⟩
 congr 1
 exact (List.all_eq_true.2 fun j B=>hall j (by rw [c];exact List.mem_range.1 B)).symm
theorem RN (v u:Value) (ls:List N5) (ws:List T4) (W:World) (h:GN W v ls) (d:Lm W u ws):
  AO prog 41 [.agg [v,u].toArray] W (fun r w' =>r= .bool (O3 ls ws)∧Below W.heap.size W w'):=by
 have f:=Below.refl W.heap.size W
 refine A5 (n:=16) func41 O<|Ah<|Cv (cs:=[v,u]) O O O ?_
 rintro m w y b a -
 have f:=f.bs a
 have h:=h.bs a
 have d:=d.bs a
 refine Ab O<|Ba<|A6 underlying27 O (BZ _)<|Aa (Gb (ds:=[v]) (DR _) (BZ _) O O ‹_› rfl) O ?_
 refine Ai O O (Hw v ls w h) ?_
 rintro _ w ⟨a,rfl⟩
 have f:=f.bs a
 have h:=h.bs a
 have d:=d.bs a
 have b:=b.bs a
 refine Aa (Cq O) O<|Ak<|Al O ?_ ?_
 ·intro g
  have g:(EU ls).isSome=false:=by simpa using g
  refine Ah<|Ab O<|Bl<|Am O O ?_
  exact ⟨by unfold O3;rw [g];rfl,f⟩
 intro g
 obtain ⟨p,o⟩:∃p,EU ls=some p:=by
  cases e:EU ls with
  |none=>rw [e] at g;cases g
  |some p=>exact ⟨p,rfl⟩
 have x:=Mz o
 refine Ca<|A6 underlying27 O (BZ _)<|Aa (Gb (ds:=[v]) (DR _) (BZ _) O O ‹_› rfl) O ?_
 refine Ai O O (LM v ls w h (by omega)) ?_
 rintro q w ⟨a,t⟩
 have f:=f.bs a
 have h:=h.bs a
 have d:=d.bs a
 have b:=b.bs a
 have D:∀j w',j<(CT ls).length→∀(k:j<ws.length),Below w.heap.size w w' →AO prog 142 ([]++[.int .i64 ((CT ls).getD j default),ws[j].v]++[.pointer (some ⟨m,0,none⟩)]) w' (fun r w'' =>r= .bool (La ((ws.map pv).getD j ([],[])) ((F2 ls).getD j default).s)∧Below w'.heap.size w' w''):=by
  intro j w' G k a
  obtain ⟨i,c,B,z,E⟩:=N8 G
  have:=QT v u m i ls ws[j] w' (b.bs a) (h.bs a) c ((d.bs a).2 _ (getElem_mem k))
  have F:(ws.map pv).getD j ([],[])=pv ws[j]:=by rw [getD_eq_getElem?_getD,getElem?_map,getElem?_eq_getElem k];rfl
  have C:((F2 ls).getD j default).s=ls[i].s:=by
   rw [getD_eq_getElem?_getD,getElem?_eq_getElem z,Option.getD_some,E,getD_eq_getElem?_getD,getElem?_eq_getElem c];rfl
  rw [B,F,C]
  exact this
 refine Ab O<|Au<|Ad O<|A6 underlying27 O (FS _)<|Aa (An (Ll _) O ‹_› rfl) O ?_
 refine Aa (Ek (vs:=[]) O O) O<|Ai O O (RY q u (CT ls) ws 142 [.pointer (some ⟨m,0,none⟩)] (fun j=>La ((ws.map pv).getD j ([],[])) ((F2 ls).getD j default).s) w t d D) ?_
 rintro _ w ⟨rfl,a⟩
 refine Ab O<|Aq<|Am O O ?_
 refine ⟨?_,bt f a⟩
 have A:(CT ls).length=(F2 ls).length:=by rw [← JO,length_map]
 unfold O3
 rw [o,A]
 congr 1
 show _=(true && _)
 rw [Bool.true_and]
 by_cases hl:(F2 ls).length=ws.length
 ·rw [decide_eq_true hl,Bool.true_and,Bool.true_and,Bool.eq_iff_iff,Im (by rw [length_map,hl]),all_eq_true]
  constructor
  ·intro s i c
   have:=s i (List.mem_range.2 c)
   rwa [getD_eq_getElem?_getD (l:=F2 ls),getElem?_eq_getElem c] at this
  ·intro s i c
   have c:=List.mem_range.1 c
   have:=s i c
   rw [getD_eq_getElem?_getD (l:=F2 ls),getElem?_eq_getElem c]
   exact this
 ·rw [decide_eq_false hl];rfl

-- dd: text
theorem G4 (v u:Value) (c:List (List UInt8)) (ns:List Int) (W w:World) (X:HZ W) (K:Below W.heap.size W w) (h:w.ownsRow W.heap.size 9 1 v c.length (c.map st)) (N:∀w',Below W.heap.size W w' →w.grownBy w' v.ownBlock→BG (Value.int .i64) w' u ns) (Y:∀n ∈ ns, -9223372036854775808≤n∧n≤9223372036854775807) (hl:c.length+ns.length≤1000000):
  AO prog 119 [v,u] w (fun r w' =>Below W.heap.size W w' ∧w'.ownsRow W.heap.size 9 1 r (c++ns.map Lib.itoa).length ((c++ns.map Lib.itoa).map st)∧N6 w w' v r):=by
 have V:=N w K (Gi w v).g
 refine A5 (n:=20) func119 O<|Ah<|Ab O<|Ba<|Ad O<|Aa (Ay AF O ‹_›) O ?_
 refine Ad O<|Ak<|Av ?_
 refine B4 (S:=(Nat×Value)) (fun z=>[(0,z.2),(7,u),(8, .int .i64 (ns.length:Int)),(9, .int .i64 (z.1:Int))]) (fun z w' =>z.1≤ns.length∧Below W.heap.size W w' ∧w'.ownsRow W.heap.size 9 1 z.2 (c++(ns.take z.1).map Lib.itoa).length ((c++(ns.take z.1).map Lib.itoa).map st)∧N6 w w' v z.2) (fun z=>ns.length - z.1) ((0,v)) ⟨rfl,rfl,rfl,rfl,trivial⟩ ?_ ?_
 ·exact ⟨Nat.zero_le _,K,by simpa using h,Gi w v⟩
 rintro ⟨i,y⟩ p ⟨U,k,l,m⟩
 dsimp only at U l m ⊢
 have R:=N p k m.g
 have J:HZ p:=X.bs k
 have zB:=k.size
 refine Ah<|B9 O<|Ak<|Ap<|Al O ?_ ?_
 ·intro g
  have a:i<ns.length:=by have:=AE g;omega
  have G:=Y (ns.getD i default) (by rw [getD_eq_getElem?_getD,getElem?_eq_getElem a];exact getElem_mem a)
  obtain ⟨x,s⟩:∃x,x=ns.getD i default:=⟨_,rfl⟩
  rw [← s] at G
  have M:(ns.take (i+1)).map Lib.itoa=(ns.take i).map Lib.itoa++[Lib.itoa x]:=by
   rw [take_succ_eq_append_getElem a,map_append,s,getD_eq_getElem?_getD,getElem?_eq_getElem a];rfl
  refine B2<|Ap<|Av<|Ah<|Aa (A8 AF O O ‹_› _ O (by omega)) O ?_
  refine Aa (Be (BD _) O ‹_› (by omega)) O ?_
  refine Ab O<|Ak<|A4<|Ad O<|Ad O ?_
  rw [← s]
  refine Ai O O (QV x p J G.1 G.2) ?_
  rintro _ w2 ⟨rfl,f⟩
  have z2:=f.size
  have H:=AG l f
  have I:=m.bs f
  refine Ar (Ch (vs:=[Lib.itoa x].map st) BR Jp O O O O O) O ?_
  rintro q w3 ⟨E, -,d, -⟩
  have z3:=d.size
  have t:=AG H d
  have B:=I.bs d
  refine Ar (Co (base:=W.heap.size) BR Jp O (by decide) O O t (AH E) (Iv _) (by simp;omega) (by simp;omega) (by omega)) O ?_
  rintro L w4 ⟨j,o,A,F⟩
  have D:=B.app A (F.imp id fun e b (T:L.ownBlock=some b)=>Nat.le_of_eq (Option.some.inj (e.symm.trans T)))
  have C:=((k.trans (f.mono (by omega))).trans (d.mono (by omega))).trans o
  have Q:(c++(ns.take i).map Lib.itoa).map st++[Lib.itoa x].map st=(c++(ns.take (i+1)).map Lib.itoa).map st:=by rw [M,← map_append,append_assoc]
  have Z:(c++(ns.take i).map Lib.itoa).length+1=(c++(ns.take (i+1)).map Lib.itoa).length:=by rw [M,← append_assoc,length_append (bs:=[_])];rfl
  rw [Q,Z] at j
  refine Ab O<|A7<|Bb<|Cx<|Cn O (by omega)<|Ad O<|A7 ?_
  exact A3 (B1 ((i+1,L)) ⟨rfl,rfl,rfl,rfl,trivial⟩ (⟨a,C,j,D⟩) (by simp only;omega))
 intro g
 have a:i=ns.length:=by have:=AC g;omega
 subst a
 rw [take_length] at l
 exact Bx<|A0<|A0<|Bh<|Cl<|Ad rfl<|Ab rfl<|Aq<|Am rfl rfl<|⟨k,l,m⟩
def Rw.shaped (r:Rw):Bool:=decide (r.least=0)||decide (r.nxt=[116,111])
theorem K6 (r:Rw) (w:World):AO prog 120 [.agg r.cells.toArray] w (fun v w' =>v= .bool r.shaped∧Below w.heap.size w w'):=by
 have a:=Below.refl w.heap.size w
 refine A5 (n:=11) func120 O<|Ah<|Cv (cs:=r.cells) O O O ?_
 rintro d w b c f -
 have a:=a.bs f
 refine Ab O<|Au<|A6 underlying125 O (BU _)<|Aa (An (BD _) O ‹_› rfl) O ?_
 refine Aa (Ce O O) O<|Ad O ?_
 refine Bw 6 O ?_ ?_
 ·intro g
  have g:r.least=0:=by have:=AE g;omega
  refine Ae (dj:=6) O O O O<|Ae (dj:=6) O O O O<|Ae (dj:=6) O O O O<|Bi O<|Ab O<|Aq<|Am O O ?_
  exact ⟨by unfold Rw.shaped;rw [decide_eq_true g];rfl,a⟩
 intro g
 have g:¬r.least=0:=fun e=>by have:=AC g;omega
 refine Af (dj:=6) O O<|A6 underlying125 O (Ha _)<|Af (dj:=6) O O<|Aa (An (FH _) O ‹_› rfl) O ?_
 refine Af (dj:=6) O O<|Aa (D5 O O) O<|B6 O<|Ab O<|Aq<|Am O O ?_
 exact ⟨by unfold Rw.shaped;rw [decide_eq_false g];rfl,a⟩
end Go.Proofs.YtblbopcaflaldaaGreatDoor

namespace Go.Proofs.YtblbopcaflaldaaGreatDoor
open Go Go.Dd Go.RowKit List
set_option maxRecDepth 100000



def cn (i:Int):List Int→Nat
 |[]=>0
 |x::l=>(if x=i then 1 else 0)+cn i l
def fl (m:Int):List Int→Nat
 |[]=>0
 |x::l=>(if 0≤x∧x<m then 1 else 0)+fl m l
theorem JH (i:Int):∀a b:List Int,cn i (a++b)=cn i a+cn i b
 |[],b=>by simp [cn]
 |x::a,b=>by simp only [cons_append,cn];rw [JH i a b];omega
theorem LR {i:Int}:∀{l:List Int},i ∈ l→1≤cn i l
 |x::l,h=>by
  simp only [cn]
  rcases List.mem_cons.1 h with rfl|h
  ·rw [if_pos rfl];omega
  ·have:=LR h;omega
theorem Ig (m:Nat):∀l:List Int,fl ((m+1:Nat):Int) l=fl (m:Int) l+cn (m:Int) l
 |[]=>rfl
 |x::l=>by
  simp only [fl,cn]
  rw [Ig m l]
  split<;>split<;>split<;>omega
theorem M3:∀l:List Int,fl 0 l=0
 |[]=>rfl
 |x::l=>by
  simp only [fl]
  rw [M3 l,if_neg (by omega)]
theorem OR (m:Int):∀l:List Int,fl m l≤l.length
 |[]=>AQ _
 |x::l=>by
  have:=OR m l
  simp only [fl,length_cons]
  split<;>omega
theorem OS {m:Int}:∀{l:List Int},fl m l=l.length→∀x ∈ l,0≤x∧x<m
 |[],_,x,a=>by simp at a
 |y::l,h,x,a=>by
  have:=OR m l
  simp only [fl,length_cons] at h
  by_cases g:0≤y∧y<m
  ·rw [if_pos g] at h
   rcases List.mem_cons.1 a with rfl|a
   ·exact g
   ·exact OS (by omega) x a
  ·rw [if_neg g] at h;omega
theorem Rl {l:List Int} (h:∀i:Nat,i<l.length→cn (i:Int) l=1):Hk l=true:=by
 have e:∀m:Nat,m≤l.length→fl (m:Int) l=m:=fun m=>by
  induction m with
  |zero=>intro _;exact M3 l
  |succ m ih=>intro d;rw [Ig,ih (by omega),h m (by omega)]
 have a:=OS (e l.length (AQ _))
 refine HD.2 fun j b=> ?_
 have d:l.getD j default ∈ l:=by simp [b]
 have c:=a _ d
 unfold Ou
 rw [decide_eq_true c.1,decide_eq_true c.2]
 cases hc:(l.take j).contains (l.getD j default) with
 |false=>rfl
 |true=>
  have f:l.getD j default ∈ l.take j:=by simpa using hc
  have o:=LR f
  have k:cn (l.getD j default) (l.drop j)=1+cn (l.getD j default) (l.drop (j+1)):=by
   rw [drop_eq_getElem_cons b]
   simp [cn,b]
  have n:cn (l.getD j default) l=cn (l.getD j default) (l.take j)+cn (l.getD j default) (l.drop j):=by rw [← JH,take_append_drop]
  have g:=h (l.getD j default).toNat (by omega)
  rw [Int.toNat_of_nonneg c.1] at g
  omega
theorem J8 (i:Nat):∀n,OF (fun x=>if x=i then 1 else 0) n=if i<n then 1 else 0
 |0=>rfl
 |n+1=>by
  simp only [OF]
  rw [J8 i n]
  split<;>split<;>split<;>omega
theorem M6 (i:Nat):∀{l:List Int},(∀x ∈ l,0≤x)→(cn (i:Int) l:Int)=Hp (fun x=>if x=i then 1 else 0) (QR l)
 |[],_=>rfl
 |x::l,h=>by
  have c:=h x (by simp)
  have a:=M6 i (l:=l) fun y b=>h y (by simp [b])
  simp only [QR] at a ⊢
  simp only [map_cons,Hp,cn]
  rw [← a]
  by_cases g:x=(i:Int)
  ·rw [if_pos g,if_pos (by omega)];omega
  ·rw [if_neg g,if_neg (by omega)];omega
theorem QQ {l:List Int} (h:Hk l=true) (b:l.length≤4) {i:Nat} (d:i<l.length):cn (i:Int) l=1:=by
 have c:∀x ∈ l,0≤x:=fun x f=>by
  obtain ⟨j,a,e⟩:=getElem_of_mem f
  have:=(I6 h a).1
  rwa [show l.getD j default=x by simp [a,e]] at this
 have e:=M6 i c
 rw [MW (Ot h b),IC,J8,if_pos d] at e
 omega
end Go.Proofs.YtblbopcaflaldaaGreatDoor

namespace Go.Dd
open Go Go.RowKit
open List hiding get
section
variable {P : Program} {Q : BB} {n : Nat} {E : BM} {w : World} {ty t s e : TypeId} {x y : Operand} {a b : ByteArray} {u v z : Value}
theorem Pw.ret3 {d:Func} {R:Value→World→Prop} {p q r:Nat} (i:d.results= #[.tmp p, .tmp q, .tmp r]) (f:get E p=some u) (g:get E q=some v) (j:get E r=some z) (h:R (.tuple #[u,v,z]) w):Pw n E (N4 P d R .ret) w:=fun a c=>
 bodyPost_ret (v:= .tuple #[u,v,z]) (by rw [results_tmp3 i];simp [Array.getD_eq_getD_getElem?,c.has _ _ f,c.has _ _ g,c.has _ _ j]) c.dfr ⟨_,rfl,h⟩
theorem I1 {j:Func} {p q r:Tmp} {c:TypeId} (h:j.results= #[.cell p c, .tmp q, .tmp r]) (tmps:Array Value) (w:World) (g:Nat) (i:TypeId) (cs:Array Value) (k:Nat×Nat) (d:TypeDesc)
  (m:tmps.getD p undef= .pointer (some ⟨g,0,none⟩)) (A:w.heap[g]? =some (.cells cs i k))
  (o:P.underlying c=some d) (l:(match d with| .struct _| .array _ _=>true|_=>false)=true) (B:(P.info? c).map (·.size)=some cs.size):
  (results j tmps).run P w= .ok (.tuple #[.agg cs,tmps.getD q undef,tmps.getD r undef]) w:=by
 have f:tmps[p]?.getD undef= .pointer (some ⟨g,0,none⟩):=by simpa using m
 simp [results,h,f,asAddr,run_loadVar_row w g i c cs k d A o l B]
theorem Ef {f:Func} {R:Value→World→Prop} {p q r b k:Nat} {T:TypeId} {cs:List Value} {d:TypeDesc} (m:f.results= #[.cell p e, .tmp q, .tmp r]) (i:get E p=some (.pointer (some ⟨b,0,none⟩))) (l:get E q=some u) (C:get E r=some v) (A:AK w b T cs)
  (o:P.underlying e=some d) (g:(match d with| .struct _| .array _ _=>true|_=>false)=true) (B:(P.info? e).map (·.size)=some k) (j:cs.length=k) (h:R (.tuple #[.agg cs.toArray,u,v]) w):Pw n E (N4 P f R .ret) w:=fun a c=>by
 subst j
 have:=I1 m a.tmps w b T cs.toArray (0,0) d (by simp [Array.getD_eq_getD_getElem?,c.has _ _ i]) A o g (by simpa using B)
 rw [show a.tmps.getD q undef=u by simp [Array.getD_eq_getD_getElem?,c.has _ _ l],show a.tmps.getD r undef=v by simp [Array.getD_eq_getD_getElem?,c.has _ _ C]] at this
 exact bodyPost_ret this c.dfr ⟨_,rfl,h⟩
end
end Go.Dd

namespace Go.Proofs.YtblbopcaflaldaaGreatDoor
open Go Go.Dd Go.RowKit List
set_option maxRecDepth 100000
theorem Qu {l:List Int}:∀m:Nat,(∀i:Nat,i<m→1≤cn (i:Int) l)→m≤fl (m:Int) l
 |0,_=>Nat.zero_le _
 |m+1,h=>by
  have:=Qu m fun i a=>h i (by omega)
  have:=h m (by omega)
  rw [Ig];omega
theorem Qt {l:List Int} {j:Nat} (a:2≤cn (j:Int) l):∀m:Nat,j<m→(∀i:Nat,i<m→1≤cn (i:Int) l)→m+1≤fl (m:Int) l
 |0,h,_=>by omega
 |m+1,h,hh=>by
  rw [Ig]
  by_cases e:j=m
  ·have:=Qu m fun i b=>hh i (by omega)
   rw [← e] at this ⊢;omega
  ·have:=Qt a m (by omega) fun i b=>hh i (by omega)
   have:=hh m (by omega)
   omega
theorem M5 {i:Int}:∀{l:List Int},i ∉ l→cn i l=0
 |[],_=>rfl
 |x::l,h=>by
  simp only [cn]
  rw [M5 fun a=>h (mem_cons_of_mem _ a),if_neg fun e=>h (by rw [e];simp)]
theorem KV (s:List Int):IP s=(decide (s.length≤4) && Hk s):=by
 unfold IP
 by_cases h4:s.length≤4
 ·rw [decide_eq_true h4,Bool.and_true,Bool.true_and,Bool.eq_iff_iff]
  constructor
  ·intro c
   have d:∀i:Nat,i<s.length→1≤cn (i:Int) s:=fun i a=>LR (by simpa using H1.1 c i a)
   refine Rl fun i a=> ?_
   have h:=d i a
   by_cases e:2≤cn (i:Int) s
   ·have:=Qt e s.length a d
    have:=OR (s.length:Int) s
    omega
   ·omega
  ·intro f
   refine H1.2 fun j g=> ?_
   have:=QQ f h4 g
   cases c:s.contains (j:Int) with
   |true=>rfl
   |false=>
    exfalso
    have b:(j:Int) ∉ s:=by simpa using c
    have k:cn (j:Int) s=0:=M5 b
    omega
 ·rw [decide_eq_false h4];simp

def AP (k:BitVec 8):Rw:=(GY.find? fun r=>decide (r.k=k.toNat)).getD ⟨0,[],0,0,[],[]⟩
def BY (r:Rw) (x:N5):List (List UInt8):=
 [r.word]++x.i.map Lib.itoa++(if r.nxt=[] then [] else [r.nxt])++(if r.shaped then x.s.map Lib.itoa else if r.nxt=[] then [] else [Lib.itoa x.n])++(if r.last=[] then [] else [r.last,Lib.itoa x.p])
def Hq (x:N5):List UInt8:=Lib.join (BY (AP x.k) x) [32]++[10]
def AX (ls:List N5):List UInt8:=(ls.map Hq).flatten
def GH (ls:List N5):Int:=if (EU ls).isSome then 0 else 1
def GG (ls:List N5):List UInt8:=if (EU ls).isSome then AX ls else []
theorem PA:∀k:BitVec 8,(CI k).isSome=true→AP k ∈ GY∧((AP k).k:Int)=(k.toNat:Int):=by decide+kernel
theorem K9:∀r ∈ GY,∀q ∈ GY,r.k=q.k→r=q:=by decide+kernel
theorem Oc {k:BitVec 8} (h:(CI k).isSome=true):RD (b8 k) (.agg (AP k).cells.toArray)∧∀v,RD (b8 k) v→v= .agg (AP k).cells.toArray:=by
 obtain ⟨a,d⟩:=PA k h
 refine ⟨⟨AP k,a,by rw [d],rfl⟩,fun v ⟨q,b,c,e⟩=> ?_⟩
 have:(k.toNat:Int)=(q.k:Int):=by injection c
 rw [e,K9 (AP k) a q b (by omega)]
structure DN (x:N5):Prop where
 kd:(CI x.k).isSome=true
 ii:∀j ∈ x.i,0≤j∧j≤65536
 ss:∀d ∈ x.s,0≤d∧d≤65536
 nn:0≤x.n∧x.n≤64
 pp:0≤x.p∧x.p≤64
 il:((AP x.k).least:Int)≤x.i.length∧x.i.length≤4
 sl:x.s.length≤4
 s0:(AP x.k).shaped=false→x.s=[]
 n0:((AP x.k).nxt=[]∨(AP x.k).shaped=true)→x.n=0
 p0:(AP x.k).last=[]→x.p=0
 im:(x.i.length:Int)≤(AP x.k).most
theorem PF {s:List Int} (h:Hk s=true) (c:s.length≤4):∀d ∈ s,0≤d∧d≤65536:=fun d b=>by
 obtain ⟨j,a,rfl⟩:=List.mem_iff_getElem.1 b
 have:=I6 h a
 rw [getD_eq_getElem?_getD,getElem?_eq_getElem a] at this
 simp only [Option.getD_some] at this
 omega
theorem QJ:∀k:BitVec 8,(match CI k with
  |some [a,b,c,d,e,f]=>decide (((AP k).least:Int)=a) && decide (b≤(AP k).most) && decide (b≤4) && decide (0≤c) && decide (d≤64) && decide (e≤64) && (decide (f=0)||(AP k).shaped) && (!(decide ((AP k).nxt=[])||(AP k).shaped)||(decide (c=0) && decide (d=0))) && (!decide ((AP k).last=[])||decide (e=0))
  |_=>true)=true:=by decide+kernel
theorem PJ {x:N5} (h:DQ x.k x.i x.s x.n x.p=true) (s:∀j ∈ x.i,0≤j∧j≤65536):DN x:=by
 unfold DQ at h
 have l:=QJ x.k
 cases i:CI x.k with
 |none=>rw [i] at h;cases h
 |some r=>
  obtain ⟨_,_,t⟩:=Kc i
  obtain ⟨a,b,c,d,e,f,rfl⟩:=NW t
  rw [i] at h l
  simp only [Bool.and_eq_true,Bool.or_eq_true,Bool.not_eq_true',decide_eq_true_eq] at l
  obtain ⟨⟨⟨⟨⟨⟨⟨⟨u,E⟩,w⟩,F⟩,z⟩,D⟩,o⟩,n⟩,p⟩:=l
  obtain ⟨⟨y,G,A,C,B,v⟩,g⟩:=HG.1 h
  refine ⟨by rw [i];rfl,s, ?_,by omega,by omega,by omega, ?_,fun m=> ?_,fun k=> ?_,fun q=> ?_,by omega⟩
  ·split at g
   ·intro d i
    rw [eq_nil_of_length_eq_zero (AE g)] at i
    cases i
   ·split at g
    ·intro d i
     have:=((Shapes.ok_iff _).1 g).2.1 d i
     omega
    ·rw [KV,Bool.and_eq_true,decide_eq_true_eq] at g
     exact PF g.2 g.1
  ·split at g
   ·have:=AE g
    omega
   ·split at g
    ·exact ((Shapes.ok_iff _).1 g).1.2
    ·rw [KV,Bool.and_eq_true,decide_eq_true_eq] at g
     exact g.1
  ·rcases o with e|e
   ·rw [if_pos e] at g
    exact eq_nil_of_length_eq_zero (AE g)
   ·rw [e] at m;cases m
  ·rcases n with e|e
   ·simp only [Bool.or_eq_false_iff,decide_eq_false_iff_not] at e
    rcases k with k|k
    ·exact absurd k e.1
    ·rw [e.2] at k;cases k
   ·omega
  ·rcases p with e|e
   ·exact absurd q (by simpa using e)
   ·omega
end Go.Proofs.YtblbopcaflaldaaGreatDoor

namespace Go.Dd
open Go Go.RowKit
open List hiding get
def H6 (P:Program) (f:FuncId) (args:List Value) (w:World) (pv:Value) (R:Value→World→Prop) (K:World→Prop):Prop:=
 (∃ fn, P.funcs[f]? = some fn ∧ (fn.name == "runtime.NumGoroutine") = false ∧ fn.body.isSome = true) ∧ Calls P f args.toArray w (fun e w' => (∃ v, e = .returned v ∧ R v w') ∨ (e = .panicked [{ v := pv, recovered := false }] ∧ K w'))
def Mc (P:Program) (fn:Func) (pv:Value) (R:Value→World→Prop) (K:World→Prop):BB:=bodyPost P fn (fun e w' =>(∃v,e= .returned v∧R v w')∨(e= .panicked [{v:=pv,recovered:=false}]∧K w'))
section
variable {P : Program} {Q : BB} {n : Nat} {E : BM} {w : World} {l0 rest : List Oper} {ty : TypeId} {pos : String} {af : Array Edge} {x : Operand} {pv : Value}
theorem H6.mono {f:FuncId} {args:List Value} {R c:Value→World→Prop} {K d:World→Prop} (h:H6 P f args w pv R K) (g:∀v w',R v w' →c v w') (e:∀w',K w' →d w'):H6 P f args w pv c d:=
 ⟨h.1,h.2.mono fun _ _ q=>q.imp (fun ⟨v,b,a⟩=>⟨v,b,g _ _ a⟩) (fun ⟨b,a⟩=>⟨b,e _ a⟩)⟩
theorem Dk {f : FuncId} {b : Func} {c : Code} {args : List Value} {R : Value → World → Prop} {K : World → Prop} (g : P.funcs[f]? = some b) (a : (b.name == "runtime.NumGoroutine") = false) (j : b.body = some c)
  (m:b.ntmps=n) (l:Nat.ble args.length n=true) (h:Cw P (Mc P b pv R K) n c (params 0 args) w):H6 P f args w pv R K:=by
 refine ⟨⟨b,g,a,by simp [j]⟩,calls_of_wp g j (h _ ⟨rfl, ?_,fun i v k=> ?_⟩)⟩
 ·have:args.length≤n:=Nat.le_of_ble_eq_true l
  simp [m];omega
 ·have e:=(CO args 0 i v k).2
  simp only [Nat.sub_zero] at e
  have d:i<args.length:=by
   rcases Nat.lt_or_ge i args.length with h|h
   ·exact h
   ·simp [getElem?_eq_none h] at e
  rw [Array.getElem?_append]
  simp only [size_toArray,d,if_true,getElem?_toArray]
  exact e
theorem E2 {c:Func} {R:Value→World→Prop} {K:World→Prop} {t:Nat} {v:Value} (e:c.results= #[.tmp t]) (d:get E t=some v) (h:R v w):Pw n E (Mc P c pv R K .ret) w:=fun a b=>
 bodyPost_ret (v:=v) (by rw [results_tmp e];simp [Array.getD_eq_getD_getElem?,b.has _ _ d]) b.dfr (.inl ⟨v,rfl,h⟩)
theorem Pw.ret0q {a:Func} {R:Value→World→Prop} {K:World→Prop} (c:a.results= #[]) (h:R (.tuple #[]) w):Pw n E (Mc P a pv R K .ret) w:=fun _ b=>
 bodyPost_ret (v:= .tuple #[]) (by rw [results_none c]) b.dfr (.inl ⟨_,rfl,h⟩)
theorem Fl {a:Func} {R:Value→World→Prop} {K:World→Prop} (c:a.results= #[]) (h:R (.tuple #[]) w):Pw n E (Mc P a pv R K .normal) w:=fun _ b=>
 bodyPost_end (v:= .tuple #[]) (by rw [results_none c]) b.dfr (.inl ⟨_,rfl,h⟩)
theorem Cj {b:Func} {R:Value→World→Prop} {K:World→Prop} (h:K w):Pw n E (Mc P b pv R K (.panic [{v:=pv,recovered:=false}])) w:=fun _ a=>⟨a.dfr, .inr ⟨rfl,h⟩⟩
theorem Df {b:Func} {R:Value→World→Prop} {K:World→Prop}:AJ (Mc P b pv R K):=fun _ a _ o v h=>by
 cases o with
 |none=>exact h
 |some d=>exact h
theorem Bc {K:Act→World→Prop} {c:List PanicEntry} (h:Pw n E (Q (.panic c)) w):Pw n E (BN K Q (.panic c)) w:=h
theorem C2 {a:Nat} {c:List PanicEntry} (h:Pw n E (Q (.panic c)) w):Pw n E (G2 a Q (.panic c)) w:=h
theorem Lw.callQ {d:Nat} {i:Op} {f:FuncId} {vs:List Value} {R:Value→World→Prop} {K:World→Prop} (h:Xc P n E i ty w f vs) (j:Nat.blt d n=true) (l:H6 P f vs w pv R K)
  (m:∀w',K w' →Pw n E (Q (.panic [{v:=pv,recovered:=false}])) w') (k:∀v w',R v w' →Lw P l0 Q n rest ((d,v)::E) w'):Lw P l0 Q n (⟨some d,i,ty,pos,af,none⟩::rest) E w:=
 fun a c=>wpList_plain rfl fun o g=>by
  unfold Oper.wp
  rw [h a c]
  refine l.2.mono fun e w' q=> ?_
  rcases q with ⟨v,rfl,b⟩|⟨rfl,b⟩
  ·exact g _ _ (k v w' b _ (c.put v j))
  ·exact m w' b a c
theorem Cf {d:Nat} {f:FuncId} {xs:List Operand} {vs:List Value} {ts:Array TypeId} {R:Value→World→Prop} {K:World→Prop} (c:evs E xs=some vs) (b:Nat.blt d n=true) (a:H6 P f vs w pv R K)
  (e:∀w',K w' →Pw n E (Q (.panic [{v:=pv,recovered:=false}])) w') (k:∀v w',R v w' →Lw P l0 Q n rest ((d,v)::E) w'):Lw P l0 Q n (⟨some d, .call {callee:= .value (.func f),args:=xs.toArray,argTypes:=ts},ty,pos,af,none⟩::rest) E w:=
 Lw.callQ (Xc.mk a.1 c) b a e k
theorem Du {T:TypeId} {d:Array Field} {v:Value} (c:P.underlying T=some (.struct d)) (e:ev E x=some v):Ex P n E (.makeInterface T x) ty w (.iface T v):=fun a b _ _ _ _=>by
 simp [execOp,b.ev e,Instr.makeInterface,run_underlying c]
theorem D1 {d:Option Nat} {T:TypeId} {v:Value} (c:ev E x=some (.iface T v)) (h:Pw n E (Q (.panic [{v:= .iface T v,recovered:=false}])) w):Lw P l0 Q n (⟨d, .panic x,ty,pos,af,none⟩::rest) E w:=
 fun a b=>wpList_plain rfl fun f _=>by
  unfold Oper.wp
  have e:(execOp a.eval ⟨d, .panic x,ty,pos,af,none⟩).run P w= .halt (.panic (.iface T v)) w:=by simp [execOp,b.ev c,Instr.panic]
  rw [e]
  exact h a b
end
end Go.Dd

namespace Go.Proofs.YtblbopcaflaldaaGreatDoor
open Go Go.Dd Go.RowKit List Go.Proofs.Tryz
set_option maxRecDepth 100000
def LU:Value:= .iface 106 (.agg #[])
structure JM (W w:World) (A:Nat) (v:Value) (l:List (BitVec 8)):Prop where
 sl:BG b8 W v l
 bel:Below W.heap.size W w
 lo:W.heap.size≤A
 cell:AK w A 99 [v]
theorem JV (W w:World) (A n:Nat) (v:Value) (l:List (BitVec 8)) (i:JM W w A v l):
  H6 prog 57 [.pointer (some ⟨A,0,none⟩), .int .i64 (n:Int)] w LU
   (fun r w' =>n≤l.length∧w.grownBy w' (some A)∧w'.heap.size=w.heap.size∧BG b8 W r (l.take n)∧∃v',JM W w' A v' (l.drop n)) (fun w' =>l.length<n∧w' =w):=by
 obtain ⟨a,e,d,b⟩:=i
 have h:=a.bs e
 refine Dk (n:=31) func57 (by kernel_rfl) O O O<|Ah<|Ab O<|Ba<|Ad O<|Ad O<|Aa (Cb O) O<|A6 underlying99 O (Jt _)<|Aa (An (GP _) O ‹_› rfl) O ?_
 refine Aa (Ay AV O ‹_›) O ?_
 refine Aa (C1 O O) O<|Ak<|Al O ?_ ?_
 ·intro g
  have g:=AE g
  refine A4<|Aa (Bg (vs:=[]) (cs:=[]) O (by kernel_rfl)) O<|Aa (Du underlying106 O) O ?_
  refine D1 O (Bc (Cj (⟨by omega,rfl⟩)))
 intro g
 have g:=AC g
 have c:n≤l.length:=by omega
 refine Ca<|Ad O<|Aa (Cb O) O<|A6 underlying99 O (Jt _)<|Aa (An (GP _) O ‹_› rfl) O ?_
 refine Ad O<|Aa (E8 AV O O ‹_› (by omega)) O ?_
 refine Ab O<|Au<|Ad O<|Ad O<|Aa (Cb O) O<|A6 underlying99 O (Jt _)<|Aa (An (GP _) O ‹_› rfl) O ?_
 refine Ad O<|Aa (Fi AV O O ‹_› (by omega)) O ?_
 refine Aa (Cb O) O<|A6 underlying99 O (Jt _)<|Ax (B5 (Jt _) O O (a.drop c).one' b (show 0<1 by omega)) ?_
 rintro w ⟨b,f,j⟩
 refine Au<|Ad O<|Ab O<|Aq<|E2 O O ?_
 exact ⟨c,f,j,a.take c,_,⟨a.drop c,e.grown f (AA e) (by rintro _ ⟨⟩;omega),d,b⟩⟩
theorem JM.le {W w:World} {A:Nat} {v:Value} {l:List (BitVec 8)} (h:JM W w A v l):l.length≤9223372036854775807:=h.sl.le
theorem Od (W w:World) (A:Nat) (v:Value) (l:List (BitVec 8)) (g:JM W w A v l):
  H6 prog 52 [.pointer (some ⟨A,0,none⟩)] w LU
   (fun r w' =>1≤l.length∧w.grownBy w' (some A)∧w'.heap.size=w.heap.size∧r= .int .i64 ((l.getD 0 default).toNat:Int)∧∃v',JM W w' A v' (l.drop 1)) (fun w' =>l.length<1∧w' =w):=by
 refine Dk (n:=8) func52 (by kernel_rfl) O O O<|Ah<|Ab O<|Au<|Ad O<|Cf O O (JV W w A 1 v l g) (fun w' h=>Bc (Cj (h))) ?_
 rintro r k ⟨f,i,j,d,v',c⟩
 have e:=d.bs c.bel
 have a:0<(l.take 1).length:=by rw [length_take];omega
 have a:0<(l.take 1).length:=by rw [length_take];omega
 refine Aa (Gc AV O O e.shp 0 O a) O<|Aa (Be (LY _) O ‹_› (by omega)) O ?_
 refine Aa (Fp MG H7 O) O<|Ab O<|Aq<|E2 O O ?_
 refine ⟨f,i,j, ?_,v',c⟩
 cases l with
 |nil=>simp at f
 |cons b t=>rfl
def EL (t:List (BitVec 8)):List Int:=t.map fun b=>(b.toNat:Int)
theorem HI (t:List (BitVec 8)):(EL t).length=t.length:=length_map ..
theorem LK {t:List (BitVec 8)} {i:Nat} (a:i<t.length):EL (t.take (i+1))=EL (t.take i)++[((t.getD i default).toNat:Int)]:=by
 unfold EL
 rw [take_succ_eq_append_getElem a,map_append,getD_eq_getElem?_getD,getElem?_eq_getElem a]
 rfl
set_option maxHeartbeats 1000000 in
theorem P9 (W w:World) (A:Nat) (v:Value) (l:List (BitVec 8)) (Y:JM W w A v l):
  H6 prog 53 [.pointer (some ⟨A,0,none⟩)] w LU
   (fun r w' =>1≤l.length∧(l.getD 0 default).toNat≤(l.drop 1).length∧w.grownBy w' (some A)∧
    AW w' w.heap.size 3 1 r (EL ((l.drop 1).take (l.getD 0 default).toNat)).length ((EL ((l.drop 1).take (l.getD 0 default).toNat)).map (Value.int .i64))∧
    ∃v',JM W w' A v' ((l.drop 1).drop (l.getD 0 default).toNat))
   (fun w' =>(l.length<1∨(l.drop 1).length<(l.getD 0 default).toNat)∧w.grownBy w' (some A)):=by
 obtain ⟨n,B⟩:∃n,n=(l.getD 0 default).toNat:=⟨_,rfl⟩
 have J:n<256:=by rw [B];exact (l.getD 0 default).isLt
 rw [← B]
 refine Dk (n:=22) func53 (by kernel_rfl) O O O<|Ah<|Ab O<|Ba<|Ad O<|Ad O<|Cf O O (Od W w A v l Y) (fun w' k=>Bc (Bc (Cj (⟨.inl k.1,k.2 ▸ AU (Below.refl _ _) _⟩)))) ?_
 rintro _ G ⟨L,m,M,rfl,N,D⟩
 rw [← B]
 refine Cf O O (JV W G A n N _ D) (fun w' k=>Bc (Bc (Cj (⟨.inr k.1,k.2 ▸ m⟩)))) ?_
 rintro r s ⟨H,u,U,p,V,a⟩
 obtain ⟨t,E⟩:∃t,t=(l.drop 1).take n:=⟨_,rfl⟩
 rw [← E] at p ⊢
 have K:=AI m u
 have T:s.heap.size=w.heap.size:=by omega
 have f:=p.bs a.bel
 have lt:t.length≤255:=by rw [E,length_take];omega
 refine Aa (Ay AV O ‹_›) O ?_
 refine Ad O<|Ak<|Av ?_
 refine B4 (S:=(Nat×Value)) (fun z=>[(0, .pointer (some ⟨A,0,none⟩)),(2,z.2),(8,r),(9, .int .i64 (t.length:Int)),(10, .int .i64 (z.1:Int))]) (fun z w' =>z.1≤t.length∧Below s.heap.size s w' ∧w'.ownsRow s.heap.size 3 1 z.2 (EL (t.take z.1)).length ((EL (t.take z.1)).map (Value.int .i64))) (fun z=>t.length - z.1) ((0, .slice none 0 0)) ⟨rfl,rfl,rfl,rfl,rfl,trivial⟩ ?_ ?_
 ·exact ⟨Nat.zero_le _,Below.refl _ _,World.ownsRow_nil _ _ _ _⟩
 rintro ⟨i,y⟩ I ⟨X,b,e⟩
 dsimp only at X b e ⊢
 have f:=f.bs b
 refine Ah<|B9 O<|Ak<|Ap<|Al O ?_ ?_
 ·intro g
  have c:i<t.length:=by have:=AE g;omega
  have R:(EL (t.take i)).length+1=(EL (t.take (i+1))).length:=by rw [HI,HI,length_take,length_take];omega
  have Z:(EL (t.take i)).length=i:=by rw [HI,length_take];omega
  refine B2<|Ap<|Av<|Ah<|Aa (Gc AV O O f.shp i O c) O<|Aa (Be (LY _) O ‹_› (by omega)) O ?_
  refine Ab O<|Ak<|A4<|Ad O<|Ad O<|Aa (Fp MG H7 O) O<|Ar (Ch (vs:=[((t.getD i default).toNat:Int)].map (Value.int .i64)) AF DL O O O O O) O ?_
  rintro q F ⟨x, -,h, -⟩
  have e:=AG e h
  have o:=bt b h
  refine Ar (Dj (base:=s.heap.size) AF DL O (by decide) O O e (AH x) (CH (fun _=>rfl) _) (by omega) (by omega) o.size) O ?_
  rintro Q w5 ⟨j,C, -⟩
  rw [← map_append,← LK c,R] at j
  refine Ab O<|A7<|Bb<|Cx<|Cn O (by omega)<|Ad O<|A7 ?_
  exact A3 (B1 ((i+1,Q)) ⟨rfl,rfl,rfl,rfl,rfl,trivial⟩ (⟨c,o.trans C,j⟩) (by simp only;omega))
 intro g
 have c:i=t.length:=by have:=AC g;omega
 subst c
 rw [take_length] at e
 refine Bx<|A0<|A0<|Bh<|Cl<|Ad O<|Ai O O (Ja y (EL t) I (AN e)) ?_
 rintro _ F ⟨rfl,d⟩
 refine Ab O<|Aq<|E2 O O ?_
 refine ⟨L,H,AI K (AU (bt b d) _), ?_,V, ?_⟩
 ·rw [← T];exact (AW.clip e).bs d
 ·exact ⟨a.sl,a.bel.trans ((bt b d).mono (AA a.bel)),a.lo,a.cell.bs (bt b d)⟩
end Go.Proofs.YtblbopcaflaldaaGreatDoor

namespace Go.Proofs.YtblbopcaflaldaaGreatDoor
open Go Go.Dd Go.RowKit List
set_option maxRecDepth 100000
abbrev Bs:=List (BitVec 8)
abbrev PN:=BitVec 8×List Int×List Int×Int×Int
def pn (a:N5):PN:=(a.k,a.i,a.s,a.n,a.p)
def un (p:PN):N5:=⟨p.1, .slice none 0 0, .slice none 0 0,p.2.1,p.2.2.1,p.2.2.2.1,p.2.2.2.2⟩
def HE:Bs→Option (BitVec 8×Bs)
 |[]=>none
 |b::t=>some (b,t)
def Hc (l:Bs):Option (List Int×Bs):=match HE l with
 |none=>none
 |some (b,t)=>if b.toNat≤t.length then some (EL (t.take b.toNat),t.drop b.toNat) else none
def EW (l:Bs):Option (PN×Bs):=match HE l with
 |none=>none
 |some (k,l)=>match Hc l with
  |none=>none
  |some (i,l)=>match Hc l with
   |none=>none
   |some (s,l)=>match HE l with
    |none=>none
    |some (n,l)=>match HE l with
     |none=>none
     |some (p,l)=>some ((k,i,s,(n.toNat:Int),(p.toNat:Int)),l)
def CJ:Nat→Bs→Option (List PN×Bs)
 |0,l=>some ([],l)
 |n+1,l=>match EW l with
  |none=>none
  |some (x,l)=>(CJ n l).map fun q=>(x::q.1,q.2)
def N2 (s:List Int) (l:Bs):Option (PV×Bs):=
 if Shapes.ok s=true∧4*(Shapes.size s).toNat≤l.length then some ((s,EA (l.take (4*(Shapes.size s).toNat))),l.drop (4*(Shapes.size s).toNat)) else none
def EI:List (List Int)→Bs→Option (List PV×Bs)
 |[],l=>some ([],l)
 |s::ss,l=>match N2 s l with
  |none=>none
  |some (x,l)=>(EI ss l).map fun q=>(x::q.1,q.2)
def Ky (ns:List PN):List (List Int):=(ns.filter fun a=>decide (a.1=2#8)).map fun a=>a.2.2.1
def DG (l:Bs):Option (List PN×List PV×Bs):=match HE l with
 |none=>none
 |some (b,l)=>match CJ b.toNat l with
  |none=>none
  |some (ns,l)=>(EI (Ky ns) l).map fun q=>(ns,q.1,q.2)
def Ke (ns:List PN):Option (List (List Int)):=EU (ns.map un)
def GL (l:Bs):Option (List PN×List PV):=match DG l with
 |none=>none
 |some (ns,ws,r)=>if r=[]∧(Ke ns).isSome=true then some (ns,ws) else none
def KX (b:Bs):Int:=if b.length<4 then 5 else if gf (b.drop (b.length - 4))≠Crc.of (b.take (b.length - 4)) then 11 else if (GL (b.take (b.length - 4))).isSome then 0 else 4
def OM (b:Bs):Option (List PN×List PV):=if b.length<4 then none else if gf (b.drop (b.length - 4))≠Crc.of (b.take (b.length - 4)) then none else GL (b.take (b.length - 4))
theorem M0:∀(ls:List N5) (a:List (List Int)),ED a (ls.map fun x=>un (pn x))=ED a ls
 |[],_=>rfl
 |x::ls,a=>by
  show (match Kq a x with|some s=>ED (a++[s]) (ls.map fun x=>un (pn x))|none=>none)=match Kq a x with|some s=>ED (a++[s]) ls|none=>none
  cases Kq a x with
  |none=>rfl
  |some s=>exact M0 ls _
theorem OZ (k:BitVec 8):∀ls:List N5,((ls.map fun x=>un (pn x)).filter fun a=>decide (a.k=k)).length=(ls.filter fun a=>decide (a.k=k)).length
 |[]=>rfl
 |x::ls=>by
  have b:=OZ k ls
  rw [map_cons,filter_cons,filter_cons,show (un (pn x)).k=x.k from rfl]
  split
  ·rw [length_cons,length_cons,b]
  ·exact b
theorem GB (ls:List N5):Ke (ls.map pn)=EU ls:=by
 unfold Ke
 rw [map_map]
 show EU (ls.map fun x=>un (pn x))=EU ls
 unfold EU
 have b:EP (ls.map fun x=>un (pn x))=EP ls:=OZ _ ls
 have a:((ls.map fun x=>un (pn x)).getD (ls.length - 1) default).k=(ls.getD (ls.length - 1) default).k:=by
  rw [getD_eq_getElem?_getD,getD_eq_getElem?_getD,getElem?_map]
  cases ls[ls.length - 1]? <;>rfl
 rw [length_map,M0,b,a]
theorem Me (ls:List N5):Ky (ls.map pn)=(F2 ls).map (·.s):=by
 unfold Ky F2
 rw [filter_map,map_map]
 rfl
theorem MP {l:Bs}:HE l=none↔l.length<1:=by cases l<;>simp [HE]
theorem J1 {l:Bs} (h:1≤l.length):HE l=some (l.getD 0 default,l.drop 1):=by
 cases l with
 |nil=>simp at h
 |cons b t=>rfl
theorem L2 {l:Bs}:Hc l=none↔(l.length<1∨(l.drop 1).length<(l.getD 0 default).toNat):=by
 cases l with
 |nil=>simp [Hc,HE]
 |cons b t=>
  simp only [Hc,HE]
  split
  ·rename_i h;simp;omega
  ·rename_i h;simp;omega
theorem L1 {l:Bs} (a:1≤l.length) (b:(l.getD 0 default).toNat≤(l.drop 1).length):Hc l=some (EL ((l.drop 1).take (l.getD 0 default).toNat),(l.drop 1).drop (l.getD 0 default).toNat):=by
 unfold Hc
 rw [J1 a]
 exact if_pos b
theorem Kw:∀{a:List (List Int)} {l r:Bs} {ws:List PV},EI a l=some (ws,r)→ws.map Prod.fst=a∧∀p ∈ ws,Px p.1 p.2=true
 |[],l,r,ws,h=>by cases h;exact ⟨rfl,fun _ h=>by cases h⟩
 |s::a,l,r,ws,h=>by
  unfold EI at h
  cases h1:N2 s l with
  |none=>rw [h1] at h;cases h
  |some q=>
   obtain ⟨x,f⟩:=q
   rw [h1] at h
   simp only at h
   cases h2:EI a f with
   |none=>rw [h2] at h;cases h
   |some q2=>
    obtain ⟨g,j⟩:=q2
    rw [h2] at h
    cases h
    obtain ⟨d,i⟩:=Kw h2
    unfold N2 at h1
    split at h1
    ·rename_i c
     cases h1
     refine ⟨by rw [map_cons,d],fun p b=> ?_⟩
     rcases List.mem_cons.1 b with rfl|b
     ·have:=Shapes.size_le s
      have e:=KF (Shapes.size s).toNat (l.take (4*(Shapes.size s).toNat)) (by rw [length_take];omega)
      unfold Px
      rw [c.1,e,Bool.true_and,decide_eq_true_eq]
      show ((Shapes.size s).toNat:Int)=Shapes.size s
      omega
     ·exact i p b
    ·cases h1
theorem O2 {ls:List N5} {ts:List T4} {l r:Bs} (h:EI (Ky (ls.map pn)) l=some (ts.map pv,r)):O3 ls ts=(EU ls).isSome:=by
 obtain ⟨b,g⟩:=Kw h
 rw [Me,map_map] at b
 have d:(F2 ls).length=ts.length:=by have:=cngA length b;simpa using this.symm
 have j:N7 (ts.map pv) (F2 ls)=true:=by
  refine (Im (by rw [length_map,d])).2 fun i f=> ?_
  have a:i<ts.length:=by omega
  rw [getD_eq_getElem?_getD,getElem?_map,getElem?_eq_getElem a]
  show La (pv ts[i]) _=true
  have e:=g (pv ts[i]) (mem_map_of_mem (getElem_mem a))
  have c:(ts.map (Prod.fst∘pv))[i]? =((F2 ls).map (·.s))[i]? :=by rw [b]
  rw [getElem?_map,getElem?_map,getElem?_eq_getElem a,getElem?_eq_getElem f] at c
  unfold La
  rw [e,Bool.true_and,decide_eq_true_eq]
  exact Option.some.inj c
 unfold O3
 rw [d,j,decide_eq_true rfl,Bool.true_and,Bool.and_true]
theorem KJ {n:Nat} {b l c:Bs} {a:List PN} {x:PN} {m:Nat} (h:CJ m b=(CJ (n+1) l).map fun q=>(a++q.1,q.2)) (d:EW l=some (x,c)):CJ m b=(CJ n c).map fun q=>(a++[x]++q.1,q.2):=by
 rw [h]
 show ((match EW l with|none=>none|some (x,l)=>(CJ n l).map fun q=>(x::q.1,q.2)):Option _).map _=_
 rw [d]
 simp only [Option.map_map]
 congr 1
 funext q
 simp
theorem MV {n:Nat} {b l:Bs} {a:List PN} {m:Nat} (h:CJ m b=(CJ (n+1) l).map fun q=>(a++q.1,q.2)) (c:EW l=none):CJ m b=none:=by
 rw [h]
 show ((match EW l with|none=>none|some (x,l)=>(CJ n l).map fun q=>(x::q.1,q.2)):Option _).map _=_
 rw [c];rfl
theorem MB {c b:List (List Int)} {s:List Int} {d l e:Bs} {a:List PV} {x:PV} (h:EI b d=(EI (s::c) l).map fun q=>(a++q.1,q.2)) (f:N2 s l=some (x,e)):EI b d=(EI c e).map fun q=>(a++[x]++q.1,q.2):=by
 rw [h]
 show ((match N2 s l with|none=>none|some (x,l)=>(EI c l).map fun q=>(x::q.1,q.2)):Option _).map _=_
 rw [f]
 simp only [Option.map_map]
 congr 1
 funext q
 simp
theorem Pt {d a:List (List Int)} {s:List Int} {c l:Bs} {b:List PV} (h:EI a c=(EI (s::d) l).map fun q=>(b++q.1,q.2)) (e:N2 s l=none):EI a c=none:=by
 rw [h]
 show ((match N2 s l with|none=>none|some (x,l)=>(EI d l).map fun q=>(x::q.1,q.2)):Option _).map _=_
 rw [e];rfl
theorem Kx {s:List Int} {l:Bs} (h:Shapes.ok s=false∨l.length<4*(Shapes.size s).toNat):N2 s l=none:=by
 unfold N2
 refine if_neg fun a=> ?_
 rcases h with h|h
 ·rw [h] at a;cases a.1
 ·omega
theorem N9 {s:List Int} {l:Bs} (h:Shapes.ok s=true) (a:4*(Shapes.size s).toNat≤l.length):N2 s l=some ((s,EA (l.take (4*(Shapes.size s).toNat))),l.drop (4*(Shapes.size s).toNat)):=if_pos ⟨h,a⟩

def Hf (a:Nat) (s:List UInt8):Nat:=s.foldl (fun a c=>10*a+(c.toNat - 48)) a
def Lc (s:List UInt8):Bool:=s.all fun c=>decide (48≤c.toNat) && decide (c.toNat≤57)
def EB (s:List UInt8):Option Int:=if (decide (1≤s.length) && decide (s.length≤9) && (decide (s.length=1)|| !decide (s.headD 0=48)) && Lc s)=true then some (Hf 0 s:Int) else none
theorem Ih {d:Nat} (h:d<10):(UInt8.ofNat (48+d)).toNat=48+d:=by
 rw [UInt8.toNat_ofNat'];omega
theorem OW {c:UInt8} (h:48≤c.toNat∧c.toNat≤57):UInt8.ofNat (48+(c.toNat - 48))=c:=by
 apply UInt8.toNat_inj.1
 rw [Ih (by omega)]
 omega
theorem Jx (s:List UInt8) (c:UInt8):Hf 0 (s++[c])=10*Hf 0 s+(c.toNat - 48):=by simp [Hf]
theorem IY (u:Nat):Lc (Lib.decDigits u)=true∧Hf 0 (Lib.decDigits u)=u∧(0<u→(Lib.decDigits u).headD 0≠48)∧Lib.decDigits u≠[]:=by
 induction u using Nat.strongRecOn with
 |_ u ih=>
  rw [Lib.decDigits]
  split
  ·rename_i h
   have e:=Ih h
   refine ⟨by simp only [Lc,all_cons,all_nil,e];simp;omega,by simp only [Hf,foldl_cons,List.foldl_nil,e];omega,fun i b=> ?_,by simp⟩
   have b:UInt8.ofNat (48+u)=48:=b
   rw [b] at e
   have e:48=48+u:=e
   omega
  ·rename_i h
   obtain ⟨c,f,d,g⟩:=ih (u / 10) (by omega)
   have e:=Ih (show u % 10<10 by omega)
   refine ⟨?_, ?_,fun _=> ?_,by simp⟩
   ·unfold Lc at c ⊢
    rw [List.all_append,c,Bool.true_and,all_cons,all_nil,e];simp;omega
   ·rw [Jx,f,e];omega
   ·cases hd:Lib.decDigits (u / 10) with
    |nil=>exact absurd hd g
    |cons a l=>rw [hd] at d;exact d (by omega)
theorem OV:∀(n:Nat) (s:List UInt8),s.length=n→s≠[]→Lc s=true→s.headD 0≠48→Lib.decDigits (Hf 0 s)=s∧0<Hf 0 s:=by
 intro n
 induction n with
 |zero=>intro s h d;exact absurd (eq_nil_of_length_eq_zero h) d
 |succ n ih=>
  intro s p d b i
  obtain ⟨l,c,rfl⟩:∃l c,s=l++[c]:=⟨s.dropLast,s.getLast d,(List.dropLast_concat_getLast d).symm⟩
  have g:Lc l=true∧48≤c.toNat∧c.toNat≤57:=by
   unfold Lc at b ⊢
   rw [List.all_append,Bool.and_eq_true] at b
   refine ⟨b.1, ?_⟩
   have:=b.2
   simp only [all_cons,all_nil,Bool.and_true,Bool.and_eq_true,decide_eq_true_eq] at this
   exact this
  obtain ⟨o,k⟩:=g
  rw [Jx]
  cases hl:l with
  |nil=>
   subst hl
   have q:c≠48:=i
   have:c.toNat≠48:=fun e=>q (UInt8.toNat_inj.1 e)
   rw [show Hf 0 []=0 from rfl,Nat.mul_zero,Nat.zero_add,Lib.decDigits_one (by omega),OW k]
   exact ⟨rfl,by omega⟩
  |cons a t=>
   have f:l≠[]:=by rw [hl];simp
   have j:l.headD 0≠48:=by rw [hl] at i ⊢;exact i
   obtain ⟨m,r⟩:=ih l (by simp at p;omega) f o j
   rw [← hl,Lib.decDigits,dif_neg (by omega),show (10*Hf 0 l+(c.toNat - 48)) / 10=Hf 0 l by omega,show (10*Hf 0 l+(c.toNat - 48)) % 10=c.toNat - 48 by omega,m,OW k]
   exact ⟨rfl,by omega⟩
theorem JE {u:Nat} (h:(Lib.decDigits u).length≤9):u<1000000000:=by
 have a:=Lib.lt_pow_nDigits u
 rw [Lib.decDigits_length] at h
 have b:10 ^ Lib.nDigits u≤10 ^ 9:=Nat.pow_le_pow_right (by decide) h
 have:(10:Nat) ^ 9=1000000000:=by decide
 omega
theorem Hl {s:List UInt8} {n:Int}:EB s=some n↔∃u:Nat,n=(u:Int)∧Lib.decDigits u=s∧s.length≤9:=by
 unfold EB
 constructor
 ·intro h
  split at h
  ·rename_i g
   simp only [Bool.and_eq_true,Bool.or_eq_true,decide_eq_true_eq,Bool.not_eq_true',decide_eq_false_iff_not] at g
   obtain ⟨⟨⟨f,j⟩,b⟩,i⟩:=g
   refine ⟨Hf 0 s,(Option.some.inj h).symm, ?_,j⟩
   have d:s≠[]:=fun e=>by rw [e] at f;exact absurd f (by decide)
   by_cases a:s.headD 0=48
   ·rcases b with b|b
    ·obtain ⟨c,rfl⟩:=List.length_eq_one_iff.1 b
     have a:c=48:=a
     subst a
     rw [show Hf 0 [48]=0 from rfl,Lib.decDigits_one (by omega)]
     rfl
    ·exact absurd a b
   ·exact (OV _ s rfl d i a).1
  ·cases h
 ·rintro ⟨u,rfl,rfl,k⟩
  obtain ⟨o,l,p,m⟩:=IY u
  rw [if_pos,l]
  simp only [Bool.and_eq_true,Bool.or_eq_true,decide_eq_true_eq,Bool.not_eq_true',decide_eq_false_iff_not]
  refine ⟨⟨⟨?_,k⟩, ?_⟩,o⟩
  ·exact List.length_pos_iff.2 m
  by_cases hu:u<10
  ·left;rw [Lib.decDigits_one hu];rfl
  ·exact .inr (p (by omega))
theorem MU {n:Int} (h:0≤n∧n≤999999999):EB (Lib.itoa n)=some n:=by
 obtain ⟨u,rfl⟩:∃u:Nat,n=(u:Int):=⟨n.toNat,by omega⟩
 rw [Lib.itoa_nonneg]
 refine Hl.2 ⟨u,rfl,rfl, ?_⟩
 rw [Lib.decDigits_length]
 rcases Nat.lt_or_ge 9 (Lib.nDigits u) with a|a
 ·exfalso
  have c:10 ^ 9≤u:=by
   have:∀k u,k<Lib.nDigits u→1≤k→10 ^ k≤u:=by
    intro k
    induction k with
    |zero=>intro u _ h;omega
    |succ k ih=>
     intro u b _
     by_cases hu:u<10
     ·rw [Lib.nDigits_small hu] at b;omega
     ·rw [Lib.nDigits_big hu] at b
      by_cases hk0:k=0
      ·subst hk0;omega
      ·have:=ih (u / 10) (by omega) (by omega)
       rw [Nat.pow_succ];omega
   exact this 9 u a (by decide)
  have:(10:Nat) ^ 9=1000000000:=by decide
  omega
 ·exact a
theorem Nk {s:List UInt8} {n:Int} (h:EB s=some n):Lib.itoa n=s∧0≤n∧n≤999999999:=by
 obtain ⟨u,rfl,rfl,a⟩:=Hl.1 h
 have:=JE a
 exact ⟨Lib.itoa_nonneg u,by omega,by omega⟩
theorem Og (M:Nat):∀(l r:List UInt8) (a:Nat),Lib.parseUintM M a (l++r)=match Lib.parseUintM M a l with
  | .ok v=>Lib.parseUintM M v r
  |x=>x
 |[],r,a=>by simp only [Lib.parseUintM,nil_append]
 |c::l,r,a=>by
  simp only [cons_append,Lib.parseUintM]
  split
  ·split
   ·rfl
   ·split
    ·rfl
    ·exact Og M l r _
  ·rfl
theorem QK (u:Nat):u≤4294967295→Lib.parseUintM 4294967295 0 (Lib.decDigits u)= .ok u:=by
 have b:∀a d,d<10→a<1844674407370955162→a*10+d≤4294967295→Lib.parseUintM 4294967295 a [UInt8.ofNat (48+d)]= .ok (a*10+d):=by
  intro a d e g f
  unfold Lib.parseUintM
  rw [Ih e,if_pos (by omega),if_neg (by omega),if_neg (by omega)]
  unfold Lib.parseUintM
  rw [show 48+d - 48=d by omega]
 induction u using Nat.strongRecOn with
 |_ u ih=>
  intro h
  rw [Lib.decDigits]
  split
  ·rename_i c
   have:=b 0 u c (by omega) (by omega)
   rwa [show 0*10+u=u by omega] at this
  ·rename_i c
   rw [Og,ih (u / 10) (by omega) (by omega)]
   simp only
   rw [b (u / 10) (u % 10) (by omega) (by omega) (by omega)]
   congr 1
   omega
theorem MT (s:List UInt8):EB s=match Lib.parseUintB 32 s with
  | .ok u=>if s.length≤9∧Lib.decDigits u=s then some (u:Int) else none
  |_=>none:=by
 cases hn:EB s with
 |some n=>
  obtain ⟨u,rfl,rfl,a⟩:=Hl.1 hn
  have b:Lib.parseUintB 32 (Lib.decDigits u)= .ok u:=by
   unfold Lib.parseUintB
   rw [if_neg (IY u).2.2.2]
   exact QK u (by have:=JE a;omega)
  rw [b]
  simp only
  simp [a]
 |none=>
  cases b:Lib.parseUintB 32 s with
  |ok u=>
   simp only
   rw [if_neg]
   rintro ⟨c,d⟩
   rw [Hl.2 ⟨u,rfl,d,c⟩] at hn
   cases hn
  |_=>rfl
def CL:Nat→List (List UInt8)→List Int×List (List UInt8)
 |0,l=>([],l)
 |_+1,[]=>([],[])
 |m+1,w::l=>match EB w with
  |some n=>(n::(CL m l).1,(CL m l).2)
  |none=>([],w::l)
theorem J2:∀(m:Nat) (l:List (List UInt8)),(CL m l).1.map Lib.itoa++(CL m l).2=l∧(CL m l).1.length≤m∧∀n ∈ (CL m l).1,0≤n∧n≤999999999
 |0,l=>⟨rfl,AQ _,fun n a=>by cases a⟩
 |_+1,[]=>⟨rfl,Nat.zero_le _,fun n a=>by cases a⟩
 |m+1,w::l=>by
  cases h:EB w with
  |none=>simp only [CL,h];exact ⟨rfl,Nat.zero_le _,fun n a=>by cases a⟩
  |some n=>
   obtain ⟨e,g,f⟩:=J2 m l
   obtain ⟨c,d⟩:=Nk h
   simp only [CL,h]
   refine ⟨by rw [map_cons,cons_append,e,c],by rw [length_cons];omega,fun x b=> ?_⟩
   rcases List.mem_cons.1 b with rfl|b
   ·exact d
   ·exact f x b
theorem KG:∀(m:Nat) (ns:List Int) (r:List (List UInt8)),(∀n ∈ ns,0≤n∧n≤999999999)→ns.length≤m→(ns.length=m∨r=[]∨EB (r.headD [])=none)→CL m (ns.map Lib.itoa++r)=(ns,r)
 |0,ns,r,_,h2,_=>by
  obtain rfl:=eq_nil_of_length_eq_zero (Nat.le_zero.1 h2)
  rfl
 |m+1,[],r,_,_,a=>by
  cases r with
  |nil=>rfl
  |cons w r=>
   rcases a with a|a|a
   ·cases a
   ·cases a
   ·have a:EB w=none:=a
    simp only [map_nil,nil_append,CL,a]
 |m+1,n::ns,r,h1,h2,a=>by
  have k:=KG m ns r (fun x b=>h1 x (by simp [b])) (by simpa using h2) (by simpa using a)
  have e:=MU (h1 n (by simp))
  simp only [map_cons,cons_append,CL,e,k]
def DO (s:List UInt8) (l:List (List UInt8)):Option (List (List UInt8)):=if s=[] then some l else match l with
 |[]=>none
 |x::r=>if x=s then some r else none
def LW (least most:Nat) (l:List (List UInt8)):Option (List Int×List (List UInt8)):=if (CL most l).1.length<least then none else some (CL most l)
def CS (s:List UInt8):BitVec 8:=((GY.find? fun r=>decide (r.word=s)).map fun r=>BitVec.ofNat 8 r.k).getD 0#8
def HY (r:Rw) (l:List (List UInt8)):Option (List Int×Int×List (List UInt8)):=if r.shaped=true then (LW 1 65536 l).map fun q=>(q.1,0,q.2) else if r.nxt=[] then some ([],0,l) else (LW 1 1 l).map fun q=>([],q.1.headD 0,q.2)
def IX (r:Rw) (l:List (List UInt8)):Option (Int×List (List UInt8)):=if r.last=[] then some (0,l) else (DO r.last l).bind fun l5=>(LW 1 1 l5).map fun q=>(q.1.headD 0,q.2)
def CF (l:List (List UInt8)):Option PN:=
 if (AP (CS (l.headD []))).word=[] then none else
 (DO (AP (CS (l.headD []))).word l).bind fun l1=>(LW (AP (CS (l.headD []))).least (AP (CS (l.headD []))).most l1).bind fun q=>
 (DO (AP (CS (l.headD []))).nxt q.2).bind fun l3=>(HY (AP (CS (l.headD []))) l3).bind fun t=>(IX (AP (CS (l.headD []))) t.2.2).bind fun e=>
 if e.2=[] then some (CS (l.headD []),q.1,t.1,t.2.1,e.1) else none
theorem DW {s:List UInt8} {l r:List (List UInt8)} (h:DO s l=some r):l=(if s=[] then [] else [s])++r:=by
 unfold DO at h
 split at h
 ·rename_i e;rw [if_pos e];exact Option.some.inj h
 ·rename_i e
  rw [if_neg e]
  split at h
  ·cases h
  ·split at h
   ·rename_i a;rw [a,Option.some.inj h];rfl
   ·cases h
theorem GC {a b:Nat} {l:List (List UInt8)} {q:List Int×List (List UInt8)} (h:LW a b l=some q):l=q.1.map Lib.itoa++q.2∧a≤q.1.length∧q.1.length≤b∧∀n ∈ q.1,0≤n∧n≤999999999:=by
 unfold LW at h
 split at h
 ·cases h
 ·rename_i e
  cases h
  obtain ⟨d,c,f⟩:=J2 b l
  exact ⟨d.symm,by omega,c,f⟩
theorem KC {l:List (List UInt8)} {q:List Int×List (List UInt8)} (h:LW 1 1 l=some q):l=[Lib.itoa (q.1.headD 0)]++q.2:=by
 obtain ⟨a,b,c, -⟩:=GC h
 obtain ⟨n,e⟩:=List.length_eq_one_iff.1 (show q.1.length=1 by omega)
 rw [a,e];rfl
theorem KL {r:Rw} {l:List (List UInt8)} {t:List Int×Int×List (List UInt8)} (h:HY r l=some t):l=(if r.shaped then t.1.map Lib.itoa else if r.nxt=[] then [] else [Lib.itoa t.2.1])++t.2.2:=by
 unfold HY at h
 split at h
 ·rename_i e
  rw [if_pos e]
  obtain ⟨q,a,rfl⟩:=Option.map_eq_some_iff.1 h
  exact (GC a).1
 ·rename_i e
  rw [if_neg e]
  split at h
  ·rename_i b;rw [if_pos b];cases h;rfl
  ·rename_i b
   rw [if_neg b]
   obtain ⟨q,a,rfl⟩:=Option.map_eq_some_iff.1 h
   exact KC a
theorem OU {r:Rw} {l:List (List UInt8)} {e:Int×List (List UInt8)} (h:IX r l=some e):l=(if r.last=[] then [] else [r.last,Lib.itoa e.1])++e.2:=by
 unfold IX at h
 split at h
 ·rename_i a;rw [if_pos a];cases h;rfl
 ·rename_i a
  rw [if_neg a]
  obtain ⟨d,c,h⟩:=Option.bind_eq_some_iff.1 h
  obtain ⟨q,b,rfl⟩:=Option.map_eq_some_iff.1 h
  have:=DW c
  rw [if_neg a] at this
  rw [this,KC b];rfl
theorem MX {l:List (List UInt8)} {p:PN} (h:CF l=some p):BY (AP p.1) (un p)=l:=by
 unfold CF at h
 obtain ⟨r,b⟩:∃r,r=AP (CS (l.headD [])):=⟨_,rfl⟩
 rw [← b] at h
 split at h
 ·cases h
 ·rename_i e
  obtain ⟨s,k,h⟩:=Option.bind_eq_some_iff.1 h
  obtain ⟨q,i,h⟩:=Option.bind_eq_some_iff.1 h
  obtain ⟨u,n,h⟩:=Option.bind_eq_some_iff.1 h
  obtain ⟨t,j,h⟩:=Option.bind_eq_some_iff.1 h
  obtain ⟨z,m,h⟩:=Option.bind_eq_some_iff.1 h
  split at h
  ·rename_i d
   cases h
   have a:=DW k
   rw [if_neg e] at a
   have f:=(GC i).1
   have g:=DW n
   have o:=KL j
   have c:=OU m
   rw [d,append_nil] at c
   show BY (AP (CS (l.headD []))) _=l
   rw [← b,a,f,g,o,c]
   unfold BY un
   simp only [append_assoc]
  ·cases h
end Go.Proofs.YtblbopcaflaldaaGreatDoor

namespace Go.Dd
open Go Go.RowKit List
def dfr (f:FuncId) (caps:List Value):Deferred:={target:= .fn (.func f) caps.toArray,args:= #[]}
def Ru (P:Program) (fn:Func) (R:Value→World→Prop):BB:=bodyPostD P fn (fun e w' =>∃v,e= .returned v∧R v w')
section
variable {P : Program} {Q : BB} {n : Nat} {E : BM} {w w2 : World} {D : List Deferred} {l0 rest : List Oper} {ty : TypeId} {pos : String} {af : Array Edge} {f : FuncId} {caps : List Value} {fn : Func} {R : Value → World → Prop} {pv : Value}
theorem Gx {f : FuncId} {c : Code} {args : List Value} (e : P.funcs[f]? = some fn) (a : (fn.name == "runtime.NumGoroutine") = false) (g : fn.body = some c)
  (l:fn.ntmps=n) (k:Nat.ble args.length n=true) (h:Cg none [] P (Ru P fn R) n c (params 0 args) w):AO P f args w R:=by
 refine ⟨⟨fn,e,a,by simp [g]⟩,calls_of_wp_defers e g ((wpIn_wide (n:=9)).1 (h _ ⟨rfl, ?_,fun i v j=> ?_⟩))⟩
 ·have:args.length≤n:=Nat.le_of_ble_eq_true k
  simp [l];omega
 ·have d:=(CO args 0 i v j).2
  simp only [Nat.sub_zero] at d
  have b:i<args.length:=by
   rcases Nat.lt_or_ge i args.length with h|h
   ·exact h
   ·simp [getElem?_eq_none h] at d
  rw [Array.getElem?_append]
  simp only [size_toArray,b,if_true,getElem?_toArray]
  exact d
theorem Lg.defer {y:Operand} {ts:Array TypeId} (c:ev E y=some (.func (.func f) #[] caps.toArray)) (k:Lg none (dfr f caps::D) P l0 Q n rest E w):
  Lg none D P l0 Q n (⟨none, .defer {callee:= .value y,args:= #[],argTypes:=ts},ty,pos,af,none⟩::rest) E w:=fun a b=>wpListIn_plain rfl fun K e=>by
 refine ⟨fun _ _=>trivial, ?_⟩
 have d:(execOp a.eval ⟨none, .defer {callee:= .value y,args:= #[],argTypes:=ts},ty,pos,af,none⟩).run P w= .ok (.defer (dfr f caps)) w:=by
  simp [execOp,resolve,b.ev c,Deferred.ofValue,dfr]
 rw [show (rnd none).round=none from rfl,Oper.semAt_none,d]
 exact e _ _ (k _ ⟨by show dfr f caps::a.defers=_;rw [b.dfr],b.size,b.has⟩)
theorem Pg.retD (j:(invoke (.fn (.func f) caps.toArray) #[]).run P w= .ok (.enter f caps.toArray) w) (g:CallsD P f caps.toArray .returning w fun e d w' =>e= .returned (.tuple #[])∧d= .returning∧w' =w)
  (b:∀a,BL [dfr f caps] n E a→∃v,(results fn a.tmps).run P w= .ok v w∧R v w):Pg [dfr f caps] n E (Ru P fn R .ret) w:=fun a c=>by
 show Leaves P fn a.tmps _ a.defers .returning w
 rw [c.dfr]
 refine leaves_cons (by simp) j (g.mono ?_)
 rintro e d w' ⟨rfl,rfl,rfl⟩
 obtain ⟨v,i,h⟩:=b a c
 exact ⟨v,i,v,rfl,h⟩
theorem Pg.panD {g:World→Prop} (l:(invoke (.fn (.func f) caps.toArray) #[]).run P w= .ok (.enter f caps.toArray) w) (i:CallsD P f caps.toArray (.panicking [{v:=pv,recovered:=false}]) w fun e d w' =>e= .returned (.tuple #[])∧d= .panicking [{v:=pv,recovered:=true}]∧g w')
  (b:∀w2,g w2→∀a,BL [dfr f caps] n E a→∃v,(results fn a.tmps).run P w2= .ok v w2∧R v w2):Pg [dfr f caps] n E (Ru P fn R (.panic [{v:=pv,recovered:=false}])) w:=fun a c=>by
 show Leaves P fn a.tmps _ a.defers (.panicking _) w
 rw [c.dfr]
 refine leaves_cons (by simp) l (i.mono ?_)
 rintro e d w' ⟨rfl,rfl,h⟩
 obtain ⟨v,k,j⟩:=b w' h a c
 exact ⟨v,k,v,rfl,j⟩
theorem Pg.thenP {K:Act→World→Prop} {c:List PanicEntry} (h:Pg D n E (Q (.panic c)) w):Pg D n E (BN K Q (.panic c)) w:=h
theorem Pg.lowP {c:List PanicEntry} (h:Pg D n E (Q (.panic c)) w):Pw n E (GX D Q (.panic c)) w:=fun a b=>h _ (b.g D)
theorem Lw.callVQ {d:Nat} {y:Operand} {ts:Array TypeId} {K:World→Prop} (j:ev E y=some (.func (.func f) #[] caps.toArray)) (i:Nat.blt d n=true) (h:H6 P f caps w pv R K)
  (m:∀w',K w' →Pw n E (Q (.panic [{v:=pv,recovered:=false}])) w') (k:∀v w',R v w' →Lw P l0 Q n rest ((d,v)::E) w'):Lw P l0 Q n (⟨some d, .call {callee:= .value y,args:= #[],argTypes:=ts},ty,pos,af,none⟩::rest) E w:=
 fun a c=>wpList_plain rfl fun o g=>by
  unfold Oper.wp
  have l:(execOp a.eval ⟨some d, .call {callee:= .value y,args:= #[],argTypes:=ts},ty,pos,af,none⟩).run P w= .ok (.enter f caps.toArray) w:=by
   simp [execOp,resolve,c.ev j,Deferred.ofValue,invoke,CU (P:=P) (w:=w) h.1]
  rw [l]
  refine h.2.mono fun e w' q=> ?_
  rcases q with ⟨v,rfl,b⟩|⟨rfl,b⟩
  ·exact g _ _ (k v w' b _ (c.put v i))
  ·exact m w' b a c
def Rs (P:Program) (fn:Func) (c₀:Frame) (cs:List Frame) (u:FrameMode) (R:Ending→FrameMode→World→Prop):BB:=fun e a w=>bodyPostS P fn c₀ cs R e a ({c₀ with mode:=u}::cs) w
theorem Gf {a:Frame} {cs:List Frame} {u:FrameMode} {R:Ending→FrameMode→World→Prop} (c:fn.results= #[]) (h:R (.returned (.tuple #[])) u w):Pw n E (Rs P fn a cs u R .normal) w:=fun _ b=>
 ⟨b.dfr,u,rfl, .tuple #[],by rw [results_none c],h⟩
theorem Lf {f:FuncId} {args:List Value} {R:Ending→FrameMode→World→Prop} {l d:Nat} {c:Call} {rest:Code} {v:Value} {a:List PanicEntry} (m:P.funcs[f]? =some fn)
  (t:fn.body=some (.seq (.region l #[⟨some d, .call c,ty,pos, #[],none⟩] false) rest)) (u:∀(ρ:Operand→Value),(execOp ρ ⟨some d, .call c,ty,pos, #[],none⟩).run P w= .ok .recover w) (x:fn.ntmps=n) (p:Nat.ble args.length n=true) (k:Nat.blt d n=true)
  (h:∀e cs,Cw P (Rs P fn e cs (.panicking ({v,recovered:=true}::a)) R) n rest ((d,v)::params 0 args) w):CallsD P f args.toArray (.panicking ({v,recovered:=false}::a)) w R:=by
 refine callsD_of_wpS m t fun e cs s=>wpS_seq (wpS_region ?_)
 have b:BH n (params 0 args) {tmps:=args.toArray++Array.replicate (fn.ntmps - args.toArray.size) undef,defers:=[]}:=by
  refine ⟨rfl, ?_,fun i v o=> ?_⟩
  ·have:args.length≤n:=Nat.le_of_ble_eq_true p
   simp [x];omega
  ·have j:=(CO args 0 i v o).2
   simp only [Nat.sub_zero] at j
   have g:i<args.length:=by
    rcases Nat.lt_or_ge i args.length with h|h
    ·exact h
    ·simp [getElem?_eq_none h] at j
   rw [Array.getElem?_append]
   simp only [size_toArray,g,if_true,getElem?_toArray]
   exact j
 have r:=h e cs _ (b.put v k)
 have q:=wpS_of_wp (cs:={e with mode:= .panicking ({v,recovered:=true}::a)}::cs) (Q:=bodyPostS P fn e cs R) r
 simp only [size_toArray,length_cons,length_nil]
 show wpOpsS P _ _ [0] _ _ _
 simp only [wpOpsS,getElem?_toArray,getElem?_cons_zero,Region.wanted,u,recoverD,s]
 exact q
theorem Le {f:FuncId} {args:List Value} {R:Ending→FrameMode→World→Prop} {o d:Nat} {c:Call} {rest:Code} (p:P.funcs[f]? =some fn)
  (t:fn.body=some (.seq (.region o #[⟨some d, .call c,ty,pos, #[],none⟩] false) rest)) (u:∀(ρ:Operand→Value),(execOp ρ ⟨some d, .call c,ty,pos, #[],none⟩).run P w= .ok .recover w) (x:fn.ntmps=n) (r:Nat.ble args.length n=true) (m:Nat.blt d n=true)
  (h:∀a cs,Cw P (Rs P fn a cs .returning R) n rest ((d, .nilIface)::params 0 args) w):CallsD P f args.toArray .returning w R:=by
 refine callsD_of_wpS p t fun a cs k=>wpS_seq (wpS_region ?_)
 have b:BH n (params 0 args) {tmps:=args.toArray++Array.replicate (fn.ntmps - args.toArray.size) undef,defers:=[]}:=by
  refine ⟨rfl, ?_,fun i v q=> ?_⟩
  ·have:args.length≤n:=Nat.le_of_ble_eq_true r
   simp [x];omega
  ·have j:=(CO args 0 i v q).2
   simp only [Nat.sub_zero] at j
   have g:i<args.length:=by
    rcases Nat.lt_or_ge i args.length with h|h
    ·exact h
    ·simp [getElem?_eq_none h] at j
   rw [Array.getElem?_append]
   simp only [size_toArray,g,if_true,getElem?_toArray]
   exact j
 have e:({a with mode:= .returning}:Frame)=a:=by cases a;simp only at k;rw [k]
 have s:=h a cs _ (b.put .nilIface m)
 have l:=wpS_of_wp (cs:={a with mode:= .returning}::cs) (Q:=bodyPostS P fn a cs R) s
 rw [e] at l
 show wpOpsS P _ _ [0] _ _ _
 simp only [wpOpsS,getElem?_toArray,getElem?_cons_zero,Region.wanted,u,recoverD,k]
 exact l
theorem GJ {p b:Nat} {T:TypeId} {v:Value} {d:TypeDesc} (h:fn.results= #[.cell p ty]) (j:AK w b T [v]) (i:P.underlying ty=some d) (c:(match d with| .struct _| .array _ _=>true|_=>false)=false) {a:Act} (e:a.tmps[p]? =some (.pointer (some ⟨b,0,none⟩))):
  (results fn a.tmps).run P w= .ok v w:=by
 have k:w.cell? ⟨b,0,none⟩=some v:=by simp [World.cell?,show w.heap[b]? =_ from j]
 have g:(isAgg ty).run P w= .ok false w:=by
  simp [isAgg,run_underlying i]
  revert c
  cases d<;>simp
 simp [results,h,e,asAddr,loadVar,g,go_sem,k]
theorem Fx {x:Operand} {t s:TypeId} (c:P.underlying t=some (.interface (P.methodsAt t))) (d:ev E x=some .nilIface):Ex P n E (.binOp .eql t x (.const .nilIface) s) ty w (.bool true):=fun a b _ _ _ _=>by
 simp only [execOp,b.ev d,show a.eval (.const .nilIface)= .nilIface from rfl,eqGuard_nil_constR]
 simp [run_eql_nil_nil w t c]
theorem Fy {x:Operand} {t s T:TypeId} {u:Value} (c:P.underlying t=some (.interface (P.methodsAt t))) (d:ev E x=some (.iface T u)):Ex P n E (.binOp .eql t x (.const .nilIface) s) ty w (.bool false):=fun a b _ _ _ _=>by
 simp only [execOp,b.ev d,show a.eval (.const .nilIface)= .nilIface from rfl,show ∀(p q:Operand),eqGuard .eql t p q (.iface T u) .nilIface=pure () from fun _ _=>rfl]
 simp [run_eql_held_nil w t T u c]
theorem Gp {x:Operand} {t T:TypeId} {u:Value} (c:∀w,(Instr.typeAssert (.iface T u) t T true).run P w= .ok (.tuple #[u, .bool true]) w) (d:ev E x=some (.iface T u)):Ex P n E (.typeAssert x t T true) ty w (.tuple #[u, .bool true]):=fun a b _ _ _ _=>by
 simp [execOp,b.ev d,c w]
end
end Go.Dd

namespace Go.Proofs.YtblbopcaflaldaaGreatDoor
open Go Go.Dd Go.RowKit Go.Proofs.Tryz
open List hiding range
set_option maxRecDepth 100000
-- dd: text
theorem P7 (i:Nat) (h:i<100) (w:World):AO prog 278 [.int .i64 (i:Int)] w (fun r w' =>r=st (Lib.decDigits i)∧w' =w):=
 FG func278 (by kernel_rfl) (by kernel_rfl) ((Dy i h w).mono fun e w' ⟨b,a⟩=>⟨_,b,rfl,a⟩)
theorem KH (u:Nat) (b:1≤u) (a:u<18446744073709551616) (w:World) (h:HZ w):AO prog 279 [.int .u64 (u:Int)] w (fun r w' =>r= .int .i64 (Lib.nDigits u:Int)∧w' =w):=
 FG func279 (by kernel_rfl) (by kernel_rfl) ((Ds u b a w h.tab).mono fun e w' ⟨b,a⟩=>⟨_,b,rfl,a⟩)
def Lb (b:UInt8):Value:= .int .u8 (b.toNat:Int)
theorem Kf {w:World} {g n:Nat} (d:Array UInt8):w.grownBy ((Sort.putRow Lb w g 0 d).drewN n) (some g):=by
 refine ⟨rfl,rfl,rfl,by show w.heap.size≤(Sort.putRow Lb w g 0 d).heap.size;simp,fun k b a=> ?_⟩
 have:g≠k:=fun e=>a (by rw [e])
 show (Sort.putRow Lb w g 0 d).heap[k]? =_
 simp [Sort.putRow,Sort.mapBlock,Array.getElem?_modify,this]
theorem LN (b u:Nat) (T:TypeId) (cs:List Value) (w:World) (m:AK w b T cs) (v:∀j,j<Lib.nDigits u→cs[j]? =some (.int .u8 0)) (B:u<1000000000000) (y:Lib.nDigits u≤24):
  AO prog 280 [.slice (some ⟨b,0,none⟩) (Lib.nDigits u) 24, .int .u64 (u:Int)] w (fun r w' =>w.grownBy w' (some b)∧∃l,BG b8 w' (.slice (some ⟨b,0,none⟩) (Lib.nDigits u) 24) l∧l.map UInt8.ofBitVec=Lib.decDigits u):=by
 have o:Sort.Holds Lb w b 0 (Array.replicate (Lib.nDigits u) (0:UInt8)):=fun j d=>by
  have i:j<Lib.nDigits u:=by simpa using d
  refine ⟨?_, ?_⟩
  ·rw [Nat.zero_add,m.cell,v j i,getElem!_pos _ j d]
   simp [Lb]
  ·have k:w.heap[b]? =some (.cells cs.toArray T (0,0)):=m
   simp [World.frozen?,k]
 have g:(Array.replicate (Lib.nDigits u) (0:UInt8)).size=Lib.nDigits u:=by simp
 have q:=Dh b 0 24 u (Array.replicate (Lib.nDigits u) (0:UInt8)) w o (by rw [g];exact Lib.lt_pow_nDigits u) (by omega) (by rw [g];omega)
 rw [g] at q
 refine FG func280 (by kernel_rfl) (by kernel_rfl) (q.mono ?_)
 rintro e w' ⟨z,n,v',c,rfl,f⟩
 have s:c.toList=Lib.decDigits u:=by
  refine ext_getElem (by rw [Array.length_toList,f.size,Lib.decDigits_length]) fun j A t=> ?_
  rw [Lib.row_is_numeral f j t,Array.getElem_toList,getElem!_pos]
 refine ⟨_,z,Kf c,c.toList.map UInt8.toBitVec,⟨by rw [length_map,Nat.mul_one],some ⟨b,0,none⟩,24, ?_,by rw [length_map,Array.length_toList,f.size];exact y,by decide,(fun h=>by cases h), ?_⟩, ?_⟩
 ·rw [length_map,Array.length_toList,f.size]
 ·rintro a ⟨⟩ j x p
  have d:j<c.size:=by
   have:=(List.getElem?_eq_some_iff.1 p).1
   simpa using this
  have:=Sort.cell?_putRow Lb w b 0 _ c o (by rw [f.size,g]) j d
  rw [add_lit]
  show (Sort.putRow Lb w b 0 c).cell? _=_
  rw [this,← p,getElem!_pos c j d]
  simp [Lb,d]
 ·rw [map_map,← s]
  refine (map_congr_left fun a _=> ?_).trans (List.map_id _)
  rfl
theorem QW:G3 prog 324 [.int .u8 0, .int .u8 0, .int .u8 0, .int .u8 0, .int .u8 0, .int .u8 0, .int .u8 0, .int .u8 0, .int .u8 0, .int .u8 0, .int .u8 0, .int .u8 0, .int .u8 0, .int .u8 0, .int .u8 0, .int .u8 0, .int .u8 0, .int .u8 0, .int .u8 0, .int .u8 0, .int .u8 0, .int .u8 0, .int .u8 0, .int .u8 0] 24:=⟨⟨_,(show Tryz.prog.info? 324=some Tryz.t324 by kernel_rfl),rfl,rfl,_,rfl,rfl⟩⟩
theorem L9 {u:Nat} (h:u<1000000000000):Lib.nDigits u≤24:=by
 have:=Lib.itoa_length_le (u:Int) (by omega) (by omega)
 rw [Lib.itoa_nonneg,Lib.decDigits_length] at this
 omega
theorem Nm (u:Nat) (w:World) (h:HZ w) (k:u<1000000000000):AO prog 289 [.int .u64 (u:Int), .int .i64 10] w (fun r w' =>r=st (Lib.decDigits u)∧Below w.heap.size w w'):=by
 have b:=Below.refl w.heap.size w
 refine A5 (n:=32) func289 O<|Ah<|Ab O<|Ba<|Ad O<|Aa (Ce O O) O<|Ak<|Cm O true (rfl)<|Ap<|Ah<|Ad O<|B9 O<|Ak<|Al O ?_ ?_
 ·intro g
  have g:u<100:=by have:=AE g;omega
  refine Ah<|Ad O<|Aa (D2 Lu H7 O (by omega)) O<|Ai O O (P7 u g w) ?_
  rintro _ i ⟨rfl,rfl⟩
  exact Ab rfl<|Bl<|Ao<|Am rfl rfl<|⟨rfl,b⟩
 intro g
 have g:100≤u:=by have:=AC g;omega
 refine Ca<|C8 QW O ?_
 rintro c i m d e p
 have y:=e.size
 replace b:=bt b e
 have f:=h.bs e
 refine Au<|Ad O<|Ai O O (KH u (by omega) (by omega) i f) ?_
 rintro _ t ⟨rfl,rfl⟩
 have a:=L9 k
 refine Ab O<|Au<|Ad O<|Aa (Ex.arrH underlying324 R6 O O a) O<|Ad O ?_
 refine Ai O O (LN c u _ _ t d (fun j x=>by show (replicate 24 (Value.int .u8 0))[j]? =_;rw [List.getElem?_replicate,if_pos (by omega)]) k a) ?_
 rintro _ v ⟨o,l,s,q⟩
 refine Au<|Ad O<|Aa (Ex.arrH underlying324 R6 O O a) O<|Aa (Ex.as (Ex.strOf AV It HX O s) (by unfold QG;rw [q])) O<|Ab O<|Bl<|Am O O ?_
 exact ⟨rfl,b.grown o (AA b) (by rintro _ ⟨⟩;omega)⟩
theorem OP (u:Nat) (w:World) (h:HZ w) (a:u<1000000000000):AO prog 274 [.int .u64 (u:Int), .int .i64 10] w (fun r w' =>r=st (Lib.decDigits u)∧Below w.heap.size w w'):=by
 refine A5 (n:=8) func274 O<|Ah<|Ab O<|Au<|Ad O<|Ad O<|Ai O O (Nm u w h a) ?_
 rintro _ c ⟨rfl,b⟩
 exact Ab rfl<|Aq<|Am rfl rfl<|⟨rfl,b⟩
theorem LS (w:World) (T:TypeId) (s:ByteArray):Below w.heap.size w (Lib.bytesWorld w T s):=by
 exact ⟨rfl,rfl,rfl,by rw [Lib.bytesWorld_size];omega,fun k a=>Lib.bytesWorld_at_old w T s k a⟩
theorem KB (s:List UInt8) (w:World) (h:HZ w) (l:s.length≤281474976710656):AO prog 273 [st s, .int .i64 10, .int .i64 32] w (fun r w' =>Below w.heap.size w w' ∧((∃u:Nat,Lib.parseUintB 32 s= .ok u∧u≤4294967295∧r= .tuple #[.int .u64 (u:Int), .nilIface])∨((∀u,Lib.parseUintB 32 s≠ .ok u)∧∃v T x,0≤v∧v≤4294967295∧r= .tuple #[.int .u64 v, .iface T x]))):=by
 refine FG func273 (by kernel_rfl) (by kernel_rfl) ?_
 have e:(ba s).data.toList=s:=DU s
 have z:(ba s).size=s.length:=Il s
 obtain ⟨k,j,f⟩:=h.es
 obtain ⟨m,i,g⟩:=h.er
 cases hp:Lib.parseUintB 32 s with
 |ok u=>
  refine (Dl (ba s) (by rw [z];omega) u (by rw [e];exact hp) w).mono ?_
  rintro e w' ⟨a,d⟩
  refine ⟨_,a, ?_, .inl ⟨u,rfl,Lib.parseUintB_le hp,rfl⟩⟩
  rcases d with rfl|rfl
  ·exact Below.refl _ _
  ·exact LS _ _ _
 |range=>
  refine (Da (ba s) (by rw [z];omega) (by rw [e];exact hp) _ w g (.inr ⟨_,_,rfl⟩)).mono ?_
  rintro e w' ⟨N,a, -, -,c⟩
  exact ⟨_,a,c, .inr ⟨(fun u b=>by cases b),_,_,_,(by decide),(by decide),rfl⟩⟩
 |_=>
  refine (C6 (ba s) (by rw [z];omega) (by rw [e];exact hp) _ w f (.inr ⟨_,_,rfl⟩)).mono ?_
  rintro e w' ⟨N,a, -, -,c⟩
  exact ⟨_,a,c, .inr ⟨(fun u b=>by cases b),_,_,_,(by decide),(by decide),rfl⟩⟩
theorem Oy (s:List UInt8) (w:World) (h:HZ w) (m:s.length≤281474976710656):AO prog 246 [st s] w (fun r w' =>Below w.heap.size w w' ∧∃v,r= .tuple #[v, .bool (EB s).isSome]∧∀n,EB s=some n→v= .int .i64 n):=by
 have b:=MT s
 refine A5 (n:=26) func246 O<|Ah<|Ab O<|Ab O<|Au<|Ad O<|Ai O O (KB s w h m) ?_
 rintro _ f ⟨c,⟨u,e,o,rfl⟩|⟨d,v,T,x,j,l,rfl⟩⟩
 ·rw [e] at b
  simp only at b
  refine Ad O<|Aa (Ex.extract (i:=0) O O) O<|Aa (Ex.extract (i:=1) O O) O<|Ab O<|Ab O<|Au<|Ad O<|Aa (D2 Lu H7 O (by omega)) O<|Ad O<|Aa (Fx (by kernel_rfl) O) O<|Ad O<|Cd 15 (v' := .bool true) O (cngA Value.bool (rfl))<|Af (dj:=15) O O<|Ad O<|Af (dj:=15) O O<|Aa (Er HX O) O<|Af (dj:=15) O O<|Aa (Ff O O) O<|Bi O<|Ad O ?_
  refine Bw 20 O ?_ ?_
  ·intro g
   have g:s.length≤9:=by have:=AE g;omega
   refine Af (dj:=20) O O<|Ad O<|Af (dj:=20) O O<|Ai O O (OP u f (h.bs c) (by omega)) ?_
   rintro _ p ⟨rfl,a⟩
   refine Af (dj:=20) O O<|Ad O<|Af (dj:=20) O O<|Aa (D5 O O) O<|Bi O<|Ab O<|Ab O<|Aq<|Bj O O O ?_
   refine ⟨bt c a, .int .i64 (u:Int), ?_,fun n a=> ?_⟩
   ·rw [b]
    by_cases e2:Lib.decDigits u=s
    ·rw [decide_eq_true e2,if_pos ⟨g,e2⟩];rfl
    ·rw [decide_eq_false e2,if_neg fun k=>e2 k.2];rfl
   ·rw [b] at a
    split at a
    ·cases a;rfl
    ·cases a
  intro g
  have g:¬s.length≤9:=by have:=AC g;omega
  rw [if_neg fun k=>g k.1] at b
  refine Ae (dj:=20) O O O O<|Ae (dj:=20) O O O O<|Ae (dj:=20) O O O O<|Ae (dj:=20) O O O O<|B6 O<|Ab O<|Ab O<|Aq<|Bj O O O ?_
  exact ⟨c,_,(by rw [b];rfl),fun n a=>by rw [b] at a;cases a⟩
 have b:EB s=none:=by
  rw [b]
  cases hq:Lib.parseUintB 32 s with
  |ok u=>exact absurd hq (d u)
  |_=>rfl
 refine Ad O<|Aa (Ex.extract (i:=0) O O) O<|Aa (Ex.extract (i:=1) O O) O<|Ab O<|Ab O<|Au<|Ad O<|Aa (D2 Lu H7 O (by omega)) O<|Ad O<|Aa (Fy (by kernel_rfl) O) O<|Ad O<|Cd 15 (v' := .bool false) O (cngA Value.bool (rfl))<|Ae (dj:=15) O O O O<|Ae (dj:=15) O O O O<|Ae (dj:=15) O O O O<|B6 O<|Ad O<|Ae (dj:=20) O O O O<|Ae (dj:=20) O O O O<|Ae (dj:=20) O O O O<|Ae (dj:=20) O O O O<|B6 O<|Ab O<|Ab O<|Aq<|Bj O O O ?_
 exact ⟨c,_,(by rw [b];rfl),fun n a=>by rw [b] at a;cases a⟩
end Go.Proofs.YtblbopcaflaldaaGreatDoor

namespace Go.Proofs.YtblbopcaflaldaaGreatDoor
open Go Go.Dd Go.RowKit List
set_option maxRecDepth 100000
abbrev Qx:TypeId:=55

structure Bk (w:World) (lo A:Nat) (n:Int) (hb hi hn:List Hd) (ub ui un:Value):Prop where
 box:AK w A Qx [.int .i64 n,ub,ui,un, .slice none 0 0, .slice none 0 0, .slice none 0 0, .slice none 0 0, .slice none 0 0, .slice none 0 0, .slice none 0 0, .slice none 0 0, .slice none 0 0, .slice none 0 0, .slice none 0 0, .slice none 0 0]
 ob:w.ownsRow lo 179 3 ub hb.length (CK hb)
 oi:w.ownsRow lo 182 3 ui hi.length (CK hi)
 on:w.ownsRow lo 185 3 un hn.length (CK hn)
 loA:lo≤A
 ab:ub.ownBlock≠some A
 ai:ui.ownBlock≠some A
 an:un.ownBlock≠some A
 bi:Ji ub ui
 bn:Ji ub un
 nn:Ji ui un
 many:hb.length+hi.length+hn.length≤900
 num:0≤n∧n≤900
theorem Bk.size {w:World} {a A:Nat} {n:Int} {d e f:List Hd} {b c un:Value} (h:Bk w a A n d e f b c un):a<w.heap.size:=Nat.lt_of_le_of_lt h.loA (AY h.box)
theorem Bk.bs {w w' :World} {d A:Nat} {n:Int} {c e f:List Hd} {a b un:Value} (h:Bk w d A n c e f a b un) (g:Below w.heap.size w w'):Bk w' d A n c e f a b un:=
 ⟨h.box.bs g,AG h.ob g,AG h.oi g,AG h.on g,h.loA,h.ab,h.ai,h.an,h.bi,h.bn,h.nn,h.many,h.num⟩

theorem _root_.Go.Dd.Twn.own {α:Type} {w:World} {base:Nat} {T:TypeId} {enc:α→Value} {a v:Value} {l:List α} (h:Twn w base T enc a v l):w.ownsRow base T 1 v l.length (l.map enc):=by
 obtain ⟨b,cap,rfl,c⟩:=h
 exact HC c (by simp)

structure ET (w:World) (lo hi:Nat) (c:T4):Prop where
 rx:AW w lo 3 1 c.x c.s.length (c.s.map (Value.int .i64))
 ry:AW w lo 21 1 c.y c.l.length (c.l.map i32)
 bx:∀b,c.x.ownBlock=some b→lo≤b∧b<hi
 by' :∀b,c.y.ownBlock=some b→lo≤b∧b<hi
 apart:Ji c.y c.x
theorem ET.bs {w w' :World} {a b:Nat} {c:T4} (h:ET w a b c) (g:Below w.heap.size w w'):ET w' a b c:=⟨h.rx.bs g,h.ry.bs g,h.bx,h.by',h.apart⟩
theorem ET.below {w w' :World} {d a B:Nat} {c:T4} (h:ET w d a c) (g:Below B w w') (f:a≤B):ET w' d a c:=
 ⟨h.rx.heap fun b e=>g.block b (by have:=h.bx b e;omega),h.ry.heap fun b e=>g.block b (by have:=h.by' b e;omega),h.bx,h.by',h.apart⟩
theorem ET.at {w:World} {a b:Nat} {c:T4} (h:ET w a b c):c.at w:=⟨h.rx.slT,h.ry.slT⟩
theorem ET.wide {w:World} {g i a d:Nat} {c:T4} (h:ET w g i c) (f:a≤g) (j:i≤d):ET w a d c:=
 ⟨h.rx.mono f,h.ry.mono f,fun b e=>by have:=h.bx b e;omega,fun b e=>by have:=h.by' b e;omega,h.apart⟩
theorem GR.held {W w:World} {x y:Value} {s:List Int} {l:List (BitVec 32)} (h:GR W w x y s l):ET w W.heap.size w.heap.size ⟨x,y,s,l⟩:=
 ⟨h.row, .inl h.own,h.row.lt,AD h.own,h.apart⟩
def AT (w:World):Nat→Nat→List T4→Prop
 |base,top,[]=>base≤top
 |base,top,c::cs=>∃lo hi,base≤lo∧lo≤hi∧ET w lo hi c∧AT w hi top cs
theorem AT.le:∀{w:World} {cs:List T4} {base a:Nat},AT w base a cs→base≤a
 |_,[],_,_,h=>h
 |_,_::_,_,_,⟨_,_,h1,h2,_,h3⟩=>by have:=h3.le;omega
theorem AT.bs {w w' :World} (g:Below w.heap.size w w'):∀{cs:List T4} {base a:Nat},AT w base a cs→AT w' base a cs
 |[],_,_,h=>h
 |_::_,_,_,⟨lo,hi,h1,h2,h3,h4⟩=>⟨lo,hi,h1,h2,h3.bs g,AT.bs g h4⟩
theorem AT.each:∀{w:World} {cs:List T4} {base b:Nat},AT w base b cs→∀c ∈ cs,ET w base b c
 |_,[],_,_,_=>fun c a=>by cases a
 |_,d::ds,_,_,⟨lo,hi,h1,h2,h3,h4⟩=>fun c a=>by
  have:=h4.le
  rcases List.mem_cons.1 a with rfl|a
  ·exact h3.wide h1 (by omega)
  ·exact (h4.each c a).wide (by omega) (AQ _)
structure JN (w:World) (base top:Nat) (hi hn:List Hd):Prop where
 ki:Jh w base 3 1 hi
 kn:Jh w base 21 1 hn
 li:∀b,Jc hi b→b<top
 ln:∀b,Jc hn b→b<top
 xin:∀b,Jc hi b→¬Jc hn b
theorem JN.bs {w w' :World} {base a:Nat} {b c:List Hd} (h:JN w base a b c) (g:Below w.heap.size w w'):JN w' base a b c:=⟨h.ki.bs g,h.kn.bs g,h.li,h.ln,h.xin⟩
theorem JN.below {w w' :World} {base a:Nat} {d f:List Hd} (h:JN w base a d f) (g:Below a w w'):JN w' base a d f:=
 ⟨⟨h.ki.toKOk,fun x c=>(h.ki.own x c).heap fun b e=>g.block b (h.li b ⟨x,c,e⟩)⟩,⟨h.kn.toKOk,fun x c=>(h.kn.own x c).heap fun b e=>g.block b (h.ln b ⟨x,c,e⟩)⟩,h.li,h.ln,h.xin⟩
structure Jg (w:World) (lo hi:Nat) (x y:Value) (a:T4):Prop where
 held:ET w lo hi ⟨x,y,a.s,a.l⟩
 tx:Twn w lo 3 (Value.int .i64) (Value.int .i64 (77)) x a.s
 ty:Twn w lo 21 i32 (i32 (77#32)) y a.l
theorem Jg.bs {w w' :World} {b c:Nat} {x y:Value} {a:T4} (h:Jg w b c x y a) (g:Below w.heap.size w w'):Jg w' b c x y a:=⟨h.held.bs g,h.tx.bs g,h.ty.bs g⟩
theorem Twn.mono {α:Type} {w:World} {B c:Nat} {T:TypeId} {enc:α→Value} {a v:Value} {l:List α} (h:Twn w B T enc a v l) (e:c≤B):Twn w c T enc a v l:=by
 obtain ⟨b,cap,rfl,d⟩:=h
 exact ⟨b,cap,rfl,CW d e⟩
theorem Twn.by {α:Type} {w w' :World} {B r:Nat} {T:TypeId} {enc:α→Value} {a v:Value} {l:List α} (h:Twn w B T enc a v l) (d:w.grownBy w' (some r)) (f:r<B):Twn w' B T enc a v l:=by
 obtain ⟨b,cap,rfl,c⟩:=h
 exact ⟨b,cap,rfl,c.kept d (.inr fun e=>by have:=(AD c r e).1;omega)⟩

structure NK (w:World) (lo hi:Nat) (c:N5):Prop where
 rx:AW w lo 3 1 c.x c.i.length (c.i.map (Value.int .i64))
 ry:AW w lo 3 1 c.y c.s.length (c.s.map (Value.int .i64))
 bx:∀b,c.x.ownBlock=some b→lo≤b∧b<hi
 by' :∀b,c.y.ownBlock=some b→lo≤b∧b<hi
 apart:Ji c.x c.y
theorem NK.bs {w w' :World} {a b:Nat} {c:N5} (h:NK w a b c) (g:Below w.heap.size w w'):NK w' a b c:=⟨h.rx.bs g,h.ry.bs g,h.bx,h.by',h.apart⟩
theorem NK.below {w w' :World} {d a B:Nat} {c:N5} (h:NK w d a c) (g:Below B w w') (f:a≤B):NK w' d a c:=
 ⟨h.rx.heap fun b e=>g.block b (by have:=h.bx b e;omega),h.ry.heap fun b e=>g.block b (by have:=h.by' b e;omega),h.bx,h.by',h.apart⟩
theorem AB {w w' :World} {a sz k:Nat} {E T:TypeId} {v:Value} {xs:List Value} {r:Option Nat} (h:AW w a E sz v k xs) (g:w.grownBy w' r) (f:∀b,r=some b→∃cs,AK w b T cs) (i:E≠T):AW w' a E sz v k xs:=
 h.heap fun b e=>g.block b (h.lt b e).2 fun j=>by
  obtain ⟨cs,c⟩:=f b j.symm
  obtain ⟨ds,d⟩:=h.ty e
  exact i (DE d c)
theorem NK.other {w w' :World} {e f:Nat} {T:TypeId} {c:N5} {r:Option Nat} (h:NK w e f c) (g:w.grownBy w' r) (a:∀b,r=some b→∃cs,AK w b T cs) (d:3≠T):NK w' e f c:=
 ⟨AB h.rx g a d,AB h.ry g a d,h.bx,h.by',h.apart⟩
theorem NK.wide {w:World} {g i a d:Nat} {c:N5} (h:NK w g i c) (f:a≤g) (j:i≤d):NK w a d c:=
 ⟨h.rx.mono f,h.ry.mono f,fun b e=>by have:=h.bx b e;omega,fun b e=>by have:=h.by' b e;omega,h.apart⟩
theorem NK.at {w:World} {a b:Nat} {c:N5} (h:NK w a b c):N5.at w c:=⟨h.rx.slT,h.ry.slT⟩
def FK (w:World):Nat→Nat→List N5→Prop
 |base,top,[]=>base≤top
 |base,top,c::cs=>∃lo hi,base≤lo∧lo≤hi∧NK w lo hi c∧FK w hi top cs
theorem FK.le:∀{w:World} {cs:List N5} {base a:Nat},FK w base a cs→base≤a
 |_,[],_,_,h=>h
 |_,_::_,_,_,⟨_,_,h1,h2,_,h3⟩=>by have:=h3.le;omega
theorem FK.bs {w w' :World} (g:Below w.heap.size w w'):∀{cs:List N5} {base a:Nat},FK w base a cs→FK w' base a cs
 |[],_,_,h=>h
 |_::_,_,_,⟨lo,hi,h1,h2,h3,h4⟩=>⟨lo,hi,h1,h2,h3.bs g,FK.bs g h4⟩
theorem FK.below {w w' :World} {B:Nat} (g:Below B w w'):∀{cs:List N5} {base a:Nat},FK w base a cs→a≤B→FK w' base a cs
 |[],_,_,h,_=>h
 |_::_,_,_,⟨lo,hi,h1,h2,h3,h4⟩,hB=>⟨lo,hi,h1,h2,h3.below g (Nat.le_trans h4.le hB),FK.below g h4 hB⟩
theorem FK.other {w w' :World} {T:TypeId} {r:Option Nat} (g:w.grownBy w' r) (c:∀b,r=some b→∃cs,AK w b T cs) (d:3≠T):∀{cs:List N5} {base a:Nat},FK w base a cs→FK w' base a cs
 |[],_,_,h=>h
 |_::_,_,_,⟨lo,hi,q1,q2,q3,q4⟩=>⟨lo,hi,q1,q2,q3.other g c d,FK.other g c d q4⟩
theorem FK.snoc {w:World} {c:N5} {b d:Nat} (f:NK w b d c) (e:b≤d):∀{cs:List N5} {base a:Nat},FK w base a cs→a≤b→FK w base d (cs++[c])
 |[],_,_,h,ht=>⟨b,d,Nat.le_trans h ht,e,f,AQ _⟩
 |_::_,_,_,⟨l1,h1,q1,q2,q3,q4⟩,ht=>⟨l1,h1,q1,q2,q3,FK.snoc f e q4 ht⟩
theorem FK.top {w:World} {b:Nat}:∀{cs:List N5} {base a:Nat},FK w base a cs→a≤b→FK w base b cs
 |[],_,_,h,ht=>Nat.le_trans h ht
 |_::_,_,_,⟨l1,h1,q1,q2,q3,q4⟩,ht=>⟨l1,h1,q1,q2,q3,FK.top q4 ht⟩
theorem FK.each:∀{w:World} {cs:List N5} {base b:Nat},FK w base b cs→∀c ∈ cs,NK w base b c
 |_,[],_,_,_=>fun c a=>by cases a
 |_,d::ds,_,_,⟨lo,hi,h1,h2,h3,h4⟩=>fun c a=>by
  have:=h4.le
  rcases List.mem_cons.1 a with rfl|a
  ·exact h3.wide h1 (by omega)
  ·exact (h4.each c a).wide (by omega) (AQ _)
theorem Fh {w:World} {cs:List N5} {base a b:Nat} (h:FK w base b cs) (d:a≤base):FK w a b cs:=by
 cases cs with
 |nil=>exact Nat.le_trans d h
 |cons c cs=>
  obtain ⟨g,i,f,e⟩:=h
  exact ⟨g,i,Nat.le_trans d f,e⟩
theorem ET.other {w w' :World} {d e:Nat} {T:TypeId} {c:T4} {r:Option Nat} (h:ET w d e c) (g:w.grownBy w' r) (a:∀b,r=some b→∃cs,AK w b T cs) (i:3≠T) (f:21≠T):ET w' d e c:=
 ⟨AB h.rx g a i,AB h.ry g a f,h.bx,h.by',h.apart⟩
theorem AT.other {w w' :World} {T:TypeId} {r:Option Nat} (g:w.grownBy w' r) (d:∀b,r=some b→∃cs,AK w b T cs) (e:3≠T) (c:21≠T):∀{cs:List T4} {base a:Nat},AT w base a cs→AT w' base a cs
 |[],_,_,h=>h
 |_::_,_,_,⟨lo,hi,q1,q2,q3,q4⟩=>⟨lo,hi,q1,q2,q3.other g d e c,AT.other g d e c q4⟩
theorem AT.snocM {w:World} {c:T4} {b d:Nat} (f:ET w b d c) (e:b≤d):∀{cs:List T4} {base a:Nat},AT w base a cs→a≤b→AT w base d (cs++[c])
 |[],_,_,h,ht=>⟨b,d,Nat.le_trans h ht,e,f,AQ _⟩
 |_::_,_,_,⟨l1,h1,q1,q2,q3,q4⟩,ht=>⟨l1,h1,q1,q2,q3,AT.snocM f e q4 ht⟩
theorem AT.topM {w:World} {b:Nat}:∀{cs:List T4} {base a:Nat},AT w base a cs→a≤b→AT w base b cs
 |[],_,_,h,ht=>Nat.le_trans h ht
 |_::_,_,_,⟨l1,h1,q1,q2,q3,q4⟩,ht=>⟨l1,h1,q1,q2,q3,AT.topM q4 ht⟩
structure Sf (w:World) (lo hi:Nat) (v u:Value) (ls:List N5) (ts:List T4):Prop where
 nodes:∃mid,FK w lo mid ls∧AT w mid hi ts
 nv:AW w lo 79 5 v ls.length (HT N5.cells ls)
 wv:AW w lo 75 2 u ts.length (cellsOf ts)
end Go.Proofs.YtblbopcaflaldaaGreatDoor

namespace Go.Proofs.YtblbopcaflaldaaGreatDoor
open Go Go.Dd Go.RowKit List Go.Proofs.Tryz
set_option maxRecDepth 100000
theorem Qc (v:Value) (w:World) (e:v.cells=[v].toArray):AO prog 157 [v, .int .i64 4] w (fun r w' =>Below w.heap.size w w' ∧∃p q,r= .func (.func 231) #[] #[.pointer (some ⟨p,0,none⟩), .pointer (some ⟨q,0,none⟩)]∧w.heap.size≤p∧p<q∧AK w' p 28 [v]∧AK w' q 3 [.int .i64 4]):=by
 refine A5 (n:=9) func157 O<|Ah<|Ar (Xw.box (cs:=[v]) O e) O ?_
 rintro _ j ⟨rfl,c,a,g⟩
 refine Ar (Xw.box (cs:=[.int .i64 4]) O O) O ?_
 rintro _ k ⟨rfl,i,b,d⟩
 have c:=c.bs b
 have f:=a.size
 have h:=a.trans (b.mono f)
 refine Ab O<|Ba<|Aa (An (BD _) O ‹_› rfl) O ?_
 exact B9 rfl<|Ak<|Cm rfl false (rfl)<|Ca<|Aa (Ek (vs:=[]) rfl rfl) rfl<|Ab rfl<|Aq<|Am rfl rfl<|⟨h,_,_,rfl,AQ _,by omega,c,i⟩
theorem PZ {v:Value} {c i j sz:Nat} (h:Mb v c) (e:i≤j) (f:j≤c):Mb (cut v sz i j) (j - i):=by
 obtain ⟨b,cap,rfl,k,g,d⟩:=h
 refine ⟨_,cap - i,rfl,by omega,by omega,fun a=> ?_⟩
 by_cases he:cap=i
 ·omega
 ·rw [if_neg he] at a
  cases b with
  |none=>have:=d rfl;omega
  |some _=>cases a
def parts (v:Value) (K:Nat):List Value:=(List.range K).map fun i=>cutp v 1 (4*i) (4*i+4)
theorem GU (v:Value) (K:Nat):parts v (K+1)=parts v K++[cutp v 1 (4*K) (4*K+4)]:=by simp [parts,range_succ]
theorem MN {v:Value} {k K:Nat} (h:k≤K):parts v k<+:parts v K:=by
  induction K with
  | zero => obtain rfl : k = 0 := by omega
            exact ⟨[],by simp⟩
  |succ K ih=>
    by_cases h1:k≤K
    · exact (ih h1).trans ⟨_,(GU v K).symm⟩
    · obtain rfl:k=K+1:=by omega
      exact ⟨[],by simp⟩
theorem Pa (p q K:Nat) (v:Value) (w:World) (d:AK w p 28 [v]) (a:AK w q 3 [.int .i64 4]) (r:Mb v (4*K)) (L:K≤100000):
  Sq prog 231 [] [.pointer (some ⟨p,0,none⟩), .pointer (some ⟨q,0,none⟩)] (fun x:Value=>[x]) (fun b=>b=p∨b=q) none (parts v K) w:=by
 intro A J W s F E e
 show AO prog 231 [.func (.yield A) #[] #[], .pointer (some ⟨p,0,none⟩), .pointer (some ⟨q,0,none⟩)] W (fun _ D=>J (parts v K) D)
 have d:=d.bs s
 have a:=a.bs s
 refine Fm (n:=31) func231 (by kernel_rfl) O O O<|Dq<|C4 (by kernel_rfl)<|Ab O ?_
 refine A7 (Di ?_)
 refine Cz (Dr ?_)
 refine Cg.block ?_
 refine Cg.loop (S:=Nat) (fun k=>[(0, .func (.yield A) #[] #[]),(1, .pointer (some ⟨p,0,none⟩)),(2, .pointer (some ⟨q,0,none⟩)),(4, .int .i64 ((4*k:Nat):Int))]) (fun k w' =>k≤K∧J (parts v k) w' ∧AK w' p 28 [v]∧AK w' q 3 [.int .i64 4]) (fun k=>K - k) (0) ⟨rfl,rfl,rfl,rfl,trivial⟩ ?_ ?_
 ·exact ⟨Nat.zero_le _,e,d,a⟩
 clear e d a s
 rintro k w ⟨I,e,d,l⟩
 refine Dq<|Dq<|C4 (by kernel_rfl)<|Ad O<|Aa (An (GP _) O ‹_› rfl) O ?_
 refine Aa (Ep AV O r) O<|B9 O ?_
 refine A7 (Di ?_)
 refine Cz (Dr ?_)
 refine Cg.cond O ?_ ?_
 ·intro g
  have c:k<K:=by have:=AE g;omega
  refine Cg.skip ?_
  refine Cz (Dr ?_)
  refine Dq<|Cg.block<|Dq<|Cg.quiet mixed (by kernel_rfl) (by kernel_rfl)<|As (fun o a=>An (BD _) O (l.bs a) O) O<|As (fun o a=>An (GP _) O (AK.bs ‹_› a) O) O ?_
  refine Bz O<|As (fun o a=>E7 (i:=4*k) AV O O r (by omega)) O<|As (fun o a=>Ep AV O (PZ r (by omega) (AQ _))) O<|As (fun o a=>Ex.as (Ex.min2 O O) (cngA (Value.int .i64) (show (if ((4*K - 4*k:Nat):Int)<4 then ((4*K - 4*k:Nat):Int) else 4)=4 by split<;>omega))) O<|Ea O ?_
  refine Dp (fun G a=>(Di ?_))
  refine Cz (Dr ?_)
  refine Dq ?_
  have f:=d.bs a
  have m:=l.bs a
  have u:=F _ _ _ e ⟨none,AU a none, .inl rfl⟩
  have h:parts v k++[cutp v 1 (4*k) (4*k+4)]<+:parts v K:=by rw [← GU];exact MN c
  refine Fq<|Lg.plain 10 (by kernel_rfl)<|Ad O<|Aa (An (GP _) O ‹_› rfl) O ?_
  refine Ad O<|Ad O<|Ad O<|Aa (Ex.as (D7 O O (by omega)) (cngA (Value.int .i64) (show ((4*k:Nat):Int)+4=((4*k+4:Nat):Int) by omega))) O<|Ad O<|Ad O<|Aa (Ex.as (D7 O O (by omega)) (cngA (Value.int .i64) (show ((4*k:Nat):Int)+4=((4*k+4:Nat):Int) by omega))) O<|Aa (Ex.cutP (i:=4*k) (j:=4*k+4) AV O O O O r (by omega) (by omega)) O ?_
  refine A7 (Di (Gw ?_))
  refine Lg.yield O O O (E (parts v k) (cutp v 1 (4*k) (4*k+4)) G u h) ?_
  rintro _ H ⟨rfl,B,C⟩
  rw [← GU] at B
  have t:=f.keep (C.2 p (.inl rfl) (AY f))
  have y:=m.keep (C.2 q (.inr rfl) (AY m))
  refine Lg.plain 1 (by kernel_rfl)<|Aa (Cq O) O ?_
  refine A7 (Di (Gw (Lg.nil ?_)))
  refine Cz (Dr ?_)
  refine Cg.condB O false (rfl)<|Cg.skip<|F8 ?_
  refine Cz (Dr ?_)
  refine C4 (by kernel_rfl)<|Ad O<|Aa (An (BD _) O ‹_› rfl) O ?_
  refine Cn O (by omega)<|Ab O ?_
  refine A7 (Di ?_)
  exact Cz (Pg.next (k+1) ⟨rfl,rfl,rfl,(cngA (fun z=>some (Value.int .i64 z)) (by omega)),trivial⟩ (⟨c,B,t,y⟩) (by omega))
 intro g
 have c:k=K:=by have:=AC g;omega
 subst c
 exact Cg.exit<|Gg<|Gg<|Pg.blkHit<|Pg.closeE<|Pw.end0 rfl<|e
theorem MO {v:Value} {c:Nat} (a:Mb v c) {K:Nat}:(parts v K).all (·.oneCell')=true:=List.all_eq_true.2 fun x b=>by
 obtain ⟨i, -,rfl⟩:=List.mem_map.1 b
 obtain ⟨d,cap,rfl, -⟩:=a
 exact OX ⟨_,_,_,rfl⟩
theorem G6 (v:Value) (K:Nat):(parts v K).length=K:=by simp [parts]
theorem Mm {v:Value} {c K:Nat} {a:List Value} {x:Value} (b:Mb v c) (h:a++[x]<+:parts v K):[x].all (·.oneCell')=true:=by
 obtain ⟨t,h⟩:=h
 have:=MO b (K:=K)
 rw [← h,List.all_append,List.all_append,Bool.and_eq_true,Bool.and_eq_true] at this
 exact this.1.2
theorem Lk (p q K:Nat) (v:Value) (W:World) (hp:AK W p 28 [v]) (hq:AK W q 3 [.int .i64 4]) (Y:Mb v (4*K)) (hK:K≤100000):
  AO prog 230 [.slice none 0 0, .func (.func 231) #[] #[.pointer (some ⟨p,0,none⟩), .pointer (some ⟨q,0,none⟩)]] W (fun r w' =>Below W.heap.size W w' ∧w'.ownsRow W.heap.size 28 1 r K (parts v K)):=by
 have f:=Below.refl W.heap.size W
 refine Fm (n:=13) func230 (by kernel_rfl) O O O<|Dq<|C4 (by kernel_rfl)<|Ar (Xw.box (cs:=[.slice none 0 0]) O O) O ?_
 rintro _ w ⟨rfl,a,t,hz⟩
 have f:=bt f t
 have I:=hp.bs t
 have V:=hq.bs t
 have yp:=AY hp
 have yq:=AY hq
 have ys:=AY a
 refine Ab O ?_
 refine A7 (Di ?_)
 refine Cz (Dr ?_)
 refine Dq<|Dq<|C4 (by kernel_rfl)<|Ad O ?_
 refine A7 (Di ?_)
 refine Cz (Dr ?_)
 refine Cg.block ?_
 refine Cg.range O ((Pa p q K v w I V Y hK)) (fun i e=>by have e:i=p∨i=q:=e;omega) (fun _=>rfl) (by kernel_rfl) (fun (c:List (Value)) w' =>∃y,AK w' W.heap.size 166 [y]∧w'.ownsRow W.heap.size 28 1 y c.length c∧Below W.heap.size W w') (by rintro _ ⟨⟩) ?_ ?_ ?_ ?_ ?_
 ·exact ⟨_,a,World.ownsRow_nil _ _ _ _,f⟩
 ·rintro c A A' ⟨y,M,H,U⟩ B
  exact ⟨y,M.nc B,JY H B,U.nc B (Nat.le_of_lt ys) (AQ _)⟩
 ·rintro c A A' ⟨y,M,H,U⟩ B
  obtain ⟨r,g,T⟩:=B
  have T:r=none:=T.elim id id
  subst T
  have J:=FW g (AQ _) fun _ e=>by cases e
  exact ⟨y,M.bs J,AG H J,bt U J⟩
 ·rintro lp c x w3 hl ⟨y,a,j,f⟩ m F
  have z3:=AY a
  refine C4 (by kernel_rfl)<|Ab O ?_
  refine A7 (Di ?_)
  refine Pg.asg (KeepsFrom.refl _ _) (Kp.refl) ?_
  rintro w t hz F
  have a:=a.nc t
  have j:=JY j t
  have f:=f.nc t (by omega) (AQ _)
  have hlp:c.length<K:=by have:=m.length_le;rw [length_append,G6] at this;simp at this;omega
  have el:c.length+1=(c++[x]).length:=by simp
  refine Cg.block<|C4 (by kernel_rfl)<|Aa (An (Pk _) O ‹_› rfl) O ?_
  refine Ad O<|Ar (Ch (vs:=[x]) EN OE O O O (Mm Y m) O) O ?_
  rintro q3 w5 ⟨S, -,l, -⟩
  have a:=a.bs l
  have j:=AG j l
  have f:=bt f l
  have zB:=AA f
  refine Ar (Co (base:=W.heap.size) EN OE O (by decide) O O j (AH S) (Mm Y m) (by omega) (by omega) zB) O ?_
  rintro N w6 ⟨s,X,L, -⟩
  have ne:∀b,y.ownBlock=some b→b≠W.heap.size:=fun b e C=>by
   obtain ⟨ds,G⟩:=AW.ty (.inl j) e
   rw [C] at G
   exact absurd (DE G a) (by decide)
  have o:=a.by L (fun e=>ne _ e.symm rfl)
  have Z:∀b,N.ownBlock=some b→b≠W.heap.size:=fun b e C=>by
   obtain ⟨ds,G⟩:=AW.ty (.inl s) e
   rw [C] at G
   exact absurd (DE G o) (by decide)
  have D:=f.trans X
  rw [el] at s
  refine Ax (B5 (u:=N) (QC _) O O (AH s).one' o Nat.zero_lt_one) ?_
  rintro w7 ⟨E,z,hz7⟩
  have R:=BE s fun k e=>z.block k (AD s k e).2 fun C=>Z k e (Option.some.inj C)
  have Q:=D.grown z (AA D) (by rintro _ e;have:=Option.some.inj e;omega)
  refine A7 (Di ?_)
  refine F8 ?_
  exact Pg.rnd ((((KeepsFrom.refl _ _).bs l).own j L).blk o z) (((Kp.refl.bs l).grown L (fun k e (h:k=p∨k=q)=>by have:=(AD j k e).1;omega)).grown z (fun k e (h:k=p∨k=q)=>by have:=Option.some.inj e;omega)) (⟨N,E,R,Q⟩)
 rintro d w hd ⟨y,a,j,f⟩ hD
 rw [G6] at j
 have zB:=AY a
 refine F8 ?_
 refine Cz (Dr ?_)
 refine Dq<|C4 (by kernel_rfl)<|Aa (An (Pk _) O ‹_› rfl) O ?_
 refine Ab O ?_
 refine A7 (Di ?_)
 refine Cz (Dr ?_)
 refine Cg.ret ?_
 refine Pg.close (hD) (fun w t _=> ?_)
 have j:=JY j t
 have f:=f.nc t (by omega) (AQ _)
 exact Am rfl rfl<|⟨f,j⟩
theorem Nu (p q K:Nat) (v:Value) (W:World) (a:AK W p 28 [v]) (c:AK W q 3 [.int .i64 4]) (d:Mb v (4*K)) (e:K≤100000):
  AO prog 156 [.func (.func 231) #[] #[.pointer (some ⟨p,0,none⟩), .pointer (some ⟨q,0,none⟩)]] W (fun r w' =>Below W.heap.size W w' ∧w'.ownsRow W.heap.size 28 1 r K (parts v K)):=by
 refine A5 (n:=5) func156 O<|Ah<|Ab O<|Au<|Ad O<|Ai O O (Lk p q K v W a c d e) ?_
 rintro r w' ⟨f,b⟩
 exact Ab rfl<|Aq<|Am rfl rfl<|⟨f,b⟩
theorem KE:∀(i:Nat) (t:List (BitVec 8)),(EA t).drop i=EA (t.drop (4*i))
 |0,t=>by simp
 |i+1,t=>by
  by_cases h:4≤t.length
  ·rw [M1 h,List.drop_succ_cons,KE i,drop_drop,show 4+4*i=4*(i+1) by omega]
  ·rw [I8 (show t.length<4 by omega),List.drop_nil,I8 (by rw [length_drop];omega)]
theorem Ox {i:Nat} {t:List (BitVec 8)} (h:4*i+4≤t.length):(EA t).getD i default=gf ((t.drop (4*i)).take 4):=by
 have e:=KE i t
 rw [M1 (l:=t.drop (4*i)) (by rw [length_drop];omega)] at e
 have a:(EA t)[i]? =some (gf (t.drop (4*i))):=by
  have:((EA t).drop i)[0]? =some (gf (t.drop (4*i))):=by rw [e];rfl
  rwa [getElem?_drop] at this
 rw [getD_eq_getElem?_getD,a]
 simp [gf]
theorem Ol {v:Value} {K i:Nat} (h:i<K):(parts v K).getD i default=cutp v 1 (4*i) (4*i+4):=by
 simp [parts,h]
theorem NV {w:World} {v:Value} {t:List (BitVec 8)} {i:Nat} (h:BG b8 w v t) (b:4*i+4≤t.length):BG b8 w (cutp v 1 (4*i) (4*i+4)) ((t.drop (4*i)).take 4):=by
 have a:=Sl.cutp h (i:=4*i) (j:=4*i+4) (by omega) b
 have l:((t.drop (4*i)).take 4).length=4:=by rw [length_take,length_drop];omega
 unfold BG
 rw [l]
 rw [show 4*i+4 - 4*i=4 by omega,Nat.mul_one,Nat.mul_one,← map_drop,← map_take] at a
 exact a
theorem MI (v:Value) (l:List (BitVec 8)) (w:World) (a:BG b8 w v l) (b:4≤l.length):AO prog 159 [v] w (fun r w' =>r=i32 (gf l)∧Below w.heap.size w w'):=by
 refine A5 (n:=6) func159 O<|Ah<|Aa (B0 (show _=some (i32 (0#32)) from rfl)) O<|Au<|Ad O<|Ai O O (OO v l w a b) ?_
 rintro _ d ⟨rfl,c⟩
 exact Aa (Fu FQ R4 rfl) rfl<|Ab rfl<|Aq<|Am rfl rfl<|⟨rfl,c⟩
theorem Qg (v q:Value) (t:List (BitVec 8)) (K:Nat) (w:World) (u:BG (fun x:Value=>x) w v (parts q K)) (I:BG b8 w q t) (G:t.length=4*K) (N:K≤4096):
  AO prog 158 [v, .func (.func 159) #[] #[]] w (fun r w' =>w'.ownsRow w.heap.size 21 1 r (EA t).length ((EA t).map i32)∧Below w.heap.size w w'):=by
 have C:=G6 q K
 have y:=KF K t G
 obtain ⟨l,E⟩:∃l,l=EA t:=⟨_,rfl⟩
 rw [← E] at y ⊢
 have L:=u.le
 refine A5 (n:=26) func158 O<|Ah<|Ab O<|Au<|Ad O<|Aa (Ay EN O ‹_›) O ?_
 refine Ar (F1 Jv Qr O O O (AQ _) (by omega) (by omega)) O ?_
 rintro x B ⟨a, -,d, -⟩
 have f:=u.bs d
 obtain ⟨z,D⟩:∃z,z=replicate l.length 0#32:=⟨_,rfl⟩
 have m:l.length=z.length:=by rw [D,length_replicate]
 have F:(replicate (parts q K).length [Value.int .i32 0]).flatten=z.map i32:=by rw [D,C,← y];exact I2 (enc:=i32) (z:=0#32) l.length
 rw [F] at a
 refine Ab O<|Ba<|Ad O<|Aa (Ay EN O ‹_›) O ?_
 refine Ad O<|Ak<|Av ?_
 refine B4 (S:=Nat) (fun i=>[(1, .func (.func 159) #[] #[]),(5,x),(11,v),(12, .int .i64 ((parts q K).length:Int)),(13, .int .i64 (i:Int))]) (fun i w' =>i≤l.length∧w'.ownsRow w.heap.size 21 1 x l.length ((l.take i++z.drop i).map i32)∧Below w.heap.size w w') (fun i=>l.length - i) (0) ⟨rfl,rfl,rfl,rfl,rfl,trivial⟩ ?_ ?_
 ·exact ⟨by omega,by rw [P1,y,← C];exact a,d⟩
 clear a d f
 rintro i B ⟨R,a,d⟩
 have f:=u.bs d
 refine Ah<|B9 O<|Ak<|Ap<|Al O ?_ ?_
 ·intro h
  have c:i<l.length:=by simp at h;omega
  have o:i<K:=by omega
  have k:4*i+4≤t.length:=by omega
  have A:=NV (I.bs d) k
  have Q:((t.drop (4*i)).take 4).length=4:=by rw [length_take,length_drop];omega
  have J:gf ((t.drop (4*i)).take 4)=l.getD i default:=by rw [E];exact (Ox k).symm
  refine B2<|Ap<|Av<|Ah<|Ad O<|Aa (A8 EN O O ‹_› _ O (by omega)) O ?_
  refine Aa (Ex.as (Be (GP _) O f (by omega)) (Ol o)) O<|Ab O<|Ab O<|Ak<|A4<|Ad O<|Ad O<|Ad O<|Ad O<|Eg (p:=[]) O O O (MI (cutp q 1 (4*i) (4*i+4)) ((t.drop (4*i)).take 4) B A (by omega)) ?_
  rintro _ T ⟨rfl,g⟩
  rw [J]
  have a:=AG a g
  have s:=(AH a).shp
  refine Aa (Gc Jv O O s i O c) O<|Ax (Xu.stO (R8 _) O O O a (by simp;omega)) ?_
  rintro M ⟨j,H, -⟩
  rw [← map_set,Q8 m (by omega)] at j
  refine A7<|Bb<|Cx<|Cn O (by omega)<|Ad O<|A7 ?_
  exact A3 (B1 (i+1) ⟨rfl,rfl,rfl,rfl,rfl,trivial⟩ (⟨c,j,(bt d g).grown H (AA (bt d g)) fun b e=>(AD a b e).1⟩) (by omega))
 intro h
 have c:i=l.length:=by simp at h;omega
 subst c
 rw [m,Q9 m,← m] at a
 exact Bx<|A0<|A0<|Bh<|Cl<|Ad rfl<|Ab rfl<|Aq<|Am rfl rfl<|⟨a,d⟩
theorem Nt (v:Value) (n:BitVec 32) (t:List (BitVec 8)) (W:World) (h:BG b8 W v (Crc.four n++t)) (m:t.length=4*n.toNat) (f:n.toNat≤4096):
  AO prog 55 [v] W (fun r w' =>Below W.heap.size W w' ∧∃y e,r= .tuple #[y, .int .i64 e, .int .i64 0]∧w'.ownsRow W.heap.size 21 1 y (EA t).length ((EA t).map i32)):=by
 have A:=Below.refl W.heap.size W
 have lt:(Crc.four n++t).length=4+4*n.toNat:=by rw [length_append,m];rfl
 have I:gf (Crc.four n++t)=n:=O8 n
 have C:¬(Crc.four n++t).length<4:=by omega
 refine A5 (n:=33) func55 O<|Ah<|Ab O<|Ab O<|Ab O<|Au<|Ad O<|Ai O O (JB v (Crc.four n++t) _ h) ?_
 rintro _ w ⟨rfl,d⟩
 rw [if_neg C,if_neg C,I]
 have A:=A.bs d
 have h:=h.bs d
 refine Ad O<|Aa (Ex.extract (i:=0) O O) O<|Aa (Ex.extract (i:=1) O O) O<|Ab O<|Ab O<|Ba<|Ad O<|Aa (Ct O O) O<|Ak<|Cm O false (rfl)<|B2<|Ap<|Ah<|Ad O<|Aa (C1 O O) O<|Ak<|Al O ?_ ?_
 ·intro g
  have g:=AE g
  omega
 intro g
 clear g
 obtain ⟨T,H⟩:∃T,T=4+4*n.toNat:=⟨_,rfl⟩
 refine B2<|Ap<|Ah<|Ad O<|Aa (Gn FQ H7 O) O<|Aa (Eo O O (by omega)) O<|Aa (Ex.as (D7 O O (by omega)) (cngA (Value.int .i64) (show 4+4*(n.toNat:Int)=(T:Int) by omega))) O<|Ab O<|Au<|Ad O<|Ad O<|Aa (Ay AV O ‹_›) O ?_
 refine Aa (C1 O O) O<|Ak<|Al O ?_ ?_
 ·intro g
  have g:=AE g
  omega
 intro g
 clear g
 have a:BG b8 w (cut v 1 4 T) t:=by
  have:=BG.drop h (i:=4) (by omega)
  rw [lt,← H] at this
  exact this
 have sh:=a.shp
 rw [m] at sh
 refine Ca<|Ad O<|Ad O<|Aa (Ex.cutLH (i:=4) (j:=T) AV O O O h (by omega) (by omega)) O<|Ai O O (Qc (cut v 1 4 T) w a.one) ?_
 rintro _ E ⟨d,p,q,rfl,J,F,l,z⟩
 have k:=bt A d
 have a:=a.bs d
 refine Ai O O (Nu p q n.toNat (cut v 1 4 T) E l z sh (by omega)) ?_
 rintro r D ⟨c,s⟩
 have b:=bt k c
 have a:=a.bs c
 have B:BG (fun x:Value=>x) D r (parts (cut v 1 4 T) n.toNat):=by
  have:=AH s
  unfold BG
  rw [G6,List.map_id']
  exact this
 have G:=AA b
 refine Ab O<|Au<|Ad O<|Ai O O (Qg r (cut v 1 4 T) t n.toNat D B a m f) ?_
 rintro y K ⟨u,o⟩
 exact Ad rfl<|Ab rfl<|Ab rfl<|Ab rfl<|Aq<|Pw.ret3 rfl rfl rfl rfl<|⟨bt b o,y,_,rfl,CW u G⟩

theorem ML (v:Value) (l:List (BitVec 8)) (n:BitVec 32) (W:World) (c:BG b8 W v l) (i:l.length≤4194304):
  AO prog 45 [v,u32 n] W (fun r w' =>Below W.heap.size W w' ∧w'.ownsRow W.heap.size 5 1 r (l++Crc.four n).length ((l++Crc.four n).map b8)):=by
 have b:=Below.refl W.heap.size W
 refine A5 (n:=9) func45 O<|Ah<|Ab O<|Au<|Ad O<|Ad O<|Ar (Ch (vs:=[n].map u32) JS RX O O O O O) O ?_
 rintro y w ⟨e, -,a, -⟩
 have d:=AN e
 have b:=b.bs a
 have c:=c.bs a
 clear a e
 refine Ai O O (RF v y l [n] w c d (by simp;omega)) ?_
 rintro r w' ⟨f,a⟩
 have h:=AA b
 have g:l++CG [n]=l++Crc.four n:=by rw [IS];simp [CG]
 rw [g] at f
 exact Ab rfl<|Aq<|Am rfl rfl<|⟨bt b a,CW f h⟩

theorem Nx (A:Nat) (x:Value) (w:World) (a:AK w A 4 [x]):
  CallsD prog 154 [Value.pointer (some ⟨A,0,none⟩)].toArray (.panicking [{v:=LU,recovered:=false}]) w fun e d w' =>e= .returned (.tuple #[])∧d= .panicking [{v:=LU,recovered:=true}]∧(AK w' A 4 [.bool false]∧w.grownBy w' (some A)):=by
 refine Lf (n:=10) func154 O (fun ρ=>rfl) O O O fun o cs=> ?_
 have l:=AU (Below.refl w.heap.size w) (some A)
 refine Av<|Ah<|Aa (Fy (by kernel_rfl) O) O<|Ak<|Cm O false (rfl)<|Ah<|Aa (Gp (fun _=>by kernel_rfl) O) O<|Aa (Ex.extract (i:=1) O O) O<|Aa (Ex.extract (i:=0) O O) O<|Ak<|Cm O true (rfl)<|Ah<|Cu (cs:=[]) Rd O O O O (fun _=>rfl) (rfl) ?_
 rintro j m b f c k
 have a:=a.bs c
 refine Ak<|A4<|Ax (B5 (u:= .bool false) (R7 _) O O O a Nat.zero_lt_one) ?_
 rintro p ⟨h,g, -⟩
 exact A7<|Bb<|Gf rfl<|⟨rfl,rfl,h,AI (AU c _) g⟩
theorem Nw (A:Nat) (w:World):
  CallsD prog 154 [Value.pointer (some ⟨A,0,none⟩)].toArray .returning w fun e a w' =>e= .returned (.tuple #[])∧a= .returning∧w' =w:=by
 refine Le (n:=10) func154 O (fun ρ=>rfl) O O O fun b cs=>Av<|Ah<|Aa (Fx (by kernel_rfl) O) O<|Ak<|Cm O true (rfl)<|A4<|Ab O<|A7<|Bb<|Gf O ?_
 exact ⟨rfl,rfl,rfl⟩
theorem Jy (F:FuncId) (caps:List Value) (W:World) (R K:Nat→World→Prop)
  (m:∀A w,A=W.heap.size→Below W.heap.size W w→AK w A 4 [.bool false]→H6 prog F caps w LU (fun r w' =>r= .tuple #[]∧AK w' A 4 [.bool false]∧R A w') (fun w' =>AK w' A 4 [.bool false]∧K A w')):
  AO prog 50 [.func (.func F) #[] caps.toArray] W (fun r w' =>∃A g,A=W.heap.size∧g.grownBy w' (some A)∧((r= .bool true∧R A g)∨(r= .bool false∧K A g))):=by
 refine Gx (n:=6) func50 (by kernel_rfl) O O O<|Dq<|C4 (by kernel_rfl)<|C8 Sy O ?_
 rintro A w i d s -
 refine A7 (Di ?_)
 refine Cz (Dr ?_)
 refine Dq<|Fq<|Lg.plain 1 (by kernel_rfl)<|Aa (Ek (vs:=[]) (us:=[.pointer (some ⟨A,0,none⟩)]) O O) O ?_
 refine A7 (Di ?_)
 refine Gw<|Lg.defer (f:=154) (caps:=[.pointer (some ⟨A,0,none⟩)]) O<|Lg.nil ?_
 refine Cz (Dr ?_)
 refine Dq<|C4 (by kernel_rfl)<|Ad O ?_
 have k:∀w,(invoke (.fn (.func 154) [Value.pointer (some ⟨A,0,none⟩)].toArray) #[]).run prog w= .ok (.enter 154 [Value.pointer (some ⟨A,0,none⟩)].toArray) w:=fun w=>by
  simp [invoke,CU (P:=prog) (w:=w) ⟨_,func154,by kernel_rfl,rfl⟩]
 refine Lw.callVQ (caps:=caps) O O (m A w i s d) (fun w' q=>Pg.lowP (Pg.thenP ?_)) ?_
 ·obtain ⟨c,l⟩:=q
  refine Pg.panD (k w') (Nx A _ w' c) ?_
  rintro j ⟨h,b⟩ a e
  exact ⟨_,GJ (v:= .bool false) rfl h underlying4 rfl (e.has 2 _ rfl),A,w',i,b, .inr ⟨rfl,l⟩⟩
 rintro _ o ⟨rfl,c,p⟩
 refine A7 (Di ?_)
 refine Cz (Dr ?_)
 refine Dq<|C4 (by kernel_rfl)<|Ax (B5 (u:= .bool true) (R7 _) O O O c Nat.zero_lt_one) ?_
 rintro j ⟨h,b, -⟩
 refine A7 (Di ?_)
 refine Cz (Dr ?_)
 exact Cg.ret<|Pg.retD (k j) (Nw A j) fun a e=>⟨_,GJ (v:= .bool true) rfl h underlying4 rfl (e.has 2 _ rfl),A,o,i,b, .inl ⟨rfl,p⟩⟩

theorem Sr (x:BitVec 8):BitVec.ofInt 8 (x.toNat:Int)=x:=by
 apply BitVec.eq_of_toNat_eq
 have:=x.isLt
 simp
theorem JM.bs {W w w' :World} {A:Nat} {v:Value} {l:Bs} (h:JM W w A v l) (g:Below w.heap.size w w'):JM W w' A v l:=⟨h.sl,bt h.bel g,h.lo,h.cell.bs g⟩
theorem JM.grow {W w w' :World} {A:Nat} {v:Value} {l:Bs} {r:Option Nat} (h:JM W w A v l) (g:w.grownBy w' r) (a:∀b,r=some b→W.heap.size≤b∧b≠A):JM W w' A v l:=
 ⟨h.sl,h.bel.grown g (AA h.bel) fun b e=>(a b e).1,h.lo,h.cell.by g fun e=>(a A e.symm).2 rfl⟩
theorem Ic (W w:World) (A:Nat) (v:Value) (l:Bs) (e:JM W w A v l):
  H6 prog 52 [.pointer (some ⟨A,0,none⟩)] w LU
   (fun r w' =>∃b a,HE l=some (b,a)∧w.grownBy w' (some A)∧w'.heap.size=w.heap.size∧r= .int .i64 (b.toNat:Int)∧∃v',JM W w' A v' a) (fun w' =>HE l=none∧w' =w):=
 (Od W w A v l e).mono (fun _ _ ⟨f,c,i,d,g⟩=>⟨_,_,J1 f,c,i,d,g⟩) fun _ h=>⟨MP.2 h.1,h.2⟩
theorem K8 (W w:World) (A:Nat) (v:Value) (l:Bs) (d:JM W w A v l):
  H6 prog 53 [.pointer (some ⟨A,0,none⟩)] w LU
   (fun r w' =>∃t a,Hc l=some (t,a)∧w.grownBy w' (some A)∧AW w' w.heap.size 3 1 r t.length (t.map (Value.int .i64))∧∃v',JM W w' A v' a) (fun w' =>Hc l=none∧w.grownBy w' (some A)):=
 (P9 W w A v l d).mono (fun _ _ ⟨e,b,g,c,f⟩=>⟨_,_,L1 e b,g,c,f⟩) fun _ h=>⟨L2.2 h.1,h.2⟩
structure Gt (W w x:World) (Rc A M T:Nat) (rest:Bs) (ls:List N5) (vn:Value) (ts:List T4) (vw:Value):Prop where
 chg:FA (fun b=>b=A∨b=M) w x
 c:AK x Rc 97 [.pointer (some ⟨A,0,none⟩)]
 m:AK x M 27 [vn,vw]
 r:∃v',JM W x A v' rest
 o:x.ownsRow w.heap.size 79 5 vn ls.length (HT N5.cells ls)
 u:x.ownsRow w.heap.size 75 2 vw ts.length (cellsOf ts)
 lay:∃mid,FK x w.heap.size mid ls∧AT x mid T ts
 top:T≤x.heap.size
structure Qz (W w:World) (Rc A M:Nat):Prop where
 c:W.heap.size≤Rc∧Rc<w.heap.size
 a:W.heap.size≤A∧A<w.heap.size
 m:W.heap.size≤M∧M<w.heap.size
 ca:Rc≠A
 cm:Rc≠M
 am:A≠M
theorem Gt.bs {W w x y:World} {e A M T:Nat} {a:Bs} {ls:List N5} {c:Value} {ts:List T4} {d:Value} (h:Gt W w x e A M T a ls c ts d) (g:Below x.heap.size x y):Gt W w y e A M T a ls c ts d:=by
 obtain ⟨v',r⟩:=h.r
 obtain ⟨b,f,l2⟩:=h.lay
 exact ⟨h.chg.below g,h.c.bs g,h.m.bs g,⟨v',r.bs g⟩,AG h.o g,AG h.u g,⟨b,f.bs g,l2.bs g⟩,Nat.le_trans h.top g.size⟩
theorem Gt.rd {W w x y:World} {f A M T:Nat} {c a:Bs} {ls:List N5} {l:Value} {ts:List T4} {j:Value} (L:Qz W w f A M) (h:Gt W w x f A M T c ls l ts j) (g:x.grownBy y (some A)) (r:∃v',JM W y A v' a):Gt W w y f A M T a ls l ts j:=by
 obtain ⟨i,o,l2⟩:=h.lay
 obtain ⟨v',r⟩:=r
 have m:∃cs,AK x A 99 cs:=by
  obtain ⟨q,n⟩:=h.r
  exact ⟨_,n.cell⟩
 have k:∀b,some A=some b→∃cs,AK x b 99 cs:=fun b e=>by cases e;exact m
 exact ⟨h.chg.grown g (fun b e=>by cases e;exact .inl (.inl rfl)),h.c.by g (fun e=>L.ca (Option.some.inj e)),h.m.by g (fun e=>L.am (Option.some.inj e).symm),⟨v',r⟩,
  BE h.o fun b e=>g.block b (AD h.o b e).2 fun d=>by
   have:=Option.some.inj d;have:=(AD h.o b e).1;have:=L.a.2;omega,
  BE h.u fun b e=>g.block b (AD h.u b e).2 fun d=>by
   have:=Option.some.inj d;have:=(AD h.u b e).1;have:=L.a.2;omega,
  ⟨i,o.other g k (by decide),l2.other g k (by decide) (by decide)⟩,Nat.le_trans h.top g.size⟩
theorem Gt.ob {W w x y:World} {f A M T B:Nat} {a:Bs} {ls:List N5} {j:Value} {ts:List T4} {c:Value} {U:TypeId} {cs:List Value} (L:Qz W w f A M) (h:Gt W w x f A M T a ls j ts c) (g:x.grownBy y (some B)) (s:w.heap.size≤B) (n:AK x B U cs)
  (k:3≠U) (m:21≠U) (p:j.ownBlock≠some B) (o:c.ownBlock≠some B):Gt W w y f A M T a ls j ts c:=by
 obtain ⟨v',r⟩:=h.r
 obtain ⟨i,q,l2⟩:=h.lay
 have u:=L.a
 have t:=L.c
 have v:=L.m
 have l:∀b,some B=some b→∃cs,AK x b U cs:=fun b e=>by cases e;exact ⟨_,n⟩
 exact ⟨h.chg.grown g (fun b e=>by cases e;exact .inr s),h.c.by g (fun e=>by have:=Option.some.inj e;omega),h.m.by g (fun e=>by have:=Option.some.inj e;omega),⟨v',r.grow g fun b e=>by cases e;omega⟩,
  BE h.o fun b e=>g.block b (AD h.o b e).2 fun d=>p (by rw [e,d]),
  BE h.u fun b e=>g.block b (AD h.u b e).2 fun d=>o (by rw [e,d]),
  ⟨i,q.other g l k,l2.other g l k m⟩,Nat.le_trans h.top g.size⟩
theorem Gt.up {W w x:World} {e A M T:Nat} {a:Bs} {ls:List N5} {c:Value} {ts:List T4} {d:Value} (h:Gt W w x e A M T a ls c ts d):Gt W w x e A M x.heap.size a ls c ts d:=by
 obtain ⟨b,f,l2⟩:=h.lay
 exact ⟨h.chg,h.c,h.m,h.r,h.o,h.u,⟨b,f,l2.topM h.top⟩,AQ _⟩
def Kt (w x:World) (A M:Nat):Prop:=FA (fun b=>b=A∨b=M) w x∧∃p q,AK x M 27 [p,q]
theorem Gt.k {W w x:World} {d A M T:Nat} {a:Bs} {ls:List N5} {b:Value} {ts:List T4} {c:Value} (h:Gt W w x d A M T a ls b ts c):Kt w x A M:=⟨h.chg,_,_,h.m⟩
theorem Gt.kg {W w x y:World} {c A M T:Nat} {a:Bs} {ls:List N5} {d:Value} {ts:List T4} {f:Value} (h:Gt W w x c A M T a ls d ts f) (L:Qz W w c A M) (g:x.grownBy y (some A)):Kt w y A M:=
 ⟨h.chg.grown g (fun b e=>by cases e;exact .inl (.inl rfl)),_,_,h.m.by g (fun e=>L.am (Option.some.inj e).symm)⟩
theorem KZ (ls:List N5) (c:N5):HT N5.cells (ls++[c])=HT N5.cells ls++c.cells:=by simp [HT]
theorem Gt.node {W w x y z:World} {B A M T:Nat} {a:Bs} {ls:List N5} {q f:Value} {n:Value} {c:N5} {p l:Nat} (L:Qz W w B A M) (h:Gt W w x B A M T a ls q [] n) (N:NK x p l c) (D:T≤p) (H:p≤l) (S:l≤x.heap.size)
  (o:y.ownsRow w.heap.size 79 5 f (ls.length+1) (HT N5.cells ls++c.cells)) (g:x.grownBy y q.ownBlock) (d:y.grownBy z (some M)) (m:AK z M 27 [f,n]):Gt W w z B A M l a (ls++[c]) f [] n:=by
 obtain ⟨v',r⟩:=h.r
 obtain ⟨j,K,l2⟩:=h.lay
 have U:=L.a
 have R:=L.c
 have Q:=L.m
 have C:∀b,q.ownBlock=some b→∃cs,AK x b 79 cs:=fun b e=>AW.ty (.inl h.o) e
 have s:∀b,q.ownBlock=some b→w.heap.size≤b:=fun b e=>(AD h.o b e).1
 have F:=h.c.by g (fun e=>by have:=s _ e.symm;omega)
 have I:=h.m.by g (fun e=>by have:=s _ e.symm;omega)
 have E:=r.grow g fun b e=>by have:=s b e;omega
 have t:∀b,some M=some b→∃cs,AK y b 27 cs:=fun b e=>by cases e;exact ⟨_,I⟩
 have u:j≤p:=Nat.le_trans (show j≤T from l2) D
 have G:=((K.other g C (by decide)).snoc (N.other g C (by decide)) H u).other d t (by decide)
 refine ⟨(h.chg.grown g (fun b e=> .inr (s b e))).grown d (fun b e=>by cases e;exact .inl (.inr rfl)),F.by d (fun e=>L.cm (Option.some.inj e)),m,⟨v',E.grow d fun b e=>by cases e;exact ⟨Q.1,fun e=>L.am e.symm⟩⟩, ?_, ?_,⟨l,G,AQ _⟩, ?_⟩
 ·rw [length_append,KZ]
  exact BE o fun b e=>d.block b (AD o b e).2 fun i=>by
   have:=Option.some.inj i;have:=(AD o b e).1;omega
 ·have v:y.ownsRow w.heap.size 75 2 n 0 (cellsOf []):=BE h.u fun b e=>g.block b (AD h.u b e).2 fun i=>by
   obtain ⟨cs,k⟩:=C b i.symm
   obtain ⟨ds,J⟩:=AW.ty (.inl h.u) e
   exact absurd (DE J k) (by decide)
  exact BE v fun b e=>d.block b (AD v b e).2 fun i=>by
   have:=Option.some.inj i;have:=(AD v b e).1;omega
 ·have:=g.size
  have:=d.size
  omega
theorem H2:∀(ts:List T4) (c:T4),cellsOf (ts++[c])=cellsOf ts++[c.x,c.y]
 |[],c=>rfl
 |t::ts,c=>by rw [cons_append,cellsOf,cellsOf,H2 ts c];rfl
theorem Gt.tens {W w x y z:World} {v A M T:Nat} {d:Bs} {ls:List N5} {ts:List T4} {q:Value} {l f:Value} {c:T4} {t p:Nat} (L:Qz W w v A M) (h:Gt W w x v A M T d ls q ts l) (N:ET x t p c) (C:T≤t) (H:t≤p) (S:p≤x.heap.size)
  (o:y.ownsRow w.heap.size 75 2 f (ts.length+1) (cellsOf ts++[c.x,c.y])) (g:x.grownBy y l.ownBlock) (a:y.grownBy z (some M)) (m:AK z M 27 [q,f]):Gt W w z v A M p d ls q (ts++[c]) f:=by
 obtain ⟨v',r⟩:=h.r
 obtain ⟨B,K,l2⟩:=h.lay
 have U:=L.a
 have R:=L.c
 have Q:=L.m
 have n:∀b,l.ownBlock=some b→∃cs,AK x b 75 cs:=fun b e=>AW.ty (.inl h.u) e
 have s:∀b,l.ownBlock=some b→w.heap.size≤b:=fun b e=>(AD h.u b e).1
 have E:=h.c.by g (fun e=>by have:=s _ e.symm;omega)
 have I:=h.m.by g (fun e=>by have:=s _ e.symm;omega)
 have D:=r.grow g fun b e=>by have:=s b e;omega
 have i:∀b,some M=some b→∃cs,AK y b 27 cs:=fun b e=>by cases e;exact ⟨_,I⟩
 have F:=((l2.other g n (by decide) (by decide)).snocM (N.other g n (by decide) (by decide)) H C).other a i (by decide) (by decide)
 have G:=(K.other g n (by decide)).other a i (by decide)
 refine ⟨(h.chg.grown g (fun b e=> .inr (s b e))).grown a (fun b e=>by cases e;exact .inl (.inr rfl)),E.by a (fun e=>L.cm (Option.some.inj e)),m,⟨v',D.grow a fun b e=>by cases e;exact ⟨Q.1,fun e=>L.am e.symm⟩⟩, ?_, ?_,⟨B,G,F⟩, ?_⟩
 ·have u:y.ownsRow w.heap.size 79 5 q ls.length (HT N5.cells ls):=BE h.o fun b e=>g.block b (AD h.o b e).2 fun j=>by
   obtain ⟨cs,k⟩:=n b j.symm
   obtain ⟨ds,J⟩:=AW.ty (.inl h.o) e
   exact absurd (DE J k) (by decide)
  exact BE u fun b e=>a.block b (AD u b e).2 fun j=>by
   have:=Option.some.inj j;have:=(AD u b e).1;omega
 ·rw [length_append,H2]
  exact BE o fun b e=>a.block b (AD o b e).2 fun j=>by
   have:=Option.some.inj j;have:=(AD o b e).1;omega
 ·have:=g.size
  have:=a.size
  omega
theorem DX {w w' :World} {a sz k:Nat} {E T:TypeId} {v:Value} {xs:List Value} {r:Option Nat} (h:w.ownsRow a E sz v k xs) (g:w.grownBy w' r) (f:∀b,r=some b→∃cs,AK w b T cs) (i:E≠T):w'.ownsRow a E sz v k xs:=
 BE h fun b e=>g.block b (AD h b e).2 fun j=>by
  obtain ⟨cs,c⟩:=f b j.symm
  obtain ⟨ds,d⟩:=AW.ty (.inl h) e
  exact i (DE d c)
theorem Gt.gn {W w x:World} {i A M T:Nat} {b:Bs} {ls:List N5} {c:Value} {ts:List T4} {g:Value} (h:Gt W w x i A M T b ls c ts g):GN x c ls:=by
 obtain ⟨f,e, -⟩:=h.lay
 exact ⟨AH h.o,fun a d=>(e.each a d).at⟩
theorem Pe (k:BitVec 8):Tryz.prog.built 79 [(0,b8 k)]=some [b8 k, .slice none 0 0, .slice none 0 0, .int .i64 0, .int .i64 0].toArray:=by
 have a:Tryz.prog.info? 79=some Tryz.t79:=by kernel_rfl
 have b:Tryz.prog.info? 3=some Tryz.t3:=by kernel_rfl
 have d:Tryz.prog.info? 77=some Tryz.t77:=by kernel_rfl
 have c:Tryz.prog.info? 70=some Tryz.t70:=by kernel_rfl
 simp [Program.built,a,underlying79,b,d,c,Instr.fill]
 rfl
set_option maxHeartbeats 2000000 in
theorem Rh (W w:World) (Rc A M:Nat) (l:Bs) (L:Qz W w Rc A M) (h:Gt W w w Rc A M w.heap.size l [] (.slice none 0 0) [] (.slice none 0 0)):
  H6 prog 51 [.pointer (some ⟨Rc,0,none⟩), .pointer (some ⟨M,0,none⟩)] w LU
   (fun r w' =>r= .tuple #[]∧∃t ls ts vn vw,DG l=some (ls.map pn,ts.map pv,t)∧Gt W w w' Rc A M w'.heap.size t ls vn ts vw)
   (fun w' =>DG l=none∧Kt w w' A M):=by
 have la:=L.a
 have lc:=L.c
 have lm:=L.m
 have b_c:=h.c
 obtain ⟨v,r0⟩:=h.r
 refine Dk (n:=89) func51 (by kernel_rfl) O O O<|Ap<|Ah<|Aa (An (HW _) O ‹_› rfl) O ?_
 refine Cf O O (Ic W w A v l r0) (fun w' R=>Bc (Bc (Cj (⟨by rw [DG,R.1],R.2 ▸ h.k⟩)))) ?_
 rintro _ E ⟨b,l1,e1,a,hz,rfl,r1⟩
 have h:=h.rd L a r1
 clear b_c r0 a hz r1
 have b255:=b.isLt
 refine Ad O<|Ak<|Av ?_
 refine B4 (S:=(Nat×Bs×List N5×Value)) (fun z=>[(0, .pointer (some ⟨Rc,0,none⟩)),(1, .pointer (some ⟨M,0,none⟩)),(11, .int .i64 (b.toNat:Int)),(12, .int .i64 (z.1:Int))]) (fun z w' =>z.1≤b.toNat∧z.2.2.1.length=z.1∧CJ b.toNat l1=(CJ (b.toNat - z.1) z.2.1).map (fun q=>(z.2.2.1.map pn++q.1,q.2))∧Gt W w w' Rc A M w'.heap.size z.2.1 z.2.2.1 z.2.2.2 [] (.slice none 0 0)) (fun z=>b.toNat - z.1) ((0,l1,[], .slice none 0 0)) ⟨rfl,rfl,rfl,rfl,trivial⟩ ?_ ?_
 ·exact ⟨Nat.zero_le _,rfl,by simp,h.up⟩
 clear h
 rintro ⟨i,t,ls,vn⟩ w2 ⟨hi,hl,hN,h⟩
 dsimp only at hi hl hN h ⊢
 refine Ah<|B9 O<|Ak<|Ap<|Al O ?_ ?_
 ·intro g
  have hi' :i<b.toNat:=by have:=AE g;omega
  rw [show b.toNat - i=(b.toNat - (i+1))+1 by omega] at hN
  have no:EW t=none→DG l=none:=fun e=>by rw [DG,e1];simp only;rw [MV hN e]
  have b_c:=h.c
  obtain ⟨v2,r2⟩:=h.r
  refine B2<|Ap<|Av<|Ah<|Aa (An (HW _) O ‹_› rfl) O ?_
  refine Cf O O (Ic W w2 A v2 t r2) (fun w' R=>Bc (C2 (Bc (Bc (C2 (Bc (Cj (⟨no (by simp only [EW,R.1]),R.2 ▸ h.k⟩)))))))) ?_
  rintro _ w3 ⟨k,l2,e2,a,hz,rfl,r3⟩
  have h:=h.rd L a r3
  clear b_c r2 a hz r3
  refine Aa (Ex.as (Gm R1 BO O) (cngA b8 (Sr k))) O<|Aa (Bg (cs:=[b8 k, .slice none 0 0, .slice none 0 0, .int .i64 0, .int .i64 0]) O (Pe k)) O<|Cu (cs:=[b8 k, .slice none 0 0, .slice none 0 0, .int .i64 0, .int .i64 0]) GK O O O O (fun _=>rfl) (rfl) ?_
  rintro A_x w4 eA_x f m zhn
  have hv4:∀b,vn.ownBlock=some b→b<A_x:=fun b e=>by have:=(AD h.o b e).2;omega
  have zAx:w.heap.size≤A_x:=by have:=h.chg.size;omega
  have h:=h.bs m
  have nx:vn.ownBlock≠some A_x:=fun e=>by have:=hv4 _ e;omega
  refine Ak<|Ap ?_
  refine Cw.any mixed (fun w5 U _=> ?_)
  have h:=h.bs U
  have f:=f.bs U
  clear U
  have h:=h.up
  obtain ⟨v5,r5⟩:=h.r
  refine Dc (fun x=>AK x Rc 97 [.pointer (some ⟨A,0,none⟩)]) (fun hC=> ?_) (h.c)
  refine B8 (Az (Bo (Az (Az (Bo (Az Df))))))<|Aj 0 O (fun E s=>An (HW _) O s O) O<|Aj 2 O (fun E s=>An (HW _) O s O) O<|Br<|AR.only (h.c) (i:=1) (by kernel_rfl) O<|Cf O O (K8 W w5 A v5 l2 r5) (fun w' R=>Bc (Bc (C2 (Bc (Bc (C2 (Bc (Cj (⟨no (by simp only [EW,e2,R.1]),h.kg L R.2⟩))))))))) ?_
  rintro x1 w6 ⟨iL,l3,e3,a,I,r6⟩
  have h:=h.rd L a r6
  have f:=f.by a (fun e=>by have:=Option.some.inj e;omega)
  have z6:=a.size
  clear r5 a r6
  obtain ⟨v6,r6⟩:=h.r
  have y1:=I.lt
  refine AR.back<|B8 (Az (Bo (Az (Az (Bo (Az Df))))))<|Aj 4 O (fun E s=>Cr underlying79 O (BQ _)) O<|Br<|AR.only (h.c) (i:=3) (by kernel_rfl) O<|Cf O O (K8 W w6 A v6 l3 r6) (fun w' R=>Bc (Bc (C2 (Bc (Bc (C2 (Bc (Cj (⟨no (by simp only [EW,e2,e3,R.1]),h.kg L R.2⟩))))))))) ?_
  rintro x2 w7 ⟨sL,l4,e4,a,T,r7⟩
  have h:=h.rd L a r7
  have f:=f.by a (fun e=>by have:=Option.some.inj e;omega)
  replace I:=AB I a (fun b e=>by cases e;exact ⟨_,r6.cell⟩) (by decide)
  have z7:=a.size
  have y2:=T.lt
  clear r6 a r7
  have zx:=AY f
  refine AR.back<|AR.only (h.c) (i:=5) (by kernel_rfl) O<|Ax (B5 (u:=x1) (BQ _) O O I.slT.one' f (show 1<5 by decide)) ?_
  rintro w8 ⟨C,a, -⟩
  have h:=h.ob L a zAx f (by decide) (by decide) nx (by rintro ⟨⟩)
  replace I:=AB I a (fun b e=>by cases e;exact ⟨_,f⟩) (by decide)
  replace T:=AB T a (fun b e=>by cases e;exact ⟨_,f⟩) (by decide)
  have z8:=a.size
  clear f a
  refine AR.back<|B8 (Az (Bo (Az (Az (Bo (Az Df))))))<|Aj 6 O (fun E s=>Cr underlying79 O (BQ _)) O<|Br<|AR.only (h.c) (i:=7) (by kernel_rfl) O<|Ax (B5 (u:=x2) (BQ _) O O T.slT.one' C (show 2<5 by decide)) ?_
  rintro w9 ⟨f,a, -⟩
  have h:=h.ob L a zAx C (by decide) (by decide) nx (by rintro ⟨⟩)
  replace I:=AB I a (fun b e=>by cases e;exact ⟨_,C⟩) (by decide)
  replace T:=AB T a (fun b e=>by cases e;exact ⟨_,C⟩) (by decide)
  have z9:=a.size
  clear C a
  replace f:AK w9 A_x 79 [b8 k,x1,x2, .int .i64 0, .int .i64 0]:=f
  refine AR.back<|AR.done (h.c) (by kernel_rfl)<|A3<|Cc<|Ap ?_
  refine Cw.any mixed (fun wa U _=> ?_)
  have h:=h.bs U
  have f:=f.bs U
  have I:=I.bs U
  have T:=T.bs U
  have z10:=U.size
  clear U
  obtain ⟨va,ra⟩:=h.r
  refine Dc (fun x=>AK x Rc 97 [.pointer (some ⟨A,0,none⟩)]) (fun hC=> ?_) (h.c)
  refine B8 (Az (Bo (Az (Az (Bo (Az Df))))))<|Aj 0 O (fun E s=>An (HW _) O s O) O<|Aj 2 O (fun E s=>An (HW _) O s O) O<|Br<|AR.only (h.c) (i:=1) (by kernel_rfl) O<|Cf O O (Ic W wa A va l4 ra) (fun w' R=>Bc (Bc (C2 (Bc (Bc (C2 (Bc (Cj (⟨no (by simp only [EW,e2,e3,e4,R.1]),R.2 ▸ h.k⟩))))))))) ?_
  rintro _ wb ⟨nb,l5,e5,a,hz,rfl,rb⟩
  have h:=h.rd L a rb
  have f:=f.by a (fun e=>by have:=Option.some.inj e;omega)
  replace I:=AB I a (fun b e=>by cases e;exact ⟨_,ra.cell⟩) (by decide)
  replace T:=AB T a (fun b e=>by cases e;exact ⟨_,ra.cell⟩) (by decide)
  clear ra a rb
  obtain ⟨vb,rb⟩:=h.r
  refine AR.back<|B8 (Az (Bo (Az (Az (Bo (Az Df))))))<|Aj 4 O (fun E s=>Cr underlying79 O (BU _)) O<|Br<|AR.only (h.c) (i:=3) (by kernel_rfl) O<|Cf O O (Ic W wb A vb l5 rb) (fun w' R=>Bc (Bc (C2 (Bc (Bc (C2 (Bc (Cj (⟨no (by simp only [EW,e2,e3,e4,e5,R.1]),R.2 ▸ h.k⟩))))))))) ?_
  rintro _ wc ⟨pb,l6,e6,a,hz2,rfl,rc⟩
  have h:=h.rd L a rc
  have f:=f.by a (fun e=>by have:=Option.some.inj e;omega)
  replace I:=AB I a (fun b e=>by cases e;exact ⟨_,rb.cell⟩) (by decide)
  replace T:=AB T a (fun b e=>by cases e;exact ⟨_,rb.cell⟩) (by decide)
  clear rb a rc
  refine AR.back<|AR.only (h.c) (i:=5) (by kernel_rfl) O<|Ax (B5 (u:= .int .i64 (nb.toNat:Int)) (BU _) O O O f (show 3<5 by decide)) ?_
  rintro wd ⟨C,a,hz3⟩
  have h:=h.ob L a zAx f (by decide) (by decide) nx (by rintro ⟨⟩)
  replace I:=AB I a (fun b e=>by cases e;exact ⟨_,f⟩) (by decide)
  replace T:=AB T a (fun b e=>by cases e;exact ⟨_,f⟩) (by decide)
  clear f a
  refine AR.back<|B8 (Az (Bo (Az (Az (Bo (Az Df))))))<|Aj 6 O (fun E s=>Cr underlying79 O (BU _)) O<|Br<|AR.only (h.c) (i:=7) (by kernel_rfl) O<|Ax (B5 (u:= .int .i64 (pb.toNat:Int)) (BU _) O O O C (show 4<5 by decide)) ?_
  rintro we ⟨f,a,hz4⟩
  have h:=h.ob L a zAx C (by decide) (by decide) nx (by rintro ⟨⟩)
  replace I:=AB I a (fun b e=>by cases e;exact ⟨_,C⟩) (by decide)
  replace T:=AB T a (fun b e=>by cases e;exact ⟨_,C⟩) (by decide)
  clear C a
  obtain ⟨c,s⟩:∃c:N5,c=⟨k,x1,x2,iL,sL,(nb.toNat:Int),(pb.toNat:Int)⟩:=⟨_,rfl⟩
  replace f:AK we A_x 79 c.cells:=by rw [s];exact f
  have F:NK we w5.heap.size w7.heap.size c:=by
   rw [s]
   exact ⟨I,T.mono (by omega),fun b e=>by have:=y1 b e;omega,fun b e=>by have:=y2 b e;omega,fun b q1 q2=>by have:=y1 b q1;have:=y2 b q2;omega⟩
  have hcn:EW t=some (pn c,l6):=by rw [s];simp only [EW,e2,e3,e4,e5,e6];rfl
  have oc:=F.at.ones
  clear I T s
  have K:=h.m
  refine AR.back<|AR.done (h.c) (by kernel_rfl)<|Cx<|A6 underlying27 O (BZ _)<|A6 underlying24 O (BW _)<|Aa (An (DH _) O ‹_› rfl) O ?_
  refine Aa (Bu (k:=5) (GM _) (GI _) O O f) O<|Ar (Fk (cs:=c.cells) BX GK O O (by decide) (by decide)) O ?_
  rintro p9 wf ⟨G, -,m, -⟩
  have h:=h.bs m
  have F:=F.bs m
  have K:=h.m
  have zf:=h.chg.size
  have z7f:=m.size
  refine Ar (Co (base:=w.heap.size) BX GK O (by decide) O O h.o (AH G) oc (by omega) (by omega) zf) O ?_
  rintro y wg ⟨Q, -,a, -⟩
  have b_M' :=K.by a (fun e=>by have:=(AD h.o M e.symm).1;omega)
  refine A6 underlying27 O (BZ _)<|A6 underlying24 O (BW _)<|Ax (B5 (u:=y) (BW _) O O (AH Q).one' b_M' (show 0<2 by decide)) ?_
  rintro wh ⟨b_M2,hg2, -⟩
  have h:=Gt.node L h F (AQ _) (by omega) (by omega) Q a hg2 b_M2
  refine A7<|Bb<|Cx<|Cn O (by omega)<|Ad O<|A7 ?_
  exact A3 (B1 ((i+1,l6,ls++[c],y)) ⟨rfl,rfl,rfl,rfl,trivial⟩ (⟨hi',by rw [length_append,hl];rfl,by rw [KJ hN hcn,map_append];rfl,h.up⟩) (by simp only;omega))
 intro g
 have hi' :i=b.toNat:=by have:=AC g;omega
 clear g
 have hNR:CJ b.toNat l1=some (ls.map pn,t):=by rw [hN,hi',Nat.sub_self];simp [CJ]
 have no2:EI (Ky (ls.map pn)) t=none→DG l=none:=fun e=>by rw [DG,e1];simp only;rw [hNR];simp only;rw [e];rfl
 have yes2:∀ws r,EI (Ky (ls.map pn)) t=some (ws,r)→DG l=some (ls.map pn,ws,r):=fun ws r e=>by rw [DG,e1];simp only;rw [hNR];simp only;rw [e];rfl
 rw [Me] at no2 yes2
 clear hN hi
 have V:=h.gn
 have K:=h.m
 refine Bx<|A0<|A0<|Bh<|Cl<|A6 underlying27 O (BZ _)<|Aa (Gb (ds:=[vn]) (DR _) (BZ _) O O ‹_› rfl) O ?_
 refine Ai O O (IN vn ls w2 V (by omega)) ?_
 rintro wl w3 ⟨m,d⟩
 have h:=h.bs m
 have s_w:=d.slT
 clear V K m
 obtain ⟨J,hJ⟩:∃J,J=(F2 ls).map (·.s):=⟨_,rfl⟩
 rw [← hJ] at no2 yes2
 have lJ:J.length=(CT ls).length:=by rw [hJ,length_map,← JO,length_map]
 have lJ2:J.length≤ls.length:=by rw [hJ,length_map];exact length_filter_le ..
 obtain ⟨B3,hB3⟩:∃B,B=w2.heap.size:=⟨_,rfl⟩
 rw [← hB3] at d
 refine Aa (Ay AF O ‹_›) O ?_
 refine Ad O<|Ak<|Av ?_
 refine B4 (S:=(Nat×Bs×List T4×Value)) (fun z=>[(0, .pointer (some ⟨Rc,0,none⟩)),(1, .pointer (some ⟨M,0,none⟩)),(41,wl),(42, .int .i64 ((CT ls).length:Int)),(43, .int .i64 (z.1:Int))]) (fun z w' =>z.1≤J.length∧z.2.2.1.length=z.1∧EI J t=(EI (J.drop z.1) z.2.1).map (fun q=>(z.2.2.1.map pv++q.1,q.2))∧Gt W w w' Rc A M w'.heap.size z.2.1 ls vn z.2.2.1 z.2.2.2∧AW w' B3 3 1 wl (CT ls).length ((CT ls).map (Value.int .i64))) (fun z=>J.length - z.1) ((0,t,[], .slice none 0 0)) ⟨rfl,rfl,rfl,rfl,rfl,trivial⟩ ?_ ?_
 ·exact ⟨Nat.zero_le _,rfl,by simp,h.up,d⟩
 clear h d s_w
 rintro ⟨j,D,ts,vw⟩ w4 ⟨hj,hlt,hN,h,d⟩
 dsimp only at hj hlt hN h d ⊢
 have s_w:=d.slT
 refine Ah<|B9 O<|Ak<|Ap<|Al O ?_ ?_
 ·intro g
  have hj' :j<(CT ls).length:=by have:=AE g;omega
  obtain ⟨i',hi2,ej,h2,eF⟩:=N8 hj'
  obtain ⟨x,hx⟩:∃x,x=ls[i']:=⟨_,rfl⟩
  have hxg:ls.getD i' default=x:=by rw [getD_eq_getElem?_getD,getElem?_eq_getElem hi2,hx];rfl
  have hJx:J[j]? =some x.s:=by rw [hJ,getElem?_map,getElem?_eq_getElem h2,eF,hxg];rfl
  rw [drop_eq_getElem_cons (show j<J.length by omega),(List.getElem?_eq_some_iff.1 hJx).2] at hN
  have no:N2 x.s D=none→DG l=none:=fun e=>no2 (Pt hN e)
  have V:=h.gn
  have had:=V.ad hi2
  have hck:=(V.cell hi2).2
  rw [← hx] at hck
  have hxat:=V.each x (hx ▸ getElem_mem hi2)
  have sv:=V.sl
  have K:=h.m
  refine B2<|Ap<|Av<|Ah<|Aa (A8 AF O O ‹_› _ O (by omega)) O ?_
  refine Aa (Ex.as (Be (BD _) O s_w hj') (cngA (Value.int .i64) ej)) O<|Ab O<|Au<|A6 underlying27 O (BZ _)<|A6 underlying24 O (BW _)<|Aa (An (DH _) O ‹_› rfl) O ?_
  refine Ad O<|Aa (Dx BX O O sv i' O hi2) O<|Aa (Eb (q:=0) underlying79 O (BQ _) O had) O<|Aa (Ex.ld (BA _) O sv hck) O<|Ai O O (RM x.y x.s w4 hxat.s) ?_
  rintro _ w5 ⟨m,⟨hok,tx,ty,rfl,hm⟩|⟨hno,rfl⟩⟩
  ·have h:=h.bs m
   have d:=d.bs m
   have z5:=m.size
   obtain ⟨N,hNn⟩:∃N,N=(Shapes.size x.s).toNat:=⟨_,rfl⟩
   have sz:=Shapes.size_le x.s
   obtain ⟨zl,hzl⟩:∃z,z=replicate (Shapes.size x.s).toNat 0#32:=⟨_,rfl⟩
   have lz:zl.length=N:=by rw [hzl,length_replicate,hNn]
   rw [← hzl] at hm
   have H:=hm.row
   have ox:=H.lt
   have oy:=AD hm.own
   have X:=hm.own
   clear m sv hxat V K s_w
   have one2:[tx,ty].all (·.oneCell')=true:=by simp [H.slT.one',(AN X).one']
   refine Ad O<|Aa (Ex.extract (i:=0) O O) O<|Aa (Ex.extract (i:=1) O O) O<|Cu (cs:=[tx,ty]) J7 O O O O (fun _=>rfl) (one2) ?_
   rintro Z w6 eA_t o m zhn
   have zAt:w.heap.size≤Z:=by have:=h.chg.size;omega
   have nvt:vn.ownBlock≠some Z:=fun e=>by have:=(AD h.o _ e).2;omega
   have nwt:vw.ownBlock≠some Z:=fun e=>by have:=(AD h.u _ e).2;omega
   have zt:=m.size
   have h:=h.bs m
   have d:=d.bs m
   have H:=H.bs m
   replace X:=AG X m
   refine Ab O<|Ba<|Ad O<|Aa (Ct O O) O<|Ak<|Cm O false (rfl)<|B2<|Ap ?_
   obtain ⟨n,hn32⟩:∃n,n=BitVec.ofInt 32 (zl.length:Int):=⟨_,rfl⟩
   have en:n.toNat=N:=by rw [hn32,lz,BitVec.toNat_ofInt];omega
   have sh_y:=(AH X).shp
   refine Cw.any mixed (fun wx U _=> ?_)
   have h:=h.bs U
   have d:=d.bs U
   have H:=H.bs U
   replace X:=AG X U
   have o:=o.bs U
   have zx:=U.size
   clear U
   obtain ⟨vr,rr⟩:=h.r
   refine Dc (fun y=>AK y Rc 97 [.pointer (some ⟨A,0,none⟩)]∧AK y Z 75 [tx,ty]) (fun hC=> ?_) (⟨h.c,o⟩)
   refine B8 (Az (Bo (Az (Az (Bo Df)))))<|Aj 0 O (fun E s=>Cr underlying75 O (K5 _)) O<|Aj 1 O (fun E s=>An (Pj _) O (by first|exact s.1|exact s.2) O) O<|Aj 2 O (fun E s=>Ep Jv O sh_y) O<|Aj 3 O (fun E s=>Ex.as (Fz R1 Jr O) (cngA u32 hn32.symm)) O<|Aj 5 O (fun E s=>An (HW _) O (by first|exact s.1|exact s.2) O) O<|Aj 6 O (fun E s=>Cr underlying75 O (K5 _)) O<|Aj 7 O (fun E s=>An (Pj _) O (by first|exact s.1|exact s.2) O) O<|Aj 8 O (fun E s=>Ep Jv O sh_y) O<|Aj 9 O (fun E s=>Ex.as (Eo O O (by omega)) (cngA (Value.int .i64) (show 4*(zl.length:Int)=((4*N:Nat):Int) by omega))) O<|Br<|AR.only (⟨h.c,o⟩) (i:=4) (by kernel_rfl) O<|Ai O O (ML (.slice none 0 0) [] n wx (Cs _ _) (by simp)) ?_
   rintro p1 wy ⟨m,G⟩
   rw [nil_append] at G
   have h:=h.bs m
   have d:=d.bs m
   have H:=H.bs m
   replace X:=AG X m
   have o:=o.bs m
   have rr:=rr.bs m
   have s_1:=AN G
   have zy:=m.size
   refine AR.back<|AR.only (⟨h.c,o⟩) (i:=10) (by kernel_rfl) O<|Cf O O (JV W wy A (4*N) vr D rr) (fun w' R=>Bc (Bc (C2 (Bc (Bc (C2 (Cj (⟨no (Kx (.inr (by omega))),R.2 ▸ h.k⟩)))))))) ?_
   rintro p2 wz ⟨hle,a,hz,Y,rr2⟩
   have tA:∀b,some A=some b→∃cs,AK wy b 99 cs:=fun b e=>by cases e;exact ⟨_,rr.cell⟩
   have h:=h.rd L a rr2
   replace d:=AB d a tA (by decide)
   replace H:=AB H a tA (by decide)
   replace X:=DX X a tA (by decide)
   replace G:=DX G a tA (by decide)
   have o:=o.by a (fun e=>by have:=Option.some.inj e;have:=h.chg.size;omega)
   have Y:=Y.bs (show Below W.heap.size W wz by obtain ⟨q,hq⟩:=rr2;exact hq.bel)
   have s_1:=AN G
   clear rr a tA
   have one3:[p1,p2].all (·.oneCell')=true:=by simp [s_1.one',Y.one']
   refine AR.back<|AR.only (⟨h.c,o⟩) (i:=11) (by kernel_rfl) O<|Ar (Ch (vs:=[p1,p2]) EN OE O O O one3 O) O ?_
   rintro a1 wa ⟨o_a, -,m, -⟩
   have h:=h.bs m
   have d:=d.bs m
   have H:=H.bs m
   replace X:=AG X m
   have o:=o.bs m
   have s_1:=s_1.bs m
   have Y:=Y.bs m
   have za:=m.size
   have lc2:(D.take (4*N)).length=4*N:=by rw [length_take];omega
   refine AR.back<|AR.only (⟨h.c,o⟩) (i:=12) (by kernel_rfl) O<|Ai O O (LQ a1 [(p1,Crc.four n),(p2,D.take (4*N))] wa (AH o_a) (by intro p hp;simp at hp;rcases hp with rfl|rfl;exact s_1;exact Y) (by simp [Crc.four];omega)) ?_
   rintro q wb ⟨o_q,m⟩
   have eq:(([(p1,Crc.four n),(p2,D.take (4*N))]:List (Value×List (BitVec 8))).map (·.2)).flatten=Crc.four n++D.take (4*N):=by simp
   rw [eq] at o_q
   have s_q:=AN o_q
   have h:=h.bs m
   have d:=d.bs m
   have H:=H.bs m
   replace X:=AG X m
   have o:=o.bs m
   have zb:=m.size
   clear m eq
   refine AR.back<|AR.only (⟨h.c,o⟩) (i:=13) (by kernel_rfl) O<|Ai O O (Nt q n (D.take (4*N)) wb s_q (by rw [lc2,en]) (by omega)) ?_
   rintro _ wc ⟨m,y',e',rfl,Q⟩
   have h:=h.bs m
   have d:=d.bs m
   have H:=H.bs m
   have o:=o.bs m
   have zc:=m.size
   have yy:=AD Q
   clear m X s_q o_q s_1 Y o_a G
   refine AR.back<|B8 (Az (Bo (Az (Az (Bo Df)))))<|Aj 14 O (fun E s=>Bt O) O<|Aj 15 O (fun E s=>Ex.extract (i:=0) O O) O<|Aj 16 O (fun E s=>Ex.extract (i:=1) O O) O<|Aj 17 O (fun E s=>Ex.extract (i:=2) O O) O<|Aj 18 O (fun E s=>B0 O) O<|Aj 19 O (fun E s=>B0 O) O<|Aj 20 O (fun E s=>B0 O) O<|Br<|AR.done (⟨h.c,o⟩) (by kernel_rfl)<|Cl<|Ad O<|A6 underlying75 O (K5 _)<|Ax (B5 (u:=y') (K5 _) O O (AN Q).one' o (show 1<2 by decide)) ?_
   rintro wd ⟨b_t2,a, -⟩
   have tT:∀b,some Z=some b→∃cs,AK wc b 75 cs:=fun b e=>by cases e;exact ⟨_,o⟩
   have h:=h.ob L a zAt o (by decide) (by decide) nvt nwt
   replace d:=AB d a tT (by decide)
   replace H:=AB H a tT (by decide)
   replace Q:=DX Q a tT (by decide)
   have zd:=a.size
   clear a tT o
   obtain ⟨c,s⟩:∃c:T4,c=⟨tx,y',x.s,EA (D.take (4*N))⟩:=⟨_,rfl⟩
   have F:ET wd w4.heap.size wc.heap.size c:=by
    rw [s]
    exact ⟨H, .inl (CW Q (by omega)),fun b e=>by have:=ox b e;omega,fun b e=>by have:=yy b e;omega,fun b q1 q2=>by have:=yy b q1;have:=ox b q2;omega⟩
   have oc:[c.x,c.y].all (·.oneCell')=true:=by simp [F.at.1.one',F.at.2.one']
   have hw:N2 x.s D=some (pv c,D.drop (4*N)):=by rw [s,N9 hok (by omega),← hNn];rfl
   replace o:AK wd Z 75 [c.x,c.y]:=by rw [s];exact b_t2
   clear H Q s b_t2
   have K:=h.m
   refine Ak<|A4<|A6 underlying27 O (FS _)<|Aa (An (Ll _) O ‹_› rfl) O ?_
   refine Aa (Bu (k:=2) (M9 _) (Mg _) O O o) O<|Ar (Fk (cs:=[c.x,c.y]) Iw J7 O O (by decide) (by decide)) O ?_
   rintro p9 we ⟨G, -,m, -⟩
   have h:=h.bs m
   have F:=F.bs m
   have d:=d.bs m
   have K:=h.m
   have ze:=h.chg.size
   have zn:=m.size
   refine Ar (Co (base:=w.heap.size) Iw J7 O (by decide) O O h.u (AH G) oc (by omega) (by omega) ze) O ?_
   rintro yv wf ⟨o_v, -,a, -⟩
   have b_M' :=K.by a (fun e=>by have:=(AD h.u M e.symm).1;omega)
   replace d:=AB d a (fun b e=>AW.ty (.inl h.u) e) (by decide)
   refine A6 underlying27 O (FS _)<|Ax (B5 (u:=yv) (FS _) O O (AH o_v).one' b_M' (show 1<2 by decide)) ?_
   rintro wg ⟨b_M2,hg2, -⟩
   replace d:=AB d hg2 (fun b e=>by cases e;exact ⟨_,b_M'⟩) (by decide)
   have h:=Gt.tens L h F (AQ _) (by omega) (by omega) o_v a hg2 b_M2
   refine A7<|Bb<|Cx<|Cn O (by omega)<|Ad O<|A7 ?_
   exact A3 (B1 ((j+1,D.drop (4*N),ts++[c],yv)) ⟨rfl,rfl,rfl,rfl,rfl,trivial⟩ (⟨by omega,by rw [length_append,hlt];rfl,by rw [MB hN hw,map_append];rfl,h.up,d⟩) (by simp only;omega))
  have h:=h.bs m
  refine Ad O<|Aa (Ex.extract (i:=0) O O) O<|Aa (Ex.extract (i:=1) O O) O<|Cu (cs:=[.slice none 0 0, .slice none 0 0]) J7 O O O O (fun _=>rfl) (rfl) ?_
  rintro Z w6 eA_t o m zhn
  have h:=h.bs m
  refine Ab O<|Ba<|Ad O<|Aa (Ct O O) O<|Ak<|Cm O true (rfl)<|A4<|Aa (Bg (vs:=[]) (cs:=[]) O (by kernel_rfl)) O<|Aa (Du underlying106 O) O ?_
  refine D1 O (Bc (C2 (Bc (Bc (C2 (Cj (⟨no (Kx (.inl hno)),h.k⟩)))))))
 intro g
 have hj' :j=J.length:=by have:=AC g;omega
 rw [hj',drop_length] at hN
 refine Bx<|A0<|A0<|Bh<|Fl O ?_
 exact ⟨rfl,D,ls,ts,vn,vw,yes2 _ _ (by rw [hN];simp [EI]),h⟩

-- dd: text
structure Ku (W w:World) (A:Nat) (v:Value) (l:List (List UInt8)):Prop where
 sl:BG st W v l
 bel:Below W.heap.size W w
 lo:W.heap.size≤A
 cell:AK w A 139 [v]
theorem Ku.bs {W w w' :World} {A:Nat} {v:Value} {l:List (List UInt8)} (h:Ku W w A v l) (g:Below w.heap.size w w'):Ku W w' A v l:=⟨h.sl,bt h.bel g,h.lo,h.cell.bs g⟩
theorem Ku.grow {W w w' :World} {A:Nat} {v:Value} {l:List (List UInt8)} {r:Option Nat} (h:Ku W w A v l) (g:w.grownBy w' r) (a:∀b,r=some b→W.heap.size≤b∧b≠A):Ku W w' A v l:=
 ⟨h.sl,h.bel.grown g (AA h.bel) fun b e=>(a b e).1,h.lo,h.cell.by g fun e=>(a A e.symm).2 rfl⟩
theorem Lt (W w:World) (A:Nat) (v:Value) (l:List (List UInt8)) (s:List UInt8) (p:Ku W w A v l):
  H6 prog 207 [.pointer (some ⟨A,0,none⟩),st s] w LU
   (fun r w' =>∃m,DO s l=some m∧w.grownBy w' (some A)∧w'.heap.size=w.heap.size∧∃v',Ku W w' A v' m) (fun w' =>DO s l=none∧w' =w):=by
 obtain ⟨c,h,f,b⟩:=p
 have j:=c.bs h
 refine Dk (n:=32) func207 (by kernel_rfl) O O O<|Ap<|Ah<|Ad O<|Aa (D5 O O) O<|Ak<|Al O ?_ ?_
 ·intro g
  have g:s=[]:=AE g
  refine El<|Ao<|Pw.ret0q O ?_
  exact ⟨l,by unfold DO;rw [if_pos g],DB _ _,rfl,v,c,h,f,b⟩
 intro g
 have g:¬s=[]:=AC g
 refine B2<|Ap<|Ah<|Ad O<|Aa (Cb O) O<|A6 underlying139 O (DJ _)<|Aa (An (G0 _) O ‹_› rfl) O ?_
 refine Aa (Ay BR O ‹_›) O ?_
 refine Aa (Ce O O) O<|Ad O ?_
 refine Bw 12 O ?_ ?_
 ·intro d
  have d:l=[]:=eq_nil_of_length_eq_zero (by have:=AE d;omega)
  refine Ae (dj:=12) O O O O<|Ae (dj:=12) O O O O<|Ae (dj:=12) O O O O<|Ae (dj:=12) O O O O<|Ae (dj:=12) O O O O<|Ae (dj:=12) O O O O<|Ae (dj:=12) O O O O<|Ae (dj:=12) O O O O<|Bi O<|Ak<|Bn O<|A4<|Aa (Bg (vs:=[]) (cs:=[]) O (by kernel_rfl)) O<|Aa (Du underlying106 O) O ?_
  refine D1 O (Bc (Cj (⟨by unfold DO;rw [if_neg g,d],rfl⟩)))
 intro d
 have d:0<l.length:=by have:=AC d;omega
 have k:l=l.getD 0 default::l.drop 1:=by
  cases l with
  |nil=>exact absurd d (by simp)
  |cons a t=>rfl
 refine Af (dj:=12) O O<|Ad O<|Af (dj:=12) O O<|Aa (Cb O) O<|Af (dj:=12) O O<|A6 underlying139 O (DJ _)<|Af (dj:=12) O O<|Aa (An (G0 _) O ‹_› rfl) O ?_
 refine Af (dj:=12) O O<|Aa (A8 BR O O ‹_› 0 O (by omega)) O ?_
 refine Af (dj:=12) O O<|Aa (Be (FH _) O ‹_› (by omega)) O ?_
 refine Af (dj:=12) O O<|Ad O<|Af (dj:=12) O O<|Aa (En O O) O<|B6 O<|Ak<|Al O ?_ ?_
 ·intro e
  have e:¬l.getD 0 default=s:=by simpa using e
  refine A4<|Aa (Bg (vs:=[]) (cs:=[]) O (by kernel_rfl)) O<|Aa (Du underlying106 O) O ?_
  refine D1 O (Bc (Cj (⟨by unfold DO;rw [if_neg g,k];exact if_neg e,rfl⟩)))
 intro e
 have e:l.getD 0 default=s:=by simpa using e
 refine B2<|A4<|Ad O<|Ad O<|Aa (Cb O) O<|A6 underlying139 O (DJ _)<|Aa (An (G0 _) O ‹_› rfl) O ?_
 refine Aa (Fi (i:=1) BR O O j (by omega)) O<|Aa (Cb O) O<|A6 underlying139 O (DJ _)<|Ax (B5 (DJ _) O O (c.drop (show 1≤l.length by omega)).one' b (show 0<1 by omega)) ?_
 rintro w ⟨b,o,q⟩
 refine A7<|Fl O ?_
 exact ⟨l.drop 1,by unfold DO;rw [if_neg g,k];exact if_pos e,o,q,_,⟨c.drop (show 1≤l.length by omega),h.grown o (AA h) (by rintro _ ⟨⟩;omega),f,b⟩⟩
def H4 (most:Nat) (l:List (List UInt8)) (ns:List Int) (rest:List (List UInt8)):Prop:=ns.length≤most∧CL most l=(ns++(CL (most - ns.length) rest).1,(CL (most - ns.length) rest).2)
theorem Ge (a:Nat) (l:List (List UInt8)):H4 a l [] l:=⟨Nat.zero_le _,rfl⟩
theorem H4.done {b:Nat} {l:List (List UInt8)} {ns:List Int} {a:List (List UInt8)} (h:H4 b l ns a) (e:a=[]∨b≤ns.length∨EB (a.getD 0 default)=none):CL b l=(ns,a):=by
 obtain ⟨d,c⟩:=h
 rw [c]
 have key:CL (b - ns.length) a=([],a):=by
  cases hm:b - ns.length with
  |zero=>rfl
  |succ m=>
   cases a with
   |nil=>rfl
   |cons w r=>
    rcases e with e|e|e
    ·cases e
    ·omega
    ·have e:EB w=none:=e
     simp only [CL,e]
 rw [key,append_nil]
theorem H4.step {a:Nat} {l:List (List UInt8)} {ns:List Int} {b:List (List UInt8)} {n:Int} (h:H4 a l ns b) (g:0<b.length) (f:ns.length<a) (e:EB (b.getD 0 default)=some n):H4 a l (ns++[n]) (b.drop 1):=by
 obtain ⟨i,d⟩:=h
 refine ⟨by rw [length_append];exact f, ?_⟩
 rw [d,length_append,length_singleton]
 obtain ⟨m,c⟩:∃m,a - ns.length=m+1:=⟨a - ns.length - 1,by omega⟩
 rw [c,show a - (ns.length+1)=m by omega]
 cases b with
 |nil=>exact absurd g (by simp)
 |cons w r=>
  have e:EB w=some n:=e
  simp [CL,e]
set_option maxHeartbeats 1000000 in
theorem G7 (W w:World) (A d c:Nat) (v:Value) (l:List (List UInt8)) (hG:HZ W) (H:Ku W w A v l) (hl:∀x ∈ l,x.length≤65536) (hn:l.length≤65537) (hm:c≤65536):
  H6 prog 208 [.pointer (some ⟨A,0,none⟩), .int .i64 (d:Int), .int .i64 (c:Int)] w LU
   (fun r w' =>∃ns l',LW d c l=some (ns,l')∧w.grownBy w' (some A)∧AW w' w.heap.size 3 1 r ns.length (ns.map (Value.int .i64))∧∃v',Ku W w' A v' l')
   (fun w' =>LW d c l=none∧w.grownBy w' (some A)):=by
 have zW:=H.bel.size
 have zA:=AY H.cell
 refine Dk (n:=53) func208 (by kernel_rfl) O O O<|Ah<|Ab O<|Ak<|Ap ?_
 refine D8 (St:=(List Int×Value×Value×List (List UInt8))) (fun z=>[(1, .int .i64 (d:Int)),(6,z.2.1)]) (fun z w' =>CL c l=(z.1,z.2.2.2)∧w.grownBy w' (some A)∧w'.ownsRow w.heap.size 3 1 z.2.1 z.1.length (z.1.map (Value.int .i64))∧Ku W w' A z.2.2.1 z.2.2.2) ?_ ?_
 ·refine Av ?_
  refine B4 (S:=(List Int×Value×Value×List (List UInt8))) (fun z=>[(0, .pointer (some ⟨A,0,none⟩)),(1, .int .i64 (d:Int)),(2, .int .i64 (c:Int)),(6,z.2.1)]) (fun z w' =>H4 c l z.1 z.2.2.2∧(∃k,z.2.2.2=l.drop k)∧w.grownBy w' (some A)∧w'.ownsRow w.heap.size 3 1 z.2.1 z.1.length (z.1.map (Value.int .i64))∧Ku W w' A z.2.2.1 z.2.2.2) (fun z=>z.2.2.2.length) (([], .slice none 0 0,v,l)) ⟨rfl,rfl,rfl,rfl,trivial⟩ ?_ ?_
  ·exact ⟨Ge c l,⟨0,rfl⟩,DB _ _,World.ownsRow_nil _ _ _ _,H⟩
  rintro ⟨ns,y,u,a⟩ h ⟨hS,⟨k,hk⟩,E,t,H⟩
  dsimp only at hS hk E t H ⊢
  obtain ⟨o,hB,G,D⟩:=H
  have s_u:=o.bs hB
  have rl:a.length≤l.length:=by rw [hk,length_drop];omega
  have nl:=hS.1
  refine Ap<|Ah<|Ad O<|Aa (Cb O) O<|A6 underlying139 O (DJ _)<|Aa (An (G0 _) O ‹_› rfl) O ?_
  refine Aa (Ay BR O ‹_›) O ?_
  refine Aa (C1 O O) O<|Ad O ?_
  refine Bw 15 O ?_ ?_
  ·intro g
   have g:0<a.length:=by have:=AE g;omega
   have hl0:(a.getD 0 default).length≤65536:=hl _ (by
    rw [getD_eq_getElem?_getD,getElem?_eq_getElem g,Option.getD_some]
    have q:a[0] ∈ a:=getElem_mem g
    exact mem_of_mem_drop (i:=k) (hk ▸ q))
   have s_y:=AH t
   refine Af (dj:=15) O O<|Ad O<|Af (dj:=15) O O<|Aa (Ay AF O ‹_›) O ?_
   refine Af (dj:=15) O O<|Ad O<|Af (dj:=15) O O<|B9 O<|Bi O<|Ak<|Al O ?_ ?_
   ·intro N
    have N:ns.length<c:=by have:=AE N;omega
    refine B2<|Av<|Ah<|Ad O<|Aa (Cb O) O<|A6 underlying139 O (DJ _)<|Aa (An (G0 _) O ‹_› rfl) O ?_
    refine Aa (A8 BR O O ‹_› 0 O (by omega)) O ?_
    refine Aa (Be (FH _) O ‹_› (by omega)) O ?_
    refine Ai O O (Oy (a.getD 0 default) h (hG.bs hB) (by omega)) ?_
    rintro _ w2 ⟨f,x,rfl,hx⟩
    have U:=AI E (AU f _)
    have Z:=AG t f
    have V:=bt hB f
    have B:=D.bs f
    refine Ad O<|Aa (Ex.extract (i:=0) O O) O<|Aa (Ex.extract (i:=1) O O) O<|Ab O<|Ab O<|Ba<|Ad O<|Aa (Cq O) O<|Ak<|Al O ?_ ?_
    ·intro L
     have L:EB (a.getD 0 default)=none:=by
      cases e:EB (a.getD 0 default) with
      |none=>rfl
      |some n=>rw [e] at L;cases L
     exact Bx<|A0<|Pw.blkE rfl<|A0<|Bh<|Bv ((ns,y,u,a)) ⟨rfl,rfl,trivial⟩ (⟨hS.done (.inr (.inr L)),U,Z,o,V,G,B⟩)
    intro L
    obtain ⟨n,en⟩:∃n,EB (a.getD 0 default)=some n:=by
     cases e:EB (a.getD 0 default) with
     |none=>rw [e] at L;cases L
     |some n=>exact ⟨n,rfl⟩
    obtain rfl:=hx n en
    refine B2 ?_
    refine Cw.any mixed (fun w3 hd _=> ?_)
    have Q:=AI U (AU hd _)
    have K:=AG Z hd
    have I:=bt V hd
    have j:=B.bs hd
    clear E U t Z hB V D B s_u s_y hd f
    refine Aw.seg (St:=Value) (g:=1) [0,1,2,3,4,5,6,7,8,9,10,11,12] 13 (fun y=>[(0, .pointer (some ⟨A,0,none⟩)),(1, .int .i64 (d:Int)),(2, .int .i64 (c:Int)),(6,y),(42,cut u 1 1 a.length),(44, .pointer (some ⟨A,0,none⟩))]) (fun y w' =>w.grownBy w' (some A)∧w'.ownsRow w.heap.size 3 1 y (ns++[n]).length ((ns++[n]).map (Value.int .i64))∧AK w' A 139 [u]∧Below W.heap.size W w') (by kernel_rfl) O ?_ ?_
    ·refine Dc (fun w' =>AK w' A 139 [u]∧Below W.heap.size W w') (fun hC=> ?_) (⟨j,I⟩)
     refine B8 (Az (Bo (Az (Bo Ck))))<|Aj 0 O (fun h p=>Bt O) O<|Aj 1 O (fun h p=>Bt O) O<|Aj 2 O (fun h p=>Bt O) O<|Aj 5 O (fun h p=>Bt O) O<|Aj 6 O (fun h p=>Cb O) O<|Aj 7 O (fun h p=>Cr underlying139 O (DJ _)) O<|Aj 8 O (fun h p=>An (G0 _) O p.1 O) O<|Aj 9 O (fun h p=>Fi (i:=1) BR O O (o.bs p.2) (by omega)) O<|Br<|AR.only ((by constructor<;>assumption)) (i:=3) (by kernel_rfl) O ?_
     refine Ar (Ch (vs:=[n].map (Value.int .i64)) AF DL O O O O O) O ?_
     rintro q w4 ⟨o_q, -,C, -⟩
     have M:=AI Q (AU C _)
     have R:=AG K C
     have hB4:=bt I C
     have J:=j.bs C
     clear Q K I j
     refine AR.back<|AR.only ((by constructor<;>assumption)) (i:=4) (by kernel_rfl) O ?_
     refine Ar (Co (base:=w.heap.size) AF DL O (by decide) O O R (AH o_q) (CH (fun _=>rfl) _) (by omega) (by omega) M.size) O ?_
     rintro y' w5 ⟨m,T,hy5, -⟩
     have Y:=CR M hy5 fun b e=>(AD R b e).1
     have F:=hB4.trans (T.mono zW)
     have s:=J.bl T zA
     rw [← map_append,show ns.length+1=(ns++[n]).length by rw [length_append];rfl] at m
     clear M R hB4 J T hy5
     refine AR.back<|B8 (Az (Bo (Az (Bo Ck))))<|Aj 10 O (fun h p=>B0 O) O<|Aj 11 O (fun h p=>Cb O) O<|Aj 12 O (fun h p=>Cr underlying139 O (DJ _)) O<|Br<|AR.done ((by constructor<;>assumption)) (by kernel_rfl) ?_
     exact A3 (Pw.seg (y') ⟨rfl,rfl,rfl,rfl,rfl,rfl,trivial⟩ (⟨Y,m,s,F⟩))
    clear Q K I j
    rintro y' w5 ⟨Y,m,s,F⟩
    have s_d:=o.drop (show 1≤a.length by omega)
    refine Aw.only (i:=13) (by kernel_rfl) O<|Ax (B5 (DJ _) O O s_d.one' s (show 0<1 by omega)) ?_
    rintro w6 ⟨b_A6,X,hz6⟩
    have ho6:=BE m fun b e=>X.block b (AD m b e).2 fun e2=>by
     have:=Option.some.inj e2;have:=(AD m b e).1;omega
    refine Aw.back<|Aw.done (by kernel_rfl)<|Bb ?_
    exact A3 (B1 ((ns++[n],y',cut u 1 1 a.length,a.drop 1)) ⟨rfl,rfl,rfl,rfl,trivial⟩ (⟨hS.step g N en,⟨k+1,by rw [hk,drop_drop]⟩,AI Y X,ho6,s_d,F.grown X (AA F) (by rintro _ ⟨⟩;omega),G,b_A6⟩) (by simp only [length_drop];omega))
   intro N
   have N:c≤ns.length:=by have:=AC N;omega
   exact Bx<|A0<|A0<|Bh<|Bv ((ns,y,u,a)) ⟨rfl,rfl,trivial⟩ (⟨hS.done (.inr (.inl N)),E,t,o,hB,G,D⟩)
  intro g
  have g:a=[]:=eq_nil_of_length_eq_zero (by have:=AC g;omega)
  exact Ae (dj:=15) rfl rfl rfl rfl<|Ae (dj:=15) rfl rfl rfl rfl<|Ae (dj:=15) rfl rfl rfl rfl<|Ae (dj:=15) rfl rfl rfl rfl<|B6 rfl<|Ak<|Gr rfl<|Bx<|A0<|A0<|Bh<|Bv ((ns,y,u,a)) ⟨rfl,rfl,trivial⟩ (⟨hS.done (.inl g),E,t,o,hB,G,D⟩)
 rintro ⟨ns,y,u,a⟩ h ⟨hN,E,t,H⟩
 dsimp only at hN E t H ⊢
 have s_y:=AH t
 refine Cc<|Ap<|Ah<|Ad O<|Aa (Ay AF O ‹_›) O ?_
 refine Ad O<|B9 O<|Ak<|Al O ?_ ?_
 ·intro g
  have g:ns.length<d:=by have:=AE g;omega
  refine A4<|Aa (Bg (vs:=[]) (cs:=[]) O (by kernel_rfl)) O<|Aa (Du underlying106 O) O ?_
  refine D1 O (Bc (Cj (⟨by rw [LW,hN];exact if_pos g,E⟩)))
 intro g
 have g:¬ns.length<d:=by have:=AC g;omega
 refine Ca<|Ad O<|Ai O O (Ja y ns h (AN t)) ?_
 rintro _ w2 ⟨rfl,f⟩
 refine Ab O<|Aq<|E2 O O ?_
 exact ⟨ns,a,by rw [LW,hN];exact if_neg g,AI E (AU f _),(AW.clip t).bs f,u,H.bs f⟩
end Go.Proofs.YtblbopcaflaldaaGreatDoor

namespace Go.Proofs.YtblbopcaflaldaaGreatDoor
open Go Go.Dd Go.RowKit List
set_option maxRecDepth 100000
-- dd: text
theorem Q1.bs {w w' :World} {b:Nat} {l:List UInt8} (h:Q1 w b l) (g:Below w.heap.size w w'):Q1 w' b l:=by
 have key:∀p,Lib.BuilderAtF 121 5 b b p (Lib.byteCells l) w→Lib.BuilderAtF 121 5 b b p (Lib.byteCells l) w' :=by
  rintro p ⟨e,v,d,i,f⟩
  have a:∀k o,w.heap[k]? =some o→w'.heap[k]? =some o:=fun k o c=>by rw [g.block k (Array.getElem?_eq_some_iff.1 c).1];exact c
  refine ⟨e,v,a _ _ d,i.kept (AU g none) ?_,f⟩
  cases v.ownBlock with
  |none=>exact .inl rfl
  |some b=>exact .inr (by simp)
 exact h.imp (key _) (key _)
theorem KP (c:UInt8):∀xs:List (List UInt8),(Lib.join xs [c]).length≤(xs.map length).sum+xs.length
 |[]=>AQ 0
 |x::xs=>by
  rw [Lib.join_cons,length_append]
  have:(Lib.joinTail [c] xs).length=(xs.map length).sum+xs.length:=by
   unfold Lib.joinTail
   induction xs with
   |nil=>rfl
   |cons y ys ih=>simp only [map_cons,flatten_cons,length_append,ih,List.sum_cons,length_cons,length_nil];omega
  simp only [map_cons,List.sum_cons,length_cons]
  omega
theorem Lz {m:Nat}:∀{xs:List (List UInt8)},(∀x ∈ xs,x.length≤m)→(xs.map length).sum≤m*xs.length
 |[],_=>Nat.zero_le _
 |x::xs,h=>by
  have c:=h x (by simp)
  have b:=Lz (xs:=xs) fun y a=>h y (by simp [a])
  simp only [map_cons,List.sum_cons,length_cons,Nat.mul_succ]
  omega
theorem QH:∀k:BitVec 8,(AP k).word.length≤21∧(AP k).nxt.length≤21∧(AP k).last.length≤21:=by decide+kernel
theorem Hs {n:Int} (h:0≤n∧n≤65536):(Lib.itoa n).length≤21:=Lib.itoa_length_le n (by omega) (by omega)
theorem J6 {x:N5} (h:DN x):(BY (AP x.k) x).length≤12∧∀y ∈ BY (AP x.k) x,y.length≤21:=by
 obtain ⟨e,c,d⟩:=QH x.k
 have g:=h.il.2
 have f:=h.sl
 unfold BY
 constructor
 ·simp only [length_append,length_map,length_singleton]
  split<;>split<;>(try split)<;>simp<;>omega
 ·intro y a
  simp only [mem_append,mem_singleton] at a
  rcases a with (((rfl|a)|a)|a)|a
  ·exact e
  ·obtain ⟨n,b,rfl⟩:=List.mem_map.1 a
   exact Hs (h.ii n b)
  ·split at a
   ·cases a
   ·rw [List.mem_singleton.1 a];exact c
  ·split at a
   ·obtain ⟨n,b,rfl⟩:=List.mem_map.1 a
    exact Hs (h.ss n b)
   ·split at a
    ·cases a
    ·rw [List.mem_singleton.1 a];exact Hs ⟨h.nn.1,by have:=h.nn.2;omega⟩
  ·split at a
   ·cases a
   ·rcases List.mem_cons.1 a with rfl|a
    ·exact d
    ·rw [List.mem_singleton.1 a];exact Hs ⟨h.pp.1,by have:=h.pp.2;omega⟩
theorem MY {x:N5} (h:DN x):(Hq x).length≤300:=by
 obtain ⟨c,a⟩:=J6 h
 have d:=KP 32 (BY (AP x.k) x)
 have b:=Lz a
 unfold Hq
 rw [length_append]
 simp only [length_singleton]
 omega
theorem Js (a b:List N5):AX (a++b)=AX a++AX b:=by simp [AX]
theorem G5:∀{ls:List N5},(∀x ∈ ls,DN x)→(AX ls).length≤300*ls.length
 |[],_=>Nat.zero_le _
 |x::ls,h=>by
  have c:=MY (h x (by simp))
  have b:=G5 (ls:=ls) fun y a=>h y (by simp [a])
  have e:AX (x::ls)=Hq x++AX ls:=rfl
  rw [e,length_append,length_cons]
  omega
theorem Ht {ls:List N5} (h:(EU ls).isSome=true):ls.length≤32∧∀x ∈ ls,DN x:=by
 obtain ⟨c,b⟩:=Option.isSome_iff_exists.1 h
 have d:=Mz b
 refine ⟨d, ?_⟩
 have m:ED [] ls=some c:=by
  unfold EU at b
  split at b
  ·cases b
  ·split at b
   ·split at b
    ·rename_i e _;cases b;exact e
    ·cases b
   ·cases b
 have key:∀(l:List N5) (a:List (List Int)),(∃c,ED a l=some c)→a.length+l.length≤32→∀x ∈ l,DN x:=by
  intro l
  induction l with
  |nil=>intro _ _ _ x f;cases f
  |cons y l ih=>
   rintro a ⟨c,h⟩ i x f
   unfold ED at h
   cases e:Kq a y with
   |none=>rw [e] at h;cases h
   |some s=>
    rw [e] at h
    simp only [length_cons] at i
    rcases List.mem_cons.1 f with rfl|f
    ·unfold Kq at e
     split at e
     ·rename_i g
      simp only [Bool.and_eq_true,Bool.not_eq_true'] at g
      refine PJ g.1.1 fun j k=> ?_
      have:=g.1.2
      unfold N3 at this
      have:=List.any_eq_false.1 this j k
      simp at this
      omega
     ·cases e
    ·exact ih (a++[s]) ⟨c,h⟩ (by rw [length_append,length_singleton];omega) x f
 exact key ls [] ⟨c,m⟩ (by simpa using d)

theorem CQ (c:UInt8) (x y:List UInt8) (a:List (List UInt8)):Lib.join (x::y::a) [c]=x++c::Lib.join (y::a) [c]:=by
 rw [Lib.join_cons,Lib.join_cons]
 simp [Lib.joinTail]
theorem DY (c:UInt8) (x:List UInt8):Lib.join [x] [c]=x:=by
 rw [Lib.join_cons]
 simp [Lib.joinTail]
theorem HL {c:UInt8}:∀(xs:List (List UInt8)) (x:List UInt8),c ∉ x→(∀y ∈ xs,c ∉ y)→BP c (Lib.join (x::xs) [c])=x::xs
 |[],x,h,_=>by rw [DY,Kk h]
 |y::ys,x,h,h2=>by rw [CQ,H0 _ h,HL ys y (h2 y (by simp)) fun z a=>h2 z (by simp [a])]
theorem HH {c:UInt8}:∀s:List UInt8,Lib.join (BP c s) [c]=s
 |[]=>DY c []
 |b::l=>by
  have d:=HH (c:=c) l
  obtain ⟨y,a,e⟩:∃y a,BP c l=y::a:=by
   cases h:BP c l with
   |nil=>exact absurd h (Hz c l)
   |cons y a=>exact ⟨y,a,rfl⟩
  rw [e] at d
  unfold BP
  rw [e]
  split
  ·rename_i f;rw [CQ,d,f];rfl
  ·rw [Lib.join_cons] at d ⊢
   show (b::y)++_=b::l
   rw [cons_append]
   exact cngA (List.cons b) d
def DM (ls:List (List UInt8)):List UInt8:=(ls.map (·++[10])).flatten
theorem G9:∀(xs:List (List UInt8)) (x:List UInt8),Lib.join (x::xs) [10]++[10]=DM (x::xs)
 |[],x=>by rw [DY];simp [DM]
 |y::ys,x=>by
  have:=G9 ys y
  rw [CQ,append_assoc,cons_append,this]
  simp [DM]
theorem JG:∀(ls:List (List UInt8)),(∀x ∈ ls,(10:UInt8) ∉ x)→BP 10 (DM ls)=ls++[[]]
 |[],_=>rfl
 |x::ls,h=>by
  have e:DM (x::ls)=x++10::DM ls:=by simp [DM]
  rw [e,H0 _ (h x (by simp)),JG ls fun y a=>h y (by simp [a])]
  rfl
def CE (s:List UInt8):List (List UInt8):=if (BP 10 s).getLastD []=[] then (BP 10 s).dropLast else BP 10 s
theorem LC {ls:List (List UInt8)} (h:∀x ∈ ls,(10:UInt8) ∉ x):CE (DM ls)=ls:=by
 unfold CE
 rw [JG ls h,if_pos (by simp [List.getLastD_eq_getLast?]),List.dropLast_concat]
theorem LB {x:List UInt8} {xs:List (List UInt8)} (h:∀y ∈ x::xs,(10:UInt8) ∉ y) (a:∀y ∈ x::xs,y≠[]):CE (Lib.join (x::xs) [10])=x::xs:=by
 unfold CE
 rw [HL xs x (h x (by simp)) fun y b=>h y (by simp [b]),if_neg]
 intro e
 rw [List.getLastD_eq_getLast?,List.getLast?_eq_some_getLast (by simp)] at e
 exact a _ (List.getLast_mem (by simp)) e
theorem LD (s:List UInt8):DM (CE s)=s∨DM (CE s)=s++[10]:=by
 have d:=HH (c:=10) s
 have b:=Hz 10 s
 unfold CE
 split
 ·rename_i e
  left
  obtain ⟨l,x,g⟩:∃l x,BP 10 s=l++[x]:=⟨_,_,(List.dropLast_concat_getLast b).symm⟩
  rw [g] at e d ⊢
  have f:x=[]:=by simpa [List.getLastD_eq_getLast?] using e
  subst f
  rw [List.dropLast_concat,← d]
  cases l with
  |nil=>rfl
  |cons y a=>
   rw [← G9]
   have:∀(a:List (List UInt8)) (y:List UInt8),Lib.join (y::(a++[[]])) [10]=Lib.join (y::a) [10]++[10]:=by
    intro a
    induction a with
    |nil=>intro y;rw [nil_append,CQ,DY,DY]
    |cons z zs ih=>intro y;rw [cons_append,CQ,ih,CQ,append_assoc,cons_append]
   exact (this a y).symm
 ·right
  cases hc:BP 10 s with
  |nil=>exact absurd hc b
  |cons y a=>rw [hc] at d;rw [← G9,d]
def CV:Nat→List (List UInt8)→Nat ⊕ List PN
 |_,[]=> .inr []
 |i,t::ts=>if 32≤i then .inl i else match CF (BP 32 t) with
  |none=> .inl i
  |some p=>match CV (i+1) ts with
   | .inl j=> .inl j
   | .inr ns=> .inr (p::ns)
def FE (s:List UInt8):Int:=if 65536<s.length then 3 else match CV 0 (CE s) with
 | .inl _=>4
 | .inr ns=>if (Ke ns).isSome then 0 else 1
def HB (s:List UInt8):Int:=if 65536<s.length then 0 else match CV 0 (CE s) with
 | .inl i=>(i:Int)
 | .inr _=>0
def FL (s:List UInt8):List PN:=if 65536<s.length then [] else match CV 0 (CE s) with
 | .inl _=>[]
 | .inr ns=>if (Ke ns).isSome then ns else []
theorem On {ts:List (List UInt8)} {i:Nat} {b:List PN} {t:List UInt8} {a:List (List UInt8)} {p:PN} (h:CV 0 ts=match CV i (t::a) with
   | .inl j=> .inl j
   | .inr ns=> .inr (b++ns)) (d:i<32) (c:CF (BP 32 t)=some p):CV 0 ts=match CV (i+1) a with
   | .inl j=> .inl j
   | .inr ns=> .inr (b++[p]++ns):=by
 rw [h,CV,if_neg (by omega),c]
 simp only
 cases CV (i+1) a with
 |inl j=>rfl
 |inr ns=>simp
theorem QN {ts:List (List UInt8)} {i:Nat} {c:List PN} {t:List UInt8} {a:List (List UInt8)} (h:CV 0 ts=match CV i (t::a) with
   | .inl j=> .inl j
   | .inr ns=> .inr (c++ns)) (b:32≤i∨CF (BP 32 t)=none):CV 0 ts= .inl i:=by
 rw [h,CV]
 rcases Nat.lt_or_ge i 32 with d|d
 ·rw [if_neg (by omega)]
  rcases b with b|b
  ·omega
  ·rw [b]
 ·rw [if_pos d]
theorem Iq (s:List UInt8) (r:List (List UInt8)):DO s ((if s=[] then [] else [s])++r)=some r:=by
 unfold DO
 by_cases h:s=[]
 ·rw [if_pos h,if_pos h];rfl
 ·rw [if_neg h,if_neg h];simp
theorem LV {a b:Nat} {ns:List Int} {r:List (List UInt8)} (d:∀n ∈ ns,0≤n∧n≤999999999) (f:a≤ns.length) (e:ns.length≤b) (c:ns.length=b∨r=[]∨EB (r.headD [])=none):LW a b (ns.map Lib.itoa++r)=some (ns,r):=by
 unfold LW
 rw [KG b ns r d e c,if_neg (by simp only;omega)]
theorem Mp {n:Int} {r:List (List UInt8)} (h:0≤n∧n≤999999999):LW 1 1 (Lib.itoa n::r)=some ([n],r):=
 LV (ns:=[n]) (fun x a=>by rw [List.mem_singleton.1 a];exact h) (AQ _) (AQ _) (.inl rfl)
theorem Mj:∀k:BitVec 8,(CI k).isSome=true→CS (AP k).word=k∧(AP k).word≠[]∧((AP k).nxt=[]∨EB (AP k).nxt=none)∧((AP k).nxt=[]→((AP k).shaped=true→(AP k).most=0)∧((AP k).shaped=false→(AP k).last=[]))∧((AP k).shaped=true→(AP k).last=[]):=by decide+kernel
theorem PH {r:Rw} {s:List Int} {n:Int} {a:List (List UInt8)} (l:∀d ∈ s,0≤d∧d≤999999999) (g:s.length≤65536) (m:0≤n∧n≤999999999) (i:r.shaped=true→s≠[]∧n=0∧a=[]) (h:r.shaped=false→s=[]) (j:r.nxt=[]→n=0):
  HY r ((if r.shaped then s.map Lib.itoa else if r.nxt=[] then [] else [Lib.itoa n])++a)=some (s,n,a):=by
 unfold HY
 cases e:r.shaped with
 |true=>
  obtain ⟨b,c,f⟩:=i e
  subst c f
  rw [if_pos rfl,if_pos rfl,LV l (List.length_pos_iff.2 b) g (.inr (.inl rfl))]
  rfl
 |false=>
  have k:=h e
  subst k
  rw [if_neg (show ¬(false=true) by decide),if_neg (show ¬(false=true) by decide)]
  by_cases e2:r.nxt=[]
  ·rw [if_pos e2,if_pos e2,j e2];rfl
  ·rw [if_neg e2,if_neg e2,List.singleton_append,Mp m];rfl
theorem PX {r:Rw} {p:Int} (a:0≤p∧p≤999999999) (h:r.last=[]→p=0):IX r (if r.last=[] then [] else [r.last,Lib.itoa p])=some (p,[]):=by
 unfold IX
 by_cases e:r.last=[]
 ·rw [if_pos e,if_pos e,h e]
 ·rw [if_neg e,if_neg e]
  have:=Iq r.last [Lib.itoa p]
  rw [if_neg e] at this
  rw [show [r.last,Lib.itoa p]=[r.last]++[Lib.itoa p] from rfl,this,Option.bind_some,Mp a]
  rfl
theorem O5 {x:N5} (h:DN x) (k:(AP x.k).shaped=true→x.s≠[]):CF (BY (AP x.k) x)=some (pn x):=by
 obtain ⟨q,i,b,j,m⟩:=Mj x.k h.kd
 have p:(BY (AP x.k) x).headD []=(AP x.k).word:=rfl
 unfold CF
 rw [p,q,if_neg i]
 obtain ⟨r,v⟩:∃r,r=AP x.k:=⟨_,rfl⟩
 have w:=h.il
 have g:=h.im
 have c:=h.s0
 have a:=h.n0
 have f:=h.p0
 rw [← v] at i b j m k w g c a f ⊢
 have n:∀{l:List Int},(∀d ∈ l,0≤d∧d≤65536)→∀d ∈ l,0≤d∧d≤999999999:=fun u d o=>by have:=u d o;omega
 have z:=h.nn
 have A:=h.pp
 have sl:=h.sl
 have t:BY r x=(if r.word=[] then [] else [r.word])++(x.i.map Lib.itoa++((if r.nxt=[] then [] else [r.nxt])++((if r.shaped then x.s.map Lib.itoa else if r.nxt=[] then [] else [Lib.itoa x.n])++(if r.last=[] then [] else [r.last,Lib.itoa x.p])))):=by
  rw [if_neg i]
  unfold BY
  simp only [append_assoc]
 rw [t,Iq,Option.bind_some]
 rw [LV (n h.ii) (by omega) (by omega),Option.bind_some]
 ·simp only
  rw [Iq,Option.bind_some,PH (n h.ss) (by omega) (by omega) (fun e=>⟨k e,a (.inr e),by rw [if_pos (m e)]⟩) c (fun e=>a (.inl e)),Option.bind_some]
  simp only
  rw [PX (by omega) f,Option.bind_some,if_pos rfl]
  rfl
 ·by_cases e:r.nxt=[]
  ·obtain ⟨s,y⟩:=j e
   cases es:r.shaped with
   |true=>
    left
    have:=s es
    omega
   |false=>
    right;left
    simp [e,y es]
  ·right;right
   rw [if_neg e]
   rcases b with b|b
   ·exact absurd b e
   ·exact b
def EC (x:N5):List UInt8:=Lib.join (BY (AP x.k) x) [32]
theorem H8 (ls:List N5):AX ls=DM (ls.map EC):=by
 unfold AX DM
 rw [map_map]
 rfl
theorem KM {b c:UInt8}:∀{xs:List (List UInt8)},b ∈ Lib.join xs [c]→(∃x ∈ xs,b ∈ x)∨b=c
 |[],h=>by cases h
 |[x],h=>by rw [DY] at h;exact .inl ⟨x,by simp,h⟩
 |x::y::ys,h=>by
  rw [CQ] at h
  rcases List.mem_append.1 h with h|h
  ·exact .inl ⟨x,by simp,h⟩
  ·rcases List.mem_cons.1 h with h|h
   ·exact .inr h
   ·rcases KM h with ⟨z,a,k⟩|k
    ·exact .inl ⟨z,mem_cons_of_mem _ a,k⟩
    ·exact .inr k
theorem Mw {n:Int} (h:0≤n) {c:UInt8} (b:c.toNat<48):c ∉ Lib.itoa n:=by
 obtain ⟨u,rfl⟩:∃u:Nat,n=(u:Int):=⟨n.toNat,by omega⟩
 rw [Lib.itoa_nonneg]
 intro a
 have:=(IY u).1
 unfold Lc at this
 have:=List.all_eq_true.1 this c a
 simp only [Bool.and_eq_true,decide_eq_true_eq] at this
 omega
theorem QI:∀k:BitVec 8,((32:UInt8) ∉ (AP k).word∧(10:UInt8) ∉ (AP k).word)∧((32:UInt8) ∉ (AP k).nxt∧(10:UInt8) ∉ (AP k).nxt)∧((32:UInt8) ∉ (AP k).last∧(10:UInt8) ∉ (AP k).last):=by decide+kernel
theorem K2 {x:N5} (h:DN x):∀y ∈ BY (AP x.k) x,(32:UInt8) ∉ y∧(10:UInt8) ∉ y:=by
 obtain ⟨f,d,e⟩:=QI x.k
 have c:∀{n:Int},0≤n→(32:UInt8) ∉ Lib.itoa n∧(10:UInt8) ∉ Lib.itoa n:=fun b=>⟨Mw b (by decide),Mw b (by decide)⟩
 unfold BY
 intro y a
 simp only [mem_append,mem_singleton] at a
 rcases a with (((rfl|a)|a)|a)|a
 ·exact f
 ·obtain ⟨n,b,rfl⟩:=List.mem_map.1 a
  exact c (h.ii n b).1
 ·split at a
  ·cases a
  ·rw [List.mem_singleton.1 a];exact d
 ·split at a
  ·obtain ⟨n,b,rfl⟩:=List.mem_map.1 a
   exact c (h.ss n b).1
  ·split at a
   ·cases a
   ·rw [List.mem_singleton.1 a];exact c h.nn.1
 ·split at a
  ·cases a
  ·rcases List.mem_cons.1 a with rfl|a
   ·exact e
   ·rw [List.mem_singleton.1 a];exact c h.pp.1
theorem IG (r:Rw) (x:N5):∃t,BY r x=r.word::t:=⟨(BY r x).tail,rfl⟩
theorem JF {x:N5} (h:DN x):BP 32 (EC x)=BY (AP x.k) x:=by
 have a:=K2 h
 unfold EC
 obtain ⟨t,e⟩:=IG (AP x.k) x
 rw [e] at a ⊢
 exact HL t _ (a _ (by simp)).1 fun y b=>(a y (by simp [b])).1
theorem O6 {x:N5} (h:DN x):(10:UInt8) ∉ EC x:=fun a=>by
 rcases KM a with ⟨y,b,k⟩|k
 ·exact (K2 h y b).2 k
 ·exact absurd k (by decide)
theorem O7 {x:N5} (h:DN x):EC x≠[]:=fun e=>by
 have b:=(Mj x.k h.kd).2.1
 have a:=JF h
 rw [e] at a
 obtain ⟨t,c⟩:=IG (AP x.k) x
 rw [c] at a
 exact b (List.cons.inj a).1.symm
def MA (x:N5):Prop:=DN x∧((AP x.k).shaped=true→x.s≠[])
theorem J0:∀(ls:List N5) (i:Nat),(∀x ∈ ls,MA x)→i+ls.length≤32→CV i (ls.map EC)= .inr (ls.map pn)
 |[],_,_,_=>rfl
 |x::ls,i,h,hi=>by
  have a:=h x (by simp)
  simp only [length_cons] at hi
  rw [map_cons,CV,if_neg (by omega),JF a.1,O5 a.1 a.2]
  simp only
  rw [J0 ls (i+1) (fun y b=>h y (by simp [b])) (by omega)]
  rfl
theorem R9 {k:BitVec 8} {n p:Int} {a:List (List Int)}:∀{s:List Int},Shapes.ok (FV k s n p a)=true→(AP k).shaped=true→s≠[]:=by
 intro s h v e
 subst e
 have key:∀k:BitVec 8,(AP k).shaped=true→(k=1#8∨k=2#8∨k=10#8∨k=11#8∨CI k=none):=by decide+kernel
 have b:Shapes.ok []=false:=by decide
 rcases key k v with rfl|rfl|rfl|rfl|q
 ·have e:FV 1#8 [] n p a=[]:=by simp [FV]
  rw [e,b] at h;cases h
 ·have e:FV 2#8 [] n p a=[]:=by simp [FV]
  rw [e,b] at h;cases h
 ·have e:FV 10#8 [] n p a=[]:=by simp [FV]
  rw [e,b] at h;cases h
 ·have e:FV 11#8 [] n p a=[]:=by simp [FV,Lv]
  rw [e,b] at h;cases h
 ·have c:∀k:BitVec 8,CI k=none→(k=0#8∨13#8<k):=by decide+kernel
  have e:FV k [] n p a=[]:=by
   unfold FV
   have:k≠1#8∧k≠2#8∧k≠3#8∧k≠4#8∧k≠5#8∧k≠6#8∧k≠7#8∧k≠8#8∧k≠9#8∧k≠10#8∧k≠11#8∧k≠12#8∧k≠13#8:=by
    rcases c k q with rfl|h
    ·decide
    ·refine ⟨?_, ?_, ?_, ?_, ?_, ?_, ?_, ?_, ?_, ?_, ?_, ?_, ?_⟩<;>intro e<;>subst e<;>exact absurd h (by decide)
   obtain ⟨j,w,r,x,t,u,m,l,o,d,f,g,i⟩:=this
   simp [j,w,r,x,t,u,m,l,o,d,f,g,i]
  rw [e,b] at h;cases h
theorem JA {ls:List N5} (h:(EU ls).isSome=true):1≤ls.length∧ls.length≤32∧∀x ∈ ls,MA x:=by
 obtain ⟨f,j⟩:=Ht h
 obtain ⟨d,b⟩:=Option.isSome_iff_exists.1 h
 have g:ED [] ls=some d∧1≤ls.length:=by
  unfold EU at b
  split at b
  ·cases b
  ·split at b
   ·split at b
    ·rename_i e _;cases b;exact ⟨e,by omega⟩
    ·cases b
   ·cases b
 have key:∀(l:List N5) (a:List (List Int)),(∃d,ED a l=some d)→∀x ∈ l,(AP x.k).shaped=true→x.s≠[]:=by
  intro l
  induction l with
  |nil=>intro _ _ x c;cases c
  |cons y l ih=>
   rintro a ⟨d,h⟩ x c
   unfold ED at h
   cases e:Kq a y with
   |none=>rw [e] at h;cases h
   |some s=>
    rw [e] at h
    rcases List.mem_cons.1 c with rfl|c
    ·unfold Kq at e
     split at e
     ·rename_i i
      simp only [Bool.and_eq_true] at i
      exact R9 i.2
     ·cases e
    ·exact ih (a++[s]) ⟨d,h⟩ x c
 exact ⟨g.2,f,fun x c=>⟨j x c,key ls [] ⟨d,g.1⟩ x c⟩⟩
theorem I4 {ls:List N5} (h:(EU ls).isSome=true) {s:List UInt8} (b:s=AX ls∨s++[10]=AX ls):FL s=ls.map pn∧FE s=0∧HB s=0:=by
 obtain ⟨o,l,g⟩:=JA h
 have n:=G5 (ls:=ls) fun x f=>(g x f).1
 have a:¬65536<s.length:=by
  rcases b with rfl|b
  ·omega
  ·have:=cngA length b
   rw [length_append] at this
   omega
 have i:CE s=ls.map EC:=by
  have c:∀y ∈ ls.map EC,(10:UInt8) ∉ y:=fun y j=>by
   obtain ⟨x,f,rfl⟩:=List.mem_map.1 j
   exact O6 (g x f).1
  rcases b with rfl|b
  ·rw [H8];exact LC c
  ·rw [H8] at b
   have d:∀y ∈ ls.map EC,y≠[]:=fun y j=>by
    obtain ⟨x,f,rfl⟩:=List.mem_map.1 j
    exact O7 (g x f).1
   cases e:ls.map EC with
   |nil=>
    have:=cngA length e
    rw [length_map,length_nil] at this
    omega
   |cons y ys=>
    rw [e] at b c d
    rw [← G9] at b
    rw [List.append_cancel_right b]
    exact LB c d
 have k:=J0 ls 0 g (by omega)
 have m:Ke (ls.map pn)=EU ls:=GB ls
 unfold FL FE HB
 rw [if_neg a,if_neg a,if_neg a,i,k]
 simp only
 simp [m,h]
theorem J5:∀(ts:List (List UInt8)) (i:Nat) (ns:List PN),CV i ts= .inr ns→ts=(ns.map un).map EC
 |[],_,ns,h=>by cases h;rfl
 |t::ts,i,ns,h=>by
  rw [CV] at h
  split at h
  ·cases h
  ·cases hp:CF (BP 32 t) with
   |none=>rw [hp] at h;cases h
   |some p=>
    rw [hp] at h
    simp only at h
    cases hr:CV (i+1) ts with
    |inl j=>rw [hr] at h;cases h
    |inr ns2=>
     rw [hr] at h
     cases h
     have e:EC (un p)=t:=by
      unfold EC
      rw [show (un p).k=p.1 from rfl,MX hp,HH]
     rw [map_cons,map_cons,e,← J5 ts (i+1) ns2 hr]
theorem Ly {s:List UInt8} (h:FE s=0):(Ke (FL s)).isSome=true∧(AX ((FL s).map un)=s∨AX ((FL s).map un)=s++[10]):=by
 unfold FE at h
 unfold FL
 split at h
 ·cases h
 ·rename_i a
  rw [if_neg a]
  cases hp:CV 0 (CE s) with
  |inl i=>rw [hp] at h;cases h
  |inr ns=>
   rw [hp] at h
   simp only at h ⊢
   split at h
   ·rename_i g
    rw [if_pos g]
    refine ⟨g, ?_⟩
    rw [H8,← J5 _ 0 ns hp]
    exact LD s
   ·cases h
theorem PE {s:List UInt8} (h:FE s≠0):FL s=[]:=by
 unfold FE at h
 unfold FL
 split
 ·rfl
 ·rename_i a
  rw [if_neg a] at h
  cases hp:CV 0 (CE s) with
  |inl i=>rfl
  |inr ns=>
   rw [hp] at h
   simp only at h ⊢
   split at h
   ·exact absurd rfl h
   ·rename_i g;rw [if_neg g]
end Go.Proofs.YtblbopcaflaldaaGreatDoor

namespace Go.Proofs.YtblbopcaflaldaaGreatDoor
open Go Go.Dd Go.RowKit Go.Proofs.Tryz
open List hiding get
set_option maxRecDepth 100000
-- dd: text
theorem Pw.retCq {P:Program} {n:Nat} {E:BM} {w:World} {pv:Value} {e:TypeId} {f:Func} {R:Value→World→Prop} {K:World→Prop} {p b k:Nat} {T:TypeId} {cs:List Value} {d:TypeDesc} (l:f.results= #[.cell p e]) (i:get E p=some (.pointer (some ⟨b,0,none⟩))) (o:AK w b T cs)
  (m:P.underlying e=some d) (g:(match d with| .struct _| .array _ _=>true|_=>false)=true) (q:(P.info? e).map (·.size)=some k) (j:cs.length=k) (h:R (.agg cs.toArray) w):Pw n E (Mc P f pv R K .ret) w:=fun a c=>by
 subst j
 exact bodyPost_ret (v:= .agg cs.toArray) (results_cell_row l a.tmps w b T cs.toArray (0,0) d (by simp [Array.getD_eq_getD_getElem?,c.has _ _ i]) o m g (by simpa using q)) c.dfr (.inl ⟨_,rfl,h⟩)
def Rx {St:Type} (n:Nat) (Ei:St→BM) (I:St→World→Prop) (Q:BB):BB:=fun e a w=>match e with
 | .normal=>∃s,BH n (Ei s) a∧I s w
 |e=>Q e a w
section
variable {P : Program} {n : Nat} {E : BM} {w : World} {St : Type} {Ei : St → BM} {I : St → World → Prop} {Q : BB}
theorem Cw.midQ {c:Code} (Ei:St→BM) (I:St→World→Prop) {K:Act→World→Prop} (h:Cw P (Rx n Ei I Q) n c E w) (k:∀s w',I s w' →Pw n (Ei s) K w'):Cw P (BN K Q) n c E w:=fun a e=>
 Code.wp_mono (fun x f w' b=>by
  cases x with
  |normal=>
   obtain ⟨s,d,g⟩:=b
   exact k s w' g f d
  |_=>exact b) (h a e)
theorem E4 (s:St) (a:N1 E (Ei s)) (c:I s w):Pw n E (Rx n Ei I Q .normal) w:=fun _ b=>⟨s,b.sub a,c⟩
theorem E3 {c:List PanicEntry} (h:Pw n E (Q (.panic c)) w):Pw n E (Rx n Ei I Q (.panic c)) w:=h
end
def Sh (k v:Value):Prop:=∃r ∈ GY,k=st r.word∧v=b8 (BitVec.ofNat 8 r.k)
theorem Jq:∀r ∈ GY,∀q ∈ GY,r.word=q.word→r=q:=by decide+kernel
theorem KO {r:Rw} (h:r ∈ GY):CS r.word=BitVec.ofNat 8 r.k:=by
 revert r
 unfold CS
 decide+kernel
theorem OA {s:List UInt8} (h:∀r ∈ GY,r.word≠s):CS s=0#8:=by
 unfold CS
 rw [List.find?_eq_none.2 fun r a=>by simpa using h r a]
 rfl
section
variable {n : Nat} {E : BM} {w : World} {ty : TypeId} {x y : Operand}
theorem Ex.kindL {M:Nat} {s:List UInt8} (g:ev E x=some (.map (some M))) (f:ev E y=some (st s)) (h:BF w M .string Sh):Ex prog n E (.lookup 135 x y false) ty w (b8 (CS s)):=by
 by_cases a:∃r ∈ GY,r.word=s
 ·obtain ⟨r,a,rfl⟩:=a
  refine E5 underlying135 HX g f trivial h ⟨_,_,(show Tryz.prog.info? 77=some Tryz.t77 by kernel_rfl),rfl⟩ ⟨r,a,rfl,by rw [KO a]⟩ ?_
  rintro v ⟨q,b,c,rfl⟩
  rw [Jq r a q b (JR c),KO b]
 ·rw [OA fun r d e=>a ⟨r,d,e⟩]
  refine Fw underlying135 HX g f trivial h (show Tryz.prog.info? 77=some Tryz.t77 by kernel_rfl) O ?_
  rintro v ⟨q,b,c, -⟩
  exact a ⟨q,b,(JR c).symm⟩
theorem PB:∀k:BitVec 8,(∀r ∈ GY,¬r.k=k.toNat)→AP k=⟨0,[],0,0,[],[]⟩:=by decide+kernel
theorem PC:∀k:BitVec 8,(∃r ∈ GY,r.k=k.toNat)→AP k ∈ GY∧(AP k).k=k.toNat:=by decide+kernel
theorem Ex.rowL {M:Nat} {k:BitVec 8} (g:ev E x=some (.map (some M))) (d:ev E y=some (b8 k)) (h:BF w M (.int .u8) RD):Ex prog n E (.lookup 122 x y false) ty w (.agg (AP k).cells.toArray):=by
 by_cases hr:∃r ∈ GY,r.k=k.toNat
 ·obtain ⟨f,i⟩:=PC k hr
  refine E5 underlying122 BO g d O h ⟨_,_,(show Tryz.prog.info? 125=some Tryz.t125 by kernel_rfl),rfl⟩ ⟨_,f,by rw [i],rfl⟩ ?_
  rintro v ⟨q,a,b,rfl⟩
  have:(k.toNat:Int)=(q.k:Int):=by injection b
  rw [K9 (AP k) f q a (by omega)]
 ·rw [PB k fun r c e=>hr ⟨r,c,e⟩]
  refine Fw underlying122 BO g d O h (show Tryz.prog.info? 125=some Tryz.t125 by kernel_rfl) O ?_
  rintro v ⟨q,a,b, -⟩
  have:(k.toNat:Int)=(q.k:Int):=by injection b
  exact hr ⟨q,a,by omega⟩
end
theorem Ms {l:List (List UInt8)} {r:Rw} (a:r=AP (CS (l.getD 0 default))) (h:r.word=[]∨DO r.word l=none):CF l=none:=by
 have e:l.headD []=l.getD 0 default:=by cases l<;>rfl
 unfold CF
 rw [e,← a]
 rcases h with h|h
 ·rw [if_pos h]
 ·split
  ·rfl
  ·rw [h];rfl
theorem PK {l a:List (List UInt8)} {r:Rw} (b:r=AP (CS (l.getD 0 default))) (c:¬r.word=[]) (h:DO r.word l=some a):CF l=(LW r.least r.most a).bind fun q=>
 (DO r.nxt q.2).bind fun d=>(HY r d).bind fun t=>(IX r t.2.2).bind fun e=>
 if e.2=[] then some (CS (l.getD 0 default),q.1,t.1,t.2.1,e.1) else none:=by
 have e:l.headD []=l.getD 0 default:=by cases l<;>rfl
 unfold CF
 rw [e,← b,if_neg c,h]
 rfl
theorem Ob:∀k:BitVec 8,(AP k).most≤65536:=by decide+kernel
set_option maxHeartbeats 2000000 in
theorem QS (W w:World) (A K M:Nat) (v:Value) (l:List (List UInt8)) (hG:HZ W) (h:Ku W w A v l) (hl:∀x ∈ l,x.length≤65536) (hn:l.length≤65537) (h0:0<l.length) (t:BF w K .string Sh) (hM:BF w M (.int .u8) RD) (hMA:M≠A):
  H6 prog 127 [.pointer (some ⟨A,0,none⟩), .map (some K), .map (some M)] w LU
   (fun r w' =>∃c:N5,r=c.v∧CF l=some (pn c)∧w.grownBy w' (some A)∧(∃v' l',Ku W w' A v' l')∧NK w' w.heap.size w'.heap.size c)
   (fun w' =>CF l=none∧w.grownBy w' (some A)):=by
 obtain ⟨k,ek⟩:∃k,k=CS (l.getD 0 default):=⟨_,rfl⟩
 obtain ⟨r,hr⟩:∃r,r=AP k:=⟨_,rfl⟩
 have U:=hr
 rw [ek] at U
 have zW:=h.bel.size
 have zA:=AY h.cell
 have lM:=hM.lt
 refine Dk (n:=77) func127 (by kernel_rfl) O O O<|Ah<|C8 GK O ?_
 rintro C w1 eA_x a G zhn1
 have z1:=G.size
 have h:=h.bs G
 have t:=t.bs G
 have hM:=hM.bs G
 have X:=h.sl
 have s_v:=X.bs h.bel
 have b_A:=h.cell
 have j:=AU G (some A)
 refine Au<|Ad O<|Ad O<|Aa (Cb O) O<|A6 underlying139 O (DJ _)<|Aa (An (G0 _) O ‹_› rfl) O ?_
 refine Aa (A8 BR O O ‹_› 0 O (by omega)) O ?_
 refine Aa (Be (FH _) O ‹_› (by omega)) O ?_
 refine Aa (Ex.kindL O O t) O<|A6 underlying79 O (FJ _) ?_
 rw [← ek]
 refine Ax (B5 (FJ _) O O O a (show 0<5 by decide)) ?_
 rintro w2 ⟨a,Z,hz2⟩
 replace a:AK w2 C 79 [b8 k, .slice none 0 0, .slice none 0 0, .int .i64 0, .int .i64 0]:=a
 replace hM:=EX hM Z (by intro e;have:=Option.some.inj e;omega)
 have h:=h.grow Z (by rintro _ ⟨⟩;omega)
 replace j:=CR j Z (by rintro _ ⟨⟩;omega)
 clear G Z X s_v b_A t
 refine Au<|Ad O<|A6 underlying79 O (FJ _)<|Aa (An (GO _) O ‹_› rfl) O ?_
 refine Aa (Ex.rowL O O hM) O ?_
 rw [← hr]
 refine Cu (cs:=r.cells) LH O O O O (fun _=>rfl) (rfl) ?_
 rintro A_r w3 eA_r f J zhn3
 have z3:=J.size
 have a:=a.bs J
 have h:=h.bs J
 replace j:=AI j (AU J _)
 have lx:=AY a
 have lr:=AY f
 have xr:C<A_r:=by omega
 clear J hM
 refine Au<|Ad O<|A6 underlying125 O (Ha _)<|Aa (An (FH _) O ‹_› rfl) O ?_
 refine Cf O O (Lt W w3 A v l r.word h) (fun w' t=>Bc (Cj (⟨Ms U (.inr t.1),t.2 ▸ j⟩))) ?_
 rintro _ w4 ⟨l1,e1,Y,hz4,v1,hR1⟩
 have a:=a.by Y (fun e=>by have:=Option.some.inj e;omega)
 have f:=f.by Y (fun e=>by have:=Option.some.inj e;omega)
 replace j:=AI j Y
 have c1:=hR1
 clear h
 have k1:=DW e1
 have q1:∀x ∈ l1,x.length≤65536:=fun x S=>hl x (by rw [k1];exact mem_append_right _ S)
 have n1:l1.length≤65537:=by have:=cngA length k1;rw [length_append] at this;omega
 have hm:r.most≤65536:=by rw [hr];exact Ob k
 refine Ba<|A6 underlying125 O (Ha _)<|Aa (An (FH _) O ‹_› rfl) O ?_
 refine Aa (D5 O O) O<|Ak<|Al O ?_ ?_
 ·intro g
  have g:r.word=[]:=AE g
  refine A4<|Aa (Bg (vs:=[]) (cs:=[]) O (by kernel_rfl)) O<|Aa (Du underlying106 O) O ?_
  refine D1 O (Bc (Cj (⟨Ms U (.inl g),j⟩)))
 intro g
 have g:¬r.word=[]:=AC g
 have D:=PK U g e1
 rw [← ek] at D
 clear e1 g k1
 refine Ca<|Ad O<|A6 underlying125 O (BU _)<|Aa (An (BD _) O ‹_› rfl) O ?_
 refine A6 underlying125 O (BU _)<|Aa (An (BD _) O ‹_› rfl) O ?_
 refine Cf O O (G7 W w4 A r.least r.most v1 l1 hG hR1 q1 n1 hm) (fun w' t=>Bc (Cj (⟨by rw [D,t.1];rfl,AI j t.2⟩))) ?_
 rintro H w5 ⟨ns,l2,e2,N,d,v2,h⟩
 have a:=a.by N (fun e=>by have:=Option.some.inj e;omega)
 have f:=f.by N (fun e=>by have:=Option.some.inj e;omega)
 replace j:=AI j N
 rw [e2,Option.bind_some] at D
 dsimp only at D
 have k2:l1=ns.map Lib.itoa++l2:=(GC e2).1
 have q2:∀x ∈ l2,x.length≤65536:=fun x S=>q1 x (by rw [k2];exact mem_append_right _ S)
 have n2:l2.length≤65537:=by have:=cngA length k2;rw [length_append] at this;omega
 have z5:=N.size
 have i5:∀b,H.ownBlock=some b→b<w5.heap.size:=fun b e=>(d.lt b e).2
 clear hR1 e2 k2 c1
 refine A6 underlying79 O (BQ _)<|Ax (B5 (BQ _) O O d.sl.one' a (show 1<5 by decide)) ?_
 rintro w6 ⟨q,i,T⟩
 replace d:=AB d i (fun b e=>by cases e;exact ⟨_,a⟩) (by decide)
 replace a:AK w6 C 79 [b8 k,H, .slice none 0 0, .int .i64 0, .int .i64 0]:=q
 have h:=h.grow i (by rintro _ ⟨⟩;omega)
 have f:=f.by i (fun e=>by have:=Option.some.inj e;omega)
 replace j:=CR j i (by rintro _ ⟨⟩;omega)
 clear q
 refine Au<|Ad O<|A6 underlying125 O (Ha _)<|Aa (An (FH _) O ‹_› rfl) O ?_
 refine Cf O O (Lt W w6 A v2 l2 r.nxt h) (fun w' t=>Bc (Cj (⟨by rw [D,t.1];rfl,t.2 ▸ j⟩))) ?_
 rintro _ w7 ⟨l3,e3,B,hz7,v3,hR3⟩
 replace d:=AB d B (fun b e=>by cases e;exact ⟨_,h.cell⟩) (by decide)
 have a:=a.by B (fun e=>by have:=Option.some.inj e;omega)
 have f:=f.by B (fun e=>by have:=Option.some.inj e;omega)
 replace j:=AI j B
 rw [e3,Option.bind_some] at D
 have k3:=DW e3
 have q3:∀x ∈ l3,x.length≤65536:=fun x S=>q2 x (by rw [k3];exact mem_append_right _ S)
 have n3:l3.length≤65537:=by have:=cngA length k3;rw [length_append] at this;omega
 clear e3 k3 h
 refine Ak<|Ap ?_
 refine Cw.midQ (St:=(Value×List Int×Int×Value×List (List UInt8))) (fun z=>[(0, .pointer (some ⟨A,0,none⟩)),(6, .pointer (some ⟨C,0,none⟩)),(7, .pointer (some ⟨A_r,0,none⟩))]) (fun z w' =>HY r l3=some (z.2.1,z.2.2.1,z.2.2.2.2)∧w.grownBy w' (some A)∧AK w' C 79 [b8 k,H,z.1, .int .i64 z.2.2.1, .int .i64 0]∧AK w' A_r 125 r.cells∧AW w' w4.heap.size 3 1 H ns.length (ns.map (Value.int .i64))∧AW w' w7.heap.size 3 1 z.1 z.2.1.length (z.2.1.map (Value.int .i64))∧Ku W w' A z.2.2.2.1 z.2.2.2.2) ?_ ?_
 ·refine Av<|Ah<|Aa (Bu (Pm _) (NR _) O O ‹_›) O ?_
  refine Ai O O (K6 r w7) ?_
  rintro _ w8 ⟨rfl,F⟩
  have z8:=F.size
  have a:=a.bs F
  have f:=f.bs F
  have d:=d.bs F
  have h:=hR3.bs F
  replace j:=AI j (AU F _)
  clear hR3 F
  refine Ab O<|Ak<|Al O ?_ ?_
  ·intro e
   refine A4<|Ad O<|Cf O O (G7 W w8 A 1 65536 v3 l3 hG h q3 n3 (AQ _)) (fun w' t=>C2 (E3 (Cj (⟨by rw [D,HY,if_pos e,t.1];rfl,AI j t.2⟩)))) ?_
   rintro y w9 ⟨s,R,V,o,m,v4,hR4⟩
   replace d:=AB d o (fun b e=>by cases e;exact ⟨_,h.cell⟩) (by decide)
   have a:=a.by o (fun e=>by have:=Option.some.inj e;omega)
   have f:=f.by o (fun e=>by have:=Option.some.inj e;omega)
   replace j:=AI j o
   replace h:=hR4
   have z9:=o.size
   refine A6 underlying79 O (BQ _)<|Ax (B5 (BQ _) O O m.sl.one' a (show 2<5 by decide)) ?_
   rintro L ⟨q,i,T⟩
   replace d:=AB d i (fun b e=>by cases e;exact ⟨_,a⟩) (by decide)
   replace m:=AB m i (fun b e=>by cases e;exact ⟨_,a⟩) (by decide)
   replace a:AK L C 79 [b8 k,H,y, .int .i64 0, .int .i64 0]:=q
   have h:=h.grow i (by rintro _ ⟨⟩;omega)
   have f:=f.by i (fun e=>by have:=Option.some.inj e;omega)
   replace j:=CR j i (by rintro _ ⟨⟩;omega)
   refine A7<|Bb ?_
   exact E4 ((y,s,0,v4,R)) ⟨rfl,rfl,rfl,trivial⟩ (⟨by rw [HY,if_pos e,V];rfl,j,a,f,d,m.mono (by omega),h⟩)
  intro e
  have e:¬r.shaped=true:=by rw [e];decide
  refine Ah<|A6 underlying125 O (Ha _)<|Aa (An (FH _) O ‹_› rfl) O ?_
  refine Aa (En O O) O<|Ab O<|Ak<|Al O ?_ ?_
  ·intro e9
   have e9:¬r.nxt=[]:=by simpa using e9
   refine A4<|Ad O<|Cf O O (G7 W w8 A 1 1 v3 l3 hG h q3 n3 (by decide)) (fun w' t=>C2 (E3 (Cj (⟨by rw [D,HY,if_neg e,if_neg e9,t.1];rfl,AI j t.2⟩)))) ?_
   rintro y w9 ⟨s,R,V,o,m,v4,hR4⟩
   replace d:=AB d o (fun b e=>by cases e;exact ⟨_,h.cell⟩) (by decide)
   have a:=a.by o (fun e=>by have:=Option.some.inj e;omega)
   have f:=f.by o (fun e=>by have:=Option.some.inj e;omega)
   replace j:=AI j o
   replace h:=hR4
   have z9:=o.size
   have ls:1≤s.length:=(GC V).2.1
   have s_y:=m.slT
   have eh:s.getD 0 default=s.headD 0:=by cases s<;>rfl
   refine Aa (A8 AF O O ‹_› 0 O (by omega)) O ?_
   refine Aa (Be (BD _) O ‹_› (by omega)) O ?_
   refine A6 underlying79 O (BU _) ?_
   rw [eh]
   refine Ax (B5 (BU _) O O O a (show 3<5 by decide)) ?_
   rintro L ⟨q,i,T⟩
   replace d:=AB d i (fun b e=>by cases e;exact ⟨_,a⟩) (by decide)
   replace a:AK L C 79 [b8 k,H, .slice none 0 0, .int .i64 (s.headD 0), .int .i64 0]:=q
   have h:=h.grow i (by rintro _ ⟨⟩;omega)
   have f:=f.by i (fun e=>by have:=Option.some.inj e;omega)
   replace j:=CR j i (by rintro _ ⟨⟩;omega)
   refine A7<|Bb ?_
   exact E4 ((.slice none 0 0,[],s.headD 0,v4,R)) ⟨rfl,rfl,rfl,trivial⟩ (⟨by rw [HY,if_neg e,if_neg e9,V];rfl,j,a,f,d, .inl ⟨rfl, .inl ⟨rfl,rfl⟩⟩,h⟩)
  intro e9
  have e9:r.nxt=[]:=by simpa using e9
  exact B7<|Bb<|E4 ((.slice none 0 0,[],0,v3,l3)) ⟨rfl,rfl,rfl,trivial⟩ (⟨by rw [HY,if_neg e,if_pos e9],j,a,f,d, .inl ⟨rfl, .inl ⟨rfl,rfl⟩⟩,h⟩)
 have zg7:=j.size
 clear j a f d hR3 Y N i B
 rintro ⟨y,s,n,v4,R⟩ L ⟨V,j,a,f,d,m,h⟩
 dsimp only at V j a f d m h ⊢
 rw [V,Option.bind_some] at D
 dsimp only at D
 have k4:=KL V
 dsimp only at k4
 have q4:∀x ∈ R,x.length≤65536:=fun x S=>q3 x (by rw [k4];exact mem_append_right _ S)
 have n4:R.length≤65537:=by have:=cngA length k4;rw [length_append] at this;omega
 clear V k4
 refine Cc<|Ap<|Ah<|A6 underlying125 O (Ha _)<|Aa (An (FH _) O ‹_› rfl) O ?_
 refine Aa (En O O) O<|Ak ?_
 refine Cw.midQ (St:=(Int×Value×List (List UInt8))) (fun z=>[(0, .pointer (some ⟨A,0,none⟩)),(6, .pointer (some ⟨C,0,none⟩))]) (fun z w' =>IX r R=some (z.1,z.2.2)∧w.grownBy w' (some A)∧AK w' C 79 [b8 k,H,y, .int .i64 n, .int .i64 z.1]∧AW w' w4.heap.size 3 1 H ns.length (ns.map (Value.int .i64))∧AW w' w7.heap.size 3 1 y s.length (s.map (Value.int .i64))∧Ku W w' A z.2.1 z.2.2) ?_ ?_
 ·refine Al O ?_ ?_
  ·intro e
   have e:¬r.last=[]:=by simpa using e
   refine Ah<|Ad O<|A6 underlying125 O (Ha _)<|Aa (An (FH _) O ‹_› rfl) O ?_
   refine Cf O O (Lt W L A v4 R r.last h) (fun w' t=>Bc (E3 (Cj (⟨by rw [D,IX,if_neg e,t.1];rfl,t.2 ▸ j⟩)))) ?_
   rintro _ w11 ⟨l5,e5,B,hz7,v5,hR5⟩
   replace d:=AB d B (fun b e=>by cases e;exact ⟨_,h.cell⟩) (by decide)
   replace m:=AB m B (fun b e=>by cases e;exact ⟨_,h.cell⟩) (by decide)
   have a:=a.by B (fun e=>by have:=Option.some.inj e;omega)
   have f:=f.by B (fun e=>by have:=Option.some.inj e;omega)
   replace j:=AI j B
   replace h:=hR5
   have k5:=DW e5
   have q5:∀x ∈ l5,x.length≤65536:=fun x S=>q4 x (by rw [k5];exact mem_append_right _ S)
   have n5:l5.length≤65537:=by have:=cngA length k5;rw [length_append] at this;omega
   refine Ak<|A4<|Ad O<|Cf O O (G7 W w11 A 1 1 v5 l5 hG h q5 n5 (by decide)) (fun w' t=>E3 (Cj (⟨by rw [D,IX,if_neg e,e5,Option.bind_some,t.1];rfl,AI j t.2⟩))) ?_
   rintro u w12 ⟨ps,l6,e6,o,o_u,v6,hR6⟩
   replace d:=AB d o (fun b e=>by cases e;exact ⟨_,h.cell⟩) (by decide)
   replace m:=AB m o (fun b e=>by cases e;exact ⟨_,h.cell⟩) (by decide)
   have a:=a.by o (fun e=>by have:=Option.some.inj e;omega)
   have f:=f.by o (fun e=>by have:=Option.some.inj e;omega)
   replace j:=AI j o
   replace h:=hR6
   have ls:1≤ps.length:=(GC e6).2.1
   have s_y:=o_u.slT
   have eh:ps.getD 0 default=ps.headD 0:=by cases ps<;>rfl
   refine Aa (A8 AF O O ‹_› 0 O (by omega)) O ?_
   refine Aa (Be (BD _) O ‹_› (by omega)) O ?_
   refine A6 underlying79 O (BU _) ?_
   rw [eh]
   refine Ax (B5 (BU _) O O O a (show 4<5 by decide)) ?_
   rintro w13 ⟨q,i,T⟩
   replace d:=AB d i (fun b e=>by cases e;exact ⟨_,a⟩) (by decide)
   replace m:=AB m i (fun b e=>by cases e;exact ⟨_,a⟩) (by decide)
   replace a:AK w13 C 79 [b8 k,H,y, .int .i64 n, .int .i64 (ps.headD 0)]:=q
   have h:=h.grow i (by rintro _ ⟨⟩;omega)
   have f:=f.by i (fun e=>by have:=Option.some.inj e;omega)
   replace j:=CR j i (by rintro _ ⟨⟩;omega)
   refine A7 ?_
   exact E4 ((ps.headD 0,v6,l6)) ⟨rfl,rfl,trivial⟩ (⟨by rw [IX,if_neg e,e5,Option.bind_some,e6];rfl,j,a,d,m,h⟩)
  intro e
  have e:r.last=[]:=by simpa using e
  exact B7<|E4 ((0,v4,R)) ⟨rfl,rfl,trivial⟩ (⟨by rw [IX,if_pos e],j,a,d,m,h⟩)
 clear j a f d m h
 rintro ⟨p,v5,l5⟩ w11 ⟨e5,j,a,d,m,h⟩
 dsimp only at e5 j a d m h ⊢
 rw [e5,Option.bind_some] at D
 dsimp only at D
 refine Cc ?_
 have X:=h.sl
 have s_v:=X.bs h.bel
 have b_A:=h.cell
 refine Ap<|Ah<|Ad O<|Aa (Cb O) O<|A6 underlying139 O (DJ _)<|Aa (An (G0 _) O ‹_› rfl) O ?_
 refine Aa (Ay BR O ‹_›) O ?_
 refine Aa (C1 O O) O<|Ak<|Al O ?_ ?_
 ·intro g
  have g:¬l5=[]:=fun e=>by rw [e] at g;exact absurd (AE g) (by decide)
  refine A4<|Aa (Bg (vs:=[]) (cs:=[]) O (by kernel_rfl)) O<|Aa (Du underlying106 O) O ?_
  refine D1 O (Bc (Cj (⟨by rw [D];exact if_neg g,j⟩)))
 intro g
 have g:l5=[]:=eq_nil_of_length_eq_zero (by have:=AC g;omega)
 rw [if_pos g] at D
 have one:[b8 k,H,y, .int .i64 n, .int .i64 p].all (·.oneCell')=true:=by
  rw [all_cons,all_cons,all_cons,d.sl.one',m.sl.one'];rfl
 have zz:=j.size
 refine Ca<|Aa (Bu (GM _) (GI _) O O ‹_›) O ?_
 refine Ax (Ci (cs:=[b8 k,H,y, .int .i64 n, .int .i64 p]) (k:=5) (by kernel_rfl) O O O one a O) ?_
 rintro w12 ⟨q,i,T⟩
 replace d:=AB d i (fun b e=>by cases e;exact ⟨_,a⟩) (by decide)
 replace m:=AB m i (fun b e=>by cases e;exact ⟨_,a⟩) (by decide)
 have h:=h.grow i (by rintro _ ⟨⟩;omega)
 replace j:=CR j i (by rintro _ ⟨⟩;omega)
 clear a
 refine Aq<|Pw.retCq O O ‹_› underlying79 O O O ?_
 refine ⟨⟨k,H,y,ns,s,n,p⟩,rfl,D,j,⟨_,_,h⟩,d.mono (by omega),m.mono (by omega),fun b e=> ?_,fun b e=> ?_,fun b h1 h2=> ?_⟩
 ·have:=d.lt b e;omega
 ·have:=m.lt b e;omega
 ·have:=i5 b h1
  have:=(m.lt b h2).1
  omega
end Go.Proofs.YtblbopcaflaldaaGreatDoor

namespace Go.Proofs.YtblbopcaflaldaaGreatDoor
open Go Go.Dd Go.RowKit List Go.Proofs.Tryz
set_option maxRecDepth 100000
-- dd: text
structure Lp (w:World) (B Ag:Nat) (ls:List N5) (vn:Value):Prop where
 g:AK w Ag 24 [vn]
 o:w.ownsRow B 79 5 vn ls.length (HT N5.cells ls)
 lay:FK w B w.heap.size ls
theorem Lp.bs {w w' :World} {B b:Nat} {ls:List N5} {a:Value} (h:Lp w B b ls a) (g:Below w.heap.size w w'):Lp w' B b ls a:=⟨h.g.bs g,AG h.o g,(h.lay.bs g).top g.size⟩
theorem Lp.ob {w w' :World} {B c X:Nat} {ls:List N5} {a:Value} {T:TypeId} {cs:List Value} (h:Lp w B c ls a) (g:w.grownBy w' (some X)) (f:AK w X T cs) (j:3≠T) (i:24≠T) (k:79≠T):Lp w' B c ls a:=by
 have d:∀b,some X=some b→∃cs,AK w b T cs:=fun b e=>by cases e;exact ⟨_,f⟩
 refine ⟨h.g.by g fun e=> ?_,DX h.o g d k,(h.lay.other g d j).top g.size⟩
 have e:=Option.some.inj e
 subst e
 exact i (DE h.g f)
theorem Lp.gn {w:World} {B c:Nat} {ls:List N5} {b:Value} (h:Lp w B c ls b):GN w b ls:=⟨AH h.o,fun a d=>(h.lay.each a d).at⟩
theorem ES {w w' :World} {X Y:Nat} {T U:TypeId} {cs ds:List Value} (h:AK w X T cs) (g:w.grownBy w' (some Y)) (k:AK w Y U ds) (a:T≠U):AK w' X T cs:=h.by g fun e=>by
 have e:=Option.some.inj e
 subst e
 exact a (DE h k)
theorem Ik {w w' :World} {X:Nat} {T U:TypeId} {cs:List Value} {r:Option Nat} (h:AK w X T cs) (g:w.grownBy w' r) (k:∀b,r=some b→∃ds,AK w b U ds) (a:T≠U):AK w' X T cs:=h.by g fun e=>by
 obtain ⟨ds,k⟩:=k X e.symm
 exact a (DE h k)
set_option maxHeartbeats 1000000 in
theorem Om (W w:World) (A t Ac X V K M B:Nat) (v H:Value) (l:List (List UInt8)) (ls:List N5) (hG:HZ W) (E:Ku W w A v l) (hl:∀x ∈ l,x.length≤65536) (hn:l.length≤65537) (h0:0<l.length) (R:BF w K .string Sh) (T:BF w M (.int .u8) RD) (Z:M≠A)
  (s:Lp w B t ls H) (h32:ls.length≤32) (f:AK w Ac 137 [.pointer (some ⟨A,0,none⟩)]) (k:AK w X 135 [.map (some K)]) (h:AK w V 122 [.map (some M)]) (hB:B≤w.heap.size) (hgB:t<B):
  H6 prog 126 [.pointer (some ⟨t,0,none⟩), .pointer (some ⟨Ac,0,none⟩), .pointer (some ⟨X,0,none⟩), .pointer (some ⟨V,0,none⟩)] w LU
   (fun r w' =>r= .tuple #[]∧∃c Y,CF l=some (pn c)∧FA (fun b=>b=A∨b=t∨H.ownBlock=some b) w w' ∧Lp w' B t (ls++[c]) Y)
   (fun w' =>CF l=none∧FA (fun b=>b=A∨b=t∨H.ownBlock=some b) w w' ∧Lp w' B t ls H):=by
 refine Dk (n:=13) func126 (by kernel_rfl) O O O ?_
 refine Cw.any mixed (fun J F _=> ?_)
 have d:FA (fun b=>b=A∨b=t∨H.ownBlock=some b) w J:=FA.of_below F
 have E:=E.bs F
 have s:=s.bs F
 have f:=f.bs F
 have k:=k.bs F
 have h:=h.bs F
 have R:=R.bs F
 have T:=T.bs F
 have zd:=F.size
 have j:=s.g
 clear F
 refine Aw.seg (St:=(N5×Value×Value)) (g:=1) [0,1,2,3,4,5,6,7,8] 9 (fun z=>[(11,z.2.1),(12, .pointer (some ⟨t,0,none⟩))]) (fun z w' =>CF l=some (pn z.1)∧FA (fun b=>b=A∨b=t∨H.ownBlock=some b) w w' ∧AK w' t 24 [H]∧w'.ownsRow B 79 5 z.2.1 (ls++[z.1]).length (HT N5.cells (ls++[z.1]))∧FK w' B w'.heap.size (ls++[z.1])) (by kernel_rfl) O ?_ ?_
 ·refine Dc (fun x=>AK x t 24 [H]∧AK x Ac 137 [.pointer (some ⟨A,0,none⟩)]∧AK x X 135 [.map (some K)]∧AK x V 122 [.map (some M)]) (fun hC=> ?_) (⟨j,f,k,h⟩)
  refine B8 (Az Df)<|Aj 0 O (fun J a=>Cr underlying24 O (BW _)) O<|Aj 1 O (fun J a=>An (DH _) O (by first|exact a.1|exact a.2.1|exact a.2.2.1|exact a.2.2.2) O) O<|Aj 2 O (fun J a=>An (Rq _) O (by first|exact a.1|exact a.2.1|exact a.2.2.1|exact a.2.2.2) O) O<|Aj 3 O (fun J a=>An (Pl _) O (by first|exact a.1|exact a.2.1|exact a.2.2.1|exact a.2.2.2) O) O<|Aj 4 O (fun J a=>An (Pn _) O (by first|exact a.1|exact a.2.1|exact a.2.2.1|exact a.2.2.2) O) O<|Br ?_
  refine AR.only ((by refine ⟨?_, ?_, ?_, ?_⟩<;>assumption)) (i:=5) (by kernel_rfl) O ?_
  refine Cf O O (QS W J A K M v l hG E hl hn h0 R T Z) (fun w' hK=>Bc (Bc (Cj (⟨hK.1,d.grown hK.2 (fun b e=>by cases e;exact .inl (.inl rfl)),s.ob hK.2 E.cell (by decide) (by decide) (by decide)⟩)))) ?_
  rintro _ w2 ⟨c,rfl,U,G, -,a⟩
  have d:=d.grown G (fun b e=>by cases e;exact .inl (.inl rfl))
  have m:=FK.snoc a G.size (s.lay.other G (fun b e=>by cases e;exact ⟨_,E.cell⟩) (by decide)) (AQ _)
  have s:=s.ob G E.cell (by decide) (by decide) (by decide)
  replace j:=s.g
  replace f:=ES f G E.cell (by decide)
  replace k:=ES k G E.cell (by decide)
  replace h:=ES h G E.cell (by decide)
  have z2:=G.size
  have oc:=a.at.ones
  clear E R T G
  refine AR.back ?_
  refine AR.only ((by refine ⟨?_, ?_, ?_, ?_⟩<;>assumption)) (i:=6) (by kernel_rfl) O ?_
  refine Ar (Fk (cs:=c.cells) BX GK O O (by decide) (by decide)) O ?_
  rintro q w3 ⟨N, -,o, -⟩
  have z3:=o.size
  have d:=d.below o
  have s:=s.bs o
  replace j:=s.g
  have f:=f.bs o
  have k:=k.bs o
  have h:=h.bs o
  replace m:=(m.bs o).top o.size
  refine AR.back ?_
  refine AR.only ((by refine ⟨?_, ?_, ?_, ?_⟩<;>assumption)) (i:=7) (by kernel_rfl) O ?_
  refine Ar (Co (base:=B) BX GK O (by decide) O O s.o (AH N) oc (by omega) (by omega) (by omega)) O ?_
  rintro y w4 ⟨D, -,p, -⟩
  have C:∀b,H.ownBlock=some b→∃cs,AK w3 b 79 cs:=fun b e=>AW.ty (.inl s.o) e
  have d:=d.grown p (fun b e=> .inl (.inr (.inr e)))
  replace j:=Ik j p C (by decide)
  replace f:=Ik f p C (by decide)
  replace k:=Ik k p C (by decide)
  replace h:=Ik h p C (by decide)
  replace m:=(m.other p C (by decide)).top p.size
  clear s N
  refine AR.back<|B8 (Az Df)<|Aj 8 O (fun J a=>Cr underlying24 O (BW _)) O<|Br ?_
  refine AR.done ((by refine ⟨?_, ?_, ?_, ?_⟩<;>assumption)) (by kernel_rfl) ?_
  exact A3 (Pw.seg ((c,y,y)) ⟨rfl,rfl,trivial⟩ (⟨U,d,j,by rw [length_append,KZ];exact D,m⟩))
 clear E s f k h R T j d
 rintro ⟨c,y,y2⟩ w4 ⟨U,d,j,D,S⟩
 dsimp only at U D S ⊢
 refine Aw.only (i:=9) (by kernel_rfl) O<|Ax (B5 (u:=y) (BW _) O O (AH D).one' j (show 0<1 by decide)) ?_
 rintro w5 ⟨Q,I, -⟩
 have L:∀b,some t=some b→∃cs,AK w4 b 24 cs:=fun b e=>by cases e;exact ⟨_,j⟩
 refine Aw.back<|Aw.done (by kernel_rfl)<|Fl O ?_
 exact ⟨rfl,c,y,U,d.grown I (fun b e=>by cases e;exact .inl (.inr (.inl rfl))),Q,DX D I L (by decide),(S.other I L (by decide)).top I.size⟩

theorem Ij (u:Value) (n:Nat) (xs:List Value) (w:World) (a:Sl w 5 u n xs):AO prog 58 [u] w (fun r w' =>r=clip u∧Below w.heap.size w w'):=by
 refine A5 (n:=9) func58 O<|Ah<|Ab O<|Au<|Ad O<|Ad O<|Aa (Ay BX O ‹_›) O ?_
 refine Ad O<|Aa (Ay BX O ‹_›) O ?_
 exact Aa (Fj BX rfl rfl rfl a.shp) rfl<|Ab rfl<|Aq<|Am rfl rfl<|⟨rfl,Below.refl _ _⟩
theorem Kl (u:Value) (n:Nat) (xs:List Value) (w:World) (a:Sl w 2 u n xs):AO prog 59 [u] w (fun r w' =>r=clip u∧Below w.heap.size w w'):=by
 refine A5 (n:=9) func59 O<|Ah<|Ab O<|Au<|Ad O<|Ad O<|Aa (Ay Iw O ‹_›) O ?_
 refine Ad O<|Aa (Ay Iw O ‹_›) O ?_
 exact Aa (Fj Iw rfl rfl rfl a.shp) rfl<|Ab rfl<|Aq<|Am rfl rfl<|⟨rfl,Below.refl _ _⟩
theorem Ph (a:Value) (c:a.cells=[a].toArray):Tryz.prog.built 99 [(0,a)]=some [a].toArray:=by
 have b:Tryz.prog.info? 99=some Tryz.t99:=by kernel_rfl
 have d:Tryz.prog.info? 28=some Tryz.t28:=by kernel_rfl
 simp [Program.built,b,underlying99,d,Instr.fill,c]
 rfl
theorem Oe {l:Bs} {ns:List PN} {ws:List PV} {r:Bs} (h:DG l=some (ns,ws,r)):∃d,EI (Ky ns) d=some (ws,r):=by
 unfold DG at h
 cases h1:HE l with
 |none=>rw [h1] at h;cases h
 |some q=>
  obtain ⟨b,c⟩:=q
  rw [h1] at h
  simp only at h
  cases h2:CJ b.toNat c with
  |none=>rw [h2] at h;cases h
  |some q2=>
   obtain ⟨a,l2⟩:=q2
   rw [h2] at h
   simp only at h
   cases h3:EI (Ky a) l2 with
   |none=>rw [h3] at h;cases h
   |some q3=>
    obtain ⟨e,f⟩:=q3
    rw [h3] at h
    cases h
    exact ⟨l2,h3⟩
def Sj (W w:World) (r:Value) (l:Bs):Prop:=∃vn vw ls ts,r= .tuple #[.agg [vn,vw].toArray, .int .i64 (KX l)]∧(ls.map pn,ts.map pv)=(OM l).getD ([],[])∧Sf w W.heap.size w.heap.size vn vw ls ts
theorem O1 (w:World) {b a:Nat} (h:b≤a):Sf w b a (.slice none 0 0) (.slice none 0 0) [] []:=⟨⟨a,h,AQ _⟩, .inl ⟨rfl, .inl ⟨rfl,rfl⟩⟩, .inl ⟨rfl, .inl ⟨rfl,rfl⟩⟩⟩
theorem Hu {W w:World} {l:Bs} {e:Int} (c:W.heap.size≤w.heap.size) (a:KX l=e) (b:OM l=none):Sj W w (.tuple #[.agg [.slice none 0 0, .slice none 0 0].toArray, .int .i64 e]) l:=
 ⟨_,_,[],[],by rw [a],by rw [b];rfl,O1 w c⟩
set_option maxHeartbeats 1000000 in
theorem LA (v:Value) (l:Bs) (W:World) (hv:BG b8 W v l):AO prog 14 [v] W (fun r w' =>Below W.heap.size W w' ∧Sj W w' r l):=by
 have hle:=hv.le
 refine A5 (n:=63) func14 O<|Ah<|C8 My O ?_
 rintro o w eA_m B I zhB
 have zm:=I.size
 have ym:=AY B
 have K:=hv.bs I
 refine Ab O<|Au<|Ad O<|Aa (Ay AV O ‹_›) O ?_
 refine Aa (Ej O O (by omega)) O<|Ab O<|Ba<|Ad O<|B9 O<|Ak<|Al O ?_ ?_
 ·intro g
  have g:l.length<4:=by have:=AE g;omega
  refine Ah<|Aa (Bu (JK _) (Ju _) O O ‹_›) O ?_
  refine Ax (Ci (cs:=[.slice none 0 0, .slice none 0 0]) O O O O O B O) ?_
  rintro w2 ⟨B,V,hz⟩
  have I:=I.grown V zm (by rintro _ ⟨⟩;omega)
  refine Ab O<|Bl<|De O O O ‹_› underlying27 O O O ?_
  exact ⟨I,Hu (AA I) (by simp [KX,g]) (by simp [OM,g])⟩
 intro g
 have g:4≤l.length:=by have:=AC g;omega
 obtain ⟨n,s⟩:∃n,n=l.length - 4:=⟨_,rfl⟩
 have nE:KX l=if gf (l.drop n)≠Crc.of (l.take n) then 11 else if (GL (l.take n)).isSome then 0 else 4:=by rw [KX,if_neg (by omega),← s]
 have nR:OM l=if gf (l.drop n)≠Crc.of (l.take n) then none else GL (l.take n):=by rw [OM,if_neg (by omega),← s]
 have X:n≤l.length:=by omega
 refine Fa 4 (v' := .int .i64 (n:Int)) O (cngA (Value.int .i64) (by omega))<|B2<|Ap<|Ah<|Ad O<|Ad O<|Aa (Fi (i:=n) AV O O K X) O ?_
 have l4:¬(l.drop n).length<4:=by rw [length_drop];omega
 refine Ai O O (JB (cut v 1 n l.length) (l.drop n) w (BG.drop K X)) ?_
 rintro _ w2 ⟨rfl,hn2⟩
 rw [if_neg l4,if_neg l4]
 replace I:=bt I hn2
 have B:=B.bs hn2
 have K:=K.bs hn2
 refine Ad O<|Aa (Ex.extract (i:=0) O O) O<|Aa (Ex.extract (i:=1) O O) O<|Ab O<|Ab O<|Au<|Ad O<|Ad O<|Ad O<|Aa (E8 (j:=n) AV O O K X) O<|Ai O O (RL (cut v 1 0 n) (l.take n) w2 (BG.take K X)) ?_
 rintro _ w3 ⟨rfl,hn3⟩
 replace I:=bt I hn3
 have B:=B.bs hn3
 have K:=K.bs hn3
 have z3:=AA I
 have y3:o<w3.heap.size:=AY B
 clear hn2 hn3 l4
 refine Aa (Ex.neq32 O O) O<|Ak<|Al O ?_ ?_
 ·intro g2
  have g2:gf (l.drop n)≠Crc.of (l.take n):=by simpa using g2
  rw [if_pos g2] at nE nR
  refine Ah<|Aa (Bu (JK _) (Ju _) O O ‹_›) O ?_
  refine Ax (Ci (cs:=[.slice none 0 0, .slice none 0 0]) O O O O O B O) ?_
  rintro w4 ⟨B,V,hz⟩
  have I:=I.grown V z3 (by rintro _ ⟨⟩;omega)
  refine Ab O<|Bl<|De O O O ‹_› underlying27 O O O ?_
  exact ⟨I,Hu (AA I) nE nR⟩
 intro g2
 have g2:¬gf (l.drop n)≠Crc.of (l.take n):=by simpa using g2
 rw [if_neg g2] at nE nR
 have s_t:=BG.take K X
 refine Ca<|Ad O<|Ad O<|Aa (E8 (j:=n) AV O O K X) O<|Aa (Bg (vs:=[(0,cut v 1 0 n)]) (cs:=[cut v 1 0 n]) O (Ph _ s_t.one)) O<|Ar (Xw.box (cs:=[cut v 1 0 n]) O O) O ?_
 rintro _ w4 ⟨rfl,b_A,hn4,hz4⟩
 replace I:=bt I hn4
 have B:=B.bs hn4
 refine Fv (u:= .pointer (some ⟨w3.heap.size,0,none⟩)) RW R5 O (fun _=>rfl) (rfl) ?_
 rintro M w5 eA_c b_c hn5 zhn5
 replace I:=bt I hn5
 have B:=B.bs hn5
 have b_A:=b_A.bs hn5
 have y5:=AY b_c
 have z5:=hn5.size
 obtain ⟨lt,hlt⟩:∃t,t=l.take n:=⟨_,rfl⟩
 have s_t0:BG b8 W (cut v 1 0 n) lt:=by rw [hlt];exact BG.take hv X
 rw [← hlt] at nE nR
 have hp:∀N A,N=w5.heap.size→Below w5.heap.size w5 A→AK A N 4 [.bool false]→
   H6 prog 51 [.pointer (some ⟨M,0,none⟩), .pointer (some ⟨o,0,none⟩)] A LU
    (fun r w' =>r= .tuple #[]∧AK w' N 4 [.bool false]∧∃A z ls ts D E,Below w5.heap.size w5 A∧N<A.heap.size∧AK w' N 4 [.bool false]∧DG lt=some (ls.map pn,ts.map pv,z)∧Gt W A w' M w3.heap.size o w'.heap.size z ls D ts E)
    (fun w' =>AK w' N 4 [.bool false]∧DG lt=none∧∃A,Below w5.heap.size w5 A∧N<A.heap.size∧Kt A w' w3.heap.size o):=fun N A eA' hk b_k=>by
  have zk:=hk.size
  have L:Qz W A M w3.heap.size o:=⟨by omega,by omega,by omega,by omega,by omega,by omega⟩
  have hG:Gt W A A M w3.heap.size o A.heap.size lt [] (.slice none 0 0) [] (.slice none 0 0):=
   ⟨FA.refl _ _,b_c.bs hk,B.bs hk,⟨_,s_t0,bt I hk,z3,b_A.bs hk⟩,⟨rfl, .inl ⟨rfl,rfl⟩⟩,⟨rfl, .inl ⟨rfl,rfl⟩⟩,⟨A.heap.size,AQ _,AQ _⟩,AQ _⟩
  have nS:¬(N=w3.heap.size∨N=o):=by omega
  exact (Rh W A M w3.heap.size o lt L hG).mono (fun r w' ⟨h1,z,ls,ts,D,E,h2,h3⟩=>⟨h1,b_k.chg h3.chg nS,A,z,ls,ts,D,E,hk,AY b_k,b_k.chg h3.chg nS,h2,h3⟩) fun w' ⟨h1,h2⟩=>⟨b_k.chg h2.1 nS,h1,A,hk,AY b_k,h2⟩
 refine Au<|Aa (Ek (vs:=[]) (us:=[.pointer (some ⟨M,0,none⟩), .pointer (some ⟨o,0,none⟩)]) O O) O<|Ai O O (Jy 51 [.pointer (some ⟨M,0,none⟩), .pointer (some ⟨o,0,none⟩)] w5 (fun N w' =>∃A z ls ts D E,Below w5.heap.size w5 A∧N<A.heap.size∧AK w' N 4 [.bool false]∧DG lt=some (ls.map pn,ts.map pv,z)∧Gt W A w' M w3.heap.size o w'.heap.size z ls D ts E) (fun N w' =>DG lt=none∧∃A,Below w5.heap.size w5 A∧N<A.heap.size∧Kt A w' w3.heap.size o) hp) ?_
 rintro _ w6 ⟨N,w0,eA',V,⟨rfl,A,z,ls,ts,D,E,hk,hAk,b_k0,hrd,h⟩|⟨rfl,hrd,A,hk,hAk,hK⟩⟩
 ·have zk:=hk.size
  have L:Qz W A M w3.heap.size o:=⟨by omega,by omega,by omega,by omega,by omega,by omega⟩
  obtain ⟨vr,hr⟩:=h.r
  obtain ⟨mid,J,l2⟩:=h.lay
  have ltA:N<w0.heap.size:=by have:=h.chg.size;omega
  have hB0:Below W.heap.size W w0:=(bt I hk).trans (h.chg.to_below (by rintro k (rfl|rfl)<;>omega) (by omega))
  have d:=hB0.grown V (AA hB0) (by rintro _ ⟨⟩;omega)
  have c6:=h.c.by V (fun e=>by have:=Option.some.inj e;omega)
  have c:=h.m.by V (fun e=>by have:=Option.some.inj e;omega)
  have r6:=hr.grow V (fun b e=>by cases e;omega)
  have H:=BE h.o fun b e=>V.block b (AD h.o b e).2 fun e2=>by have:=Option.some.inj e2;have:=(AD h.o b e).1;omega
  have G:=BE h.u fun b e=>V.block b (AD h.u b e).2 fun e2=>by have:=Option.some.inj e2;have:=(AD h.u b e).1;omega
  have tk:∀b,some N=some b→∃cs,AK w0 b 4 cs:=fun b e=>by cases e;exact ⟨_,b_k0⟩
  have J:=J.other V tk (by decide)
  have l2:=l2.other V tk (by decide) (by decide)
  have s_r:=r6.sl.bs d
  have b_A6:=r6.cell
  have h_g:GN w6 D ls:=⟨AH H,fun a ha=>(J.each a ha).at⟩
  have h_w:Lm w6 E ts:=⟨AH G,fun a ha=>(l2.each a ha).at⟩
  have eB:GL lt=if z=[]∧(EU ls).isSome=true then some (ls.map pn,ts.map pv) else none:=by rw [GL,hrd];simp only [GB]
  have z6:=V.size
  have z60:=AA d
  clear h hr b_k0 tk
  refine Ab O<|Ba<|Ad O<|Aa (Cq O) O<|Ad O<|Cd 38 (v' := .bool false) O (cngA Value.bool (rfl))<|Af (dj:=38) O O<|Aa (An (HW _) O ‹_› rfl) O ?_
  refine Af (dj:=38) O O<|Aa (Cb O) O<|Af (dj:=38) O O<|A6 underlying99 O (Jt _)<|Af (dj:=38) O O<|Aa (An (GP _) O ‹_› rfl) O ?_
  refine Af (dj:=38) O O<|Aa (Ay AV O ‹_›) O ?_
  refine Af (dj:=38) O O<|Aa (C1 O O) O<|B6 O<|Ad O ?_
  refine Bw 46 O ?_ ?_
  ·intro g3
   have g3:0<z.length:=by simpa using g3
   have eN:GL lt=none:=by rw [eB];exact if_neg fun ⟨q,_⟩=>by rw [q] at g3;exact absurd g3 (by decide)
   refine Ae (dj:=46) O O O O<|Ae (dj:=46) O O O O<|Ae (dj:=46) O O O O<|Bi O<|Ak<|Bn O<|Ah<|Lw.z2 O<|Ax (Ci (cs:=[.slice none 0 0, .slice none 0 0]) (k:=2) (by kernel_rfl) O O O O c O) ?_
   rintro w9 ⟨S,m, -⟩
   have C:=d.grown m (AA d) (by rintro _ ⟨⟩;omega)
   refine Ab O<|Bl<|De O O O ‹_› underlying27 O O O ?_
   exact ⟨C,Hu (AA C) (by rw [nE,eN];rfl) (by rw [nR,eN])⟩
  intro g3
  have g3:z=[]:=eq_nil_of_length_eq_zero (by have:¬0<z.length:=(by simpa using g3);omega)
  rw [g3] at eB
  refine Af (dj:=46) O O<|Aa (Bu (k:=2) (JK _) (Ju _) O O c) O<|Af (dj:=46) O O<|Ai O O (RN D E ls ts w6 h_g h_w) ?_
  rintro _ w7 ⟨rfl,U⟩
  obtain ⟨l',hw'⟩:=Oe hrd
  have hmay:=O2 hw'
  rw [hmay]
  replace d:=bt d U
  have c:=c.bs U
  replace H:=AG H U
  replace G:=AG G U
  have J:=J.bs U
  have l2:=l2.bs U
  have z7:=U.size
  clear U h_g h_w s_r b_A6 r6 c6
  refine Af (dj:=46) O O<|Aa (Cq O) O<|B6 O<|Ak<|Al O ?_ ?_
  ·intro g4
   have g4:(EU ls).isSome=false:=by simpa using g4
   have eN:GL lt=none:=by rw [eB];exact if_neg fun ⟨_,q⟩=>by rw [g4] at q;cases q
   refine Ah<|Lw.z2 O<|Ax (Ci (cs:=[.slice none 0 0, .slice none 0 0]) (k:=2) (by kernel_rfl) O O O O c O) ?_
   rintro w9 ⟨S,m, -⟩
   have C:=d.grown m (AA d) (by rintro _ ⟨⟩;omega)
   refine Ab O<|Bl<|De O O O ‹_› underlying27 O O O ?_
   exact ⟨C,Hu (AA C) (by rw [nE,eN];rfl) (by rw [nR,eN])⟩
  intro g4
  have g4:(EU ls).isSome=true:=by simpa using g4
  rw [if_pos ⟨rfl,g4⟩] at eB
  refine B2<|Ap ?_
  refine Cw.any mixed (fun w8 hd _=> ?_)
  replace d:=bt d hd
  have c:=c.bs hd
  replace H:=AG H hd
  replace G:=AG G hd
  have J:=J.bs hd
  have l2:=l2.bs hd
  have z8:=hd.size
  clear hd
  refine Aw.take (i:=0) (Az Bp) O (by kernel_rfl) (by kernel_rfl) (by kernel_rfl) (fun _=>Cr underlying27 O (BZ _)) O<|Aw.take (i:=1) (Az Bp) O (by kernel_rfl) (by kernel_rfl) (by kernel_rfl) (fun _=>Cr underlying24 O (BW _)) O<|Aw.take (i:=4) (Az Bp) O (by kernel_rfl) (by kernel_rfl) (by kernel_rfl) (fun _=>Cr underlying27 O (FS _)) O ?_
  refine Aw.two (i:=2) (j:=5) (by kernel_rfl) O O ?_ ?_
  refine Aa (An (DH _) O ‹_› rfl) O ?_
  refine Aw.back ?_
  refine Aw.two (i:=3) (j:=5) (by kernel_rfl) O O ?_ ?_
  refine Ai O O (Ij D _ _ _ (AH H)) ?_
  rintro _ w ⟨rfl,s⟩
  have zn:=s.size
  replace d:=bt d s
  have c:=c.bs s
  replace H:=AG H s
  replace G:=AG G s
  have J:=J.bs s
  have l2:=l2.bs s
  refine Aw.back<|Aw.only (i:=5) (by kernel_rfl) O<|Aa (An (Ll _) O ‹_› rfl) O ?_
  refine Aw.back<|Aw.take (i:=7) (Az Bp) O (by kernel_rfl) (by kernel_rfl) (by kernel_rfl) (fun _=>Cr underlying27 O (BZ _)) O<|Aw.take (i:=8) (Az Bp) O (by kernel_rfl) (by kernel_rfl) (by kernel_rfl) (fun _=>Cr underlying24 O (BW _)) O<|Aw.only (i:=6) (by kernel_rfl) O<|Ai O O (Kl E _ _ _ (AH G)) ?_
  rintro _ w ⟨rfl,s⟩
  have zn2:=s.size
  replace d:=bt d s
  have c:=c.bs s
  replace H:=AG H s
  replace G:=AG G s
  have J:=J.bs s
  have l2:=l2.bs s
  refine Aw.back<|Aw.only (i:=9) (by kernel_rfl) O ?_
  have k6:=AW.clip H
  have j6:=AW.clip G
  refine Ax (B5 (u:=clip D) (BW _) O O k6.sl.one' c (show 0<2 by decide)) ?_
  rintro w9 ⟨F,x, -⟩
  have Y:∀b,some o=some b→∃cs,AK _ b 27 cs:=fun b e=>by cases e;exact ⟨_,c⟩
  have k7:=AB k6 x Y (by decide)
  have j7:=AB j6 x Y (by decide)
  have l17:=J.other x Y (by decide)
  have l27:=l2.other x Y (by decide) (by decide)
  have zg7:=x.size
  have T:=d.grown x (AA d) (by rintro _ ⟨⟩;omega)
  refine Aw.back<|Aw.take (i:=10) (Az Bp) O (by kernel_rfl) (by kernel_rfl) (by kernel_rfl) (fun _=>Cr underlying27 O (FS _)) O<|Aw.only (i:=11) (by kernel_rfl) O<|Ax (B5 (u:=clip E) (FS _) O O j7.sl.one' F (show 1<2 by decide)) ?_
  rintro wA ⟨f,y, -⟩
  have Z:∀b,some o=some b→∃cs,AK w9 b 27 cs:=fun b e=>by cases e;exact ⟨_,F⟩
  have k8:=AB k7 y Z (by decide)
  have j8:=AB j7 y Z (by decide)
  have l18:=l17.other y Z (by decide)
  have l28:=l27.other y Z (by decide) (by decide)
  have zg8:=y.size
  have R:=T.grown y (AA T) (by rintro _ ⟨⟩;omega)
  have Q:[clip D,clip E].all (·.oneCell')=true:=by simp [k8.sl.one',j8.sl.one']
  replace f:AK wA o 27 [clip D,clip E]:=f
  refine Aw.back<|Aw.done (by kernel_rfl)<|Cl<|Aa (Bu (k:=2) (JK _) (Ju _) O O f) O<|Ax (Ci (cs:=[clip D,clip E]) (k:=2) (by kernel_rfl) O O O Q f O) ?_
  rintro wB ⟨S,m, -⟩
  have t9:∀b,some o=some b→∃cs,AK wA b 27 cs:=fun b e=>by cases e;exact ⟨_,f⟩
  have k9:=AB k8 m t9 (by decide)
  have j9:=AB j8 m t9 (by decide)
  have l19:=l18.other m t9 (by decide)
  have l29:=l28.other m t9 (by decide) (by decide)
  have zg9:=m.size
  have C:=R.grown m (AA R) (by rintro _ ⟨⟩;omega)
  refine Ab O<|Aq<|De O O O ‹_› underlying27 O O O ?_
  exact ⟨C,clip D,clip E,ls,ts,by rw [nE,eB];rfl,by rw [nR,eB];rfl,⟨mid,Fh l19 (by omega),l29.topM (by omega)⟩,k9.mono (by omega),j9.mono (by omega)⟩
  refine Aa (An (Ll _) O ‹_› rfl) O ?_
  refine Aw.back<|Aw.only (i:=3) (by kernel_rfl) O<|Ai O O (Ij D _ _ _ (AH H)) ?_
  rintro _ w ⟨rfl,s⟩
  have zn:=s.size
  replace d:=bt d s
  have c:=c.bs s
  replace H:=AG H s
  replace G:=AG G s
  have J:=J.bs s
  have l2:=l2.bs s
  refine Aw.back<|Aw.take (i:=7) (Az Bp) O (by kernel_rfl) (by kernel_rfl) (by kernel_rfl) (fun _=>Cr underlying27 O (BZ _)) O<|Aw.take (i:=8) (Az Bp) O (by kernel_rfl) (by kernel_rfl) (by kernel_rfl) (fun _=>Cr underlying24 O (BW _)) O<|Aw.only (i:=6) (by kernel_rfl) O<|Ai O O (Kl E _ _ _ (AH G)) ?_
  rintro _ w ⟨rfl,s⟩
  have zn2:=s.size
  replace d:=bt d s
  have c:=c.bs s
  replace H:=AG H s
  replace G:=AG G s
  have J:=J.bs s
  have l2:=l2.bs s
  refine Aw.back<|Aw.only (i:=9) (by kernel_rfl) O ?_
  have k6:=AW.clip H
  have j6:=AW.clip G
  refine Ax (B5 (u:=clip D) (BW _) O O k6.sl.one' c (show 0<2 by decide)) ?_
  rintro w9 ⟨F,x, -⟩
  have Y:∀b,some o=some b→∃cs,AK _ b 27 cs:=fun b e=>by cases e;exact ⟨_,c⟩
  have k7:=AB k6 x Y (by decide)
  have j7:=AB j6 x Y (by decide)
  have l17:=J.other x Y (by decide)
  have l27:=l2.other x Y (by decide) (by decide)
  have zg7:=x.size
  have T:=d.grown x (AA d) (by rintro _ ⟨⟩;omega)
  refine Aw.back<|Aw.take (i:=10) (Az Bp) O (by kernel_rfl) (by kernel_rfl) (by kernel_rfl) (fun _=>Cr underlying27 O (FS _)) O<|Aw.only (i:=11) (by kernel_rfl) O<|Ax (B5 (u:=clip E) (FS _) O O j7.sl.one' F (show 1<2 by decide)) ?_
  rintro wA ⟨f,y, -⟩
  have Z:∀b,some o=some b→∃cs,AK w9 b 27 cs:=fun b e=>by cases e;exact ⟨_,F⟩
  have k8:=AB k7 y Z (by decide)
  have j8:=AB j7 y Z (by decide)
  have l18:=l17.other y Z (by decide)
  have l28:=l27.other y Z (by decide) (by decide)
  have zg8:=y.size
  have R:=T.grown y (AA T) (by rintro _ ⟨⟩;omega)
  have Q:[clip D,clip E].all (·.oneCell')=true:=by simp [k8.sl.one',j8.sl.one']
  replace f:AK wA o 27 [clip D,clip E]:=f
  refine Aw.back<|Aw.done (by kernel_rfl)<|Cl<|Aa (Bu (k:=2) (JK _) (Ju _) O O f) O<|Ax (Ci (cs:=[clip D,clip E]) (k:=2) (by kernel_rfl) O O O Q f O) ?_
  rintro wB ⟨S,m, -⟩
  have t9:∀b,some o=some b→∃cs,AK wA b 27 cs:=fun b e=>by cases e;exact ⟨_,f⟩
  have k9:=AB k8 m t9 (by decide)
  have j9:=AB j8 m t9 (by decide)
  have l19:=l18.other m t9 (by decide)
  have l29:=l28.other m t9 (by decide) (by decide)
  have zg9:=m.size
  have C:=R.grown m (AA R) (by rintro _ ⟨⟩;omega)
  refine Ab O<|Aq<|De O O O ‹_› underlying27 O O O ?_
  exact ⟨C,clip D,clip E,ls,ts,by rw [nE,eB];rfl,by rw [nR,eB];rfl,⟨mid,Fh l19 (by omega),l29.topM (by omega)⟩,k9.mono (by omega),j9.mono (by omega)⟩
  refine Aa (An (Ll _) O ‹_› rfl) O ?_
  refine Aw.back<|Aw.only (i:=2) (by kernel_rfl) O<|Aa (An (DH _) O ‹_› rfl) O ?_
  refine Aw.back<|Aw.only (i:=3) (by kernel_rfl) O<|Ai O O (Ij D _ _ _ (AH H)) ?_
  rintro _ w ⟨rfl,s⟩
  have zn:=s.size
  replace d:=bt d s
  have c:=c.bs s
  replace H:=AG H s
  replace G:=AG G s
  have J:=J.bs s
  have l2:=l2.bs s
  refine Aw.back<|Aw.take (i:=7) (Az Bp) O (by kernel_rfl) (by kernel_rfl) (by kernel_rfl) (fun _=>Cr underlying27 O (BZ _)) O<|Aw.take (i:=8) (Az Bp) O (by kernel_rfl) (by kernel_rfl) (by kernel_rfl) (fun _=>Cr underlying24 O (BW _)) O<|Aw.only (i:=6) (by kernel_rfl) O<|Ai O O (Kl E _ _ _ (AH G)) ?_
  rintro _ w ⟨rfl,s⟩
  have zn2:=s.size
  replace d:=bt d s
  have c:=c.bs s
  replace H:=AG H s
  replace G:=AG G s
  have J:=J.bs s
  have l2:=l2.bs s
  refine Aw.back<|Aw.only (i:=9) (by kernel_rfl) O ?_
  have k6:=AW.clip H
  have j6:=AW.clip G
  refine Ax (B5 (u:=clip D) (BW _) O O k6.sl.one' c (show 0<2 by decide)) ?_
  rintro w9 ⟨F,x, -⟩
  have Y:∀b,some o=some b→∃cs,AK _ b 27 cs:=fun b e=>by cases e;exact ⟨_,c⟩
  have k7:=AB k6 x Y (by decide)
  have j7:=AB j6 x Y (by decide)
  have l17:=J.other x Y (by decide)
  have l27:=l2.other x Y (by decide) (by decide)
  have zg7:=x.size
  have T:=d.grown x (AA d) (by rintro _ ⟨⟩;omega)
  refine Aw.back<|Aw.take (i:=10) (Az Bp) O (by kernel_rfl) (by kernel_rfl) (by kernel_rfl) (fun _=>Cr underlying27 O (FS _)) O<|Aw.only (i:=11) (by kernel_rfl) O<|Ax (B5 (u:=clip E) (FS _) O O j7.sl.one' F (show 1<2 by decide)) ?_
  rintro wA ⟨f,y, -⟩
  have Z:∀b,some o=some b→∃cs,AK w9 b 27 cs:=fun b e=>by cases e;exact ⟨_,F⟩
  have k8:=AB k7 y Z (by decide)
  have j8:=AB j7 y Z (by decide)
  have l18:=l17.other y Z (by decide)
  have l28:=l27.other y Z (by decide) (by decide)
  have zg8:=y.size
  have R:=T.grown y (AA T) (by rintro _ ⟨⟩;omega)
  have Q:[clip D,clip E].all (·.oneCell')=true:=by simp [k8.sl.one',j8.sl.one']
  replace f:AK wA o 27 [clip D,clip E]:=f
  refine Aw.back<|Aw.done (by kernel_rfl)<|Cl<|Aa (Bu (k:=2) (JK _) (Ju _) O O f) O<|Ax (Ci (cs:=[clip D,clip E]) (k:=2) (by kernel_rfl) O O O Q f O) ?_
  rintro wB ⟨S,m, -⟩
  have t9:∀b,some o=some b→∃cs,AK wA b 27 cs:=fun b e=>by cases e;exact ⟨_,f⟩
  have k9:=AB k8 m t9 (by decide)
  have j9:=AB j8 m t9 (by decide)
  have l19:=l18.other m t9 (by decide)
  have l29:=l28.other m t9 (by decide) (by decide)
  have zg9:=m.size
  have C:=R.grown m (AA R) (by rintro _ ⟨⟩;omega)
  refine Ab O<|Aq<|De O O O ‹_› underlying27 O O O ?_
  exact ⟨C,clip D,clip E,ls,ts,by rw [nE,eB];rfl,by rw [nR,eB];rfl,⟨mid,Fh l19 (by omega),l29.topM (by omega)⟩,k9.mono (by omega),j9.mono (by omega)⟩
 have zk:=hk.size
 obtain ⟨hC,p,q,b_m0⟩:=hK
 have hB0:Below W.heap.size W w0:=(bt I hk).trans (hC.to_below (by rintro k (rfl|rfl)<;>omega) (by omega))
 have d:=hB0.grown V (AA hB0) (by rintro _ ⟨⟩;omega)
 have c:=b_m0.by V (fun e=>by have:=Option.some.inj e;omega)
 have eN:GL lt=none:=by rw [GL,hrd]
 refine Ab O<|Ba<|Ad O<|Aa (Cq O) O<|Ad O<|Cd 38 (v' := .bool true) O (cngA Value.bool (rfl))<|Ae (dj:=38) O O O O<|Ae (dj:=38) O O O O<|Ae (dj:=38) O O O O<|Ae (dj:=38) O O O O<|Ae (dj:=38) O O O O<|Ae (dj:=38) O O O O<|Bi O<|Ad O<|Ae (dj:=46) O O O O<|Ae (dj:=46) O O O O<|Ae (dj:=46) O O O O<|Bi O<|Ak<|Bn O<|Ah<|Lw.z2 O<|Ax (Ci (cs:=[.slice none 0 0, .slice none 0 0]) (k:=2) (by kernel_rfl) O O O O c O) ?_
 rintro w9 ⟨S,m, -⟩
 have C:=d.grown m (AA d) (by rintro _ ⟨⟩;omega)
 refine Ab O<|Bl<|De O O O ‹_› underlying27 O O O ?_
 exact ⟨C,Hu (AA C) (by rw [nE,eN];rfl) (by rw [nR,eN])⟩
end Go.Proofs.YtblbopcaflaldaaGreatDoor
